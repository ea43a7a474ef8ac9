/- LiftTopBounds: joined, no condition of its own. -/
import Derived.Test.YtmdcencmiopmmaaGreatTbJoinJ8
import Derived.Test.YtmdcencmiopmmaaGreatTbJoinJ39
import Derived.Test.YtmdcencmiopmmaaGreatTbJoinJ14
import Derived.Test.YtmdcencmiopmmaaGreatTbJoinJ27
import Derived.Test.YtmdcencmiopmmaaGreatTbJoinJ28
import Derived.Test.YtmdcencmiopmmaaGreatTbJoinJ29
import Derived.Test.YtmdcencmiopmmaaGreatTbJoinJ31
import Derived.Test.YtmdcencmiopmmaaGreatTbJoinJ32
import Derived.Test.YtmdcencmiopmmaaGreatTbJoinJ34
import Derived.Test.YtmdcencmiopmmaaGreatTbJoinJ35
import Derived.Test.YtmdcencmiopmmaaGreatTbJoinJ38
import Derived.Test.YtmdcencmiopmmaaGreatTbJoinJ37
import Derived.Test.YtmdcencmiopmmaaGreatTbJoinJ1
import Derived.Test.YtmdcencmiopmmaaGreatRows
set_option linter.unusedVariables false
set_option linter.unusedSimpArgs false
set_option maxRecDepth 100000
set_option maxHeartbeats 12000000
namespace Go.Proofs.YtmdcencmiopmmaaGreat
open Go.RowKit
theorem uD(W0:World)(F G:Nat->Prop)(B K:Nat)(S:SS)(ca cb cc cd ce:Int)(w:World)(h:Zw F G w B S)(hI:Qt K S)(hm:S.mode=0)(hc:0<=ca/\ca<=999)(hK:K<=4398046511103)(hn:S.told.length+K+2<=4398046511103)(h0:cc≠0):
  Calls Tryz.prog 90 #[.pointer (some ⟨B,0,none⟩),.agg #[.int .i64 ca,.int .i64 cb,.int .i64 cc,.int .i64 cd,.int .i64 ce]] w (VP F G w B (S.command W0 ⟨ca,cb,cc,cd,ce⟩) XU):=by
 obtain⟨f,hf⟩:=h;have hb1:=QC w (.cells #[.int .i64 ca,.int .i64 cb,.int .i64 cc,.int .i64 cd,.int .i64 ce] 87);have Yw:=QD.new w #[.int .i64 ca,.int .i64 cb,.int .i64 cc,.int .i64 cd,.int .i64 ce] 87;have hA1:=(At.begin hf).below hb1;obtain⟨p,hpt⟩:=hf.d.text.ptr;have c0:=hA1.hf.cell 0;have htx:=hA1.hf.d.text;rw[hpt]at c0 htx;have HT:=QQ (Ul.list htx (by have:=hI.tl;omega));have HI:=QQ hI;have HN:=QQ hn;have HA1:=QQ hA1;have HM:=QQ hm;have he:S.command W0 ⟨ca,cb,cc,cd,ce⟩=(S.Ju W0 ⟨ca,cb,cc,cd,ce⟩).1:=by
  unfold SS.command;dsimp only;rw[if_pos h0]
 have HE:=QQ he;clear hI hn hf hb1 hA1 hpt htx he hm;go_enter Tryz.func90,Tryz.ntmps90
 go_wp2_with fail
 refine HT.out.mono ?_;rintro e w2 ⟨v,rfl,o2,hb2⟩;obtain⟨a2,n2,k2,rfl⟩:=o2.form;have hA2:=HA1.out.below hb2;obtain⟨d0,d1,d2,d3,d4⟩:=QD.five (Yw.below hb2 Yw.lt);clear c0 Yw;have h1:(cc !=0)=true:=by simpa using h0
 have HB:=QQ (Gv W0 _ _ B K S ⟨ca,cb,cc,cd,ce⟩ w2 ⟨f,hA2.hf⟩ HI.out HM.out hc (by have:=HN.out;omega));exact Qk3
theorem xM(W0:World)(F G:Nat->Prop)(B K:Nat)(S:SS)(ca cb cc cd ce:Int)(w:World)(h:Zw F G w B S)(hI:Qt K S)(hm:S.mode=0)(hc:0<=ca/\ca<=999)(hK:K<=4398046511103)(hn:S.told.length+K+2<=4398046511103)(h0:cd≠117)(h1:cd≠85)(h2:cd≠46)(h3:cd≠107)(h4:cd≠106)(h5:cd≠71)(h6:cd≠110)(h7:cd≠78)(h8:cd≠47)(h9:cd≠63):
  Calls Tryz.prog 90 #[.pointer (some ⟨B,0,none⟩),.agg #[.int .i64 ca,.int .i64 cb,.int .i64 0,.int .i64 cd,.int .i64 ce]] w (VP F G w B (S.command W0 ⟨ca,cb,0,cd,ce⟩) XU):=by
 obtain⟨f,hf⟩:=h;have hb1:=QC w (.cells #[.int .i64 ca,.int .i64 cb,.int .i64 0,.int .i64 cd,.int .i64 ce] 87);have Yw:=QD.new w #[.int .i64 ca,.int .i64 cb,.int .i64 0,.int .i64 cd,.int .i64 ce] 87;have hA1:=(At.begin hf).below hb1;obtain⟨p,hpt⟩:=hf.d.text.ptr;have c0:=hA1.hf.cell 0;have htx:=hA1.hf.d.text;rw[hpt]at c0 htx;have HT:=QQ (Ul.list htx (by have:=hI.tl;omega));have HI:=QQ hI;have HN:=QQ hn;have HA1:=QQ hA1;have HM:=QQ hm;have he:S.command W0 ⟨ca,cb,0,cd,ce⟩=(S.Ju W0 ⟨ca,cb,0,cd,ce⟩).1:=by
  unfold SS.command;dsimp only;rw[if_neg (by decide),if_neg h0,if_neg h1,if_neg h2,if_neg h3,if_neg h4,if_neg h5,if_neg (by omega),if_neg (by omega)]
 have HE:=QQ he;clear hI hn hf hb1 hA1 hpt htx he hm;go_enter Tryz.func90,Tryz.ntmps90
 go_wp2_with fail
 refine HT.out.mono ?_;rintro e w2 ⟨v,rfl,o2,hb2⟩;obtain⟨a2,n2,k2,rfl⟩:=o2.form;have hA2:=HA1.out.below hb2;obtain⟨d0,d1,d2,d3,d4⟩:=QD.five (Yw.below hb2 Yw.lt);clear c0 Yw;have g0:(cd==117)=false:=by simpa using h0
 have g1:(cd==85)=false:=by simpa using h1
 have g2:(cd==46)=false:=by simpa using h2
 have g3:(cd==107)=false:=by simpa using h3
 have g4:(cd==106)=false:=by simpa using h4
 have g5:(cd==71)=false:=by simpa using h5
 have g6:(cd==110)=false:=by simpa using h6
 have g7:(cd==78)=false:=by simpa using h7
 have g8:(cd==47)=false:=by simpa using h8
 have g9:(cd==63)=false:=by simpa using h9
 have HB:=QQ (Gv W0 _ _ B K S ⟨ca,cb,0,cd,ce⟩ w2 ⟨f,hA2.hf⟩ HI.out HM.out hc (by have:=HN.out;omega));exact Qk3
theorem BQ(W0:World)(F G:Nat->Prop)(B K:Nat)(S:SS)(ca cb cc cd ce:Int)(w:World)(h:Zw F G w B S)(hI:Qt K S)(hm:S.mode=0)(hc:0<=ca/\ca<=999)(hK:K<=4398046511103)(hn:S.told.length+K+2<=4398046511103):
  Calls Tryz.prog 90 #[.pointer (some ⟨B,0,none⟩),.agg #[.int .i64 ca,.int .i64 cb,.int .i64 0,.int .i64 117,.int .i64 ce]] w (VP F G w B (S.command W0 ⟨ca,cb,0,117,ce⟩) XU):=by
 obtain⟨f,hf⟩:=h;have hb1:=QC w (.cells #[.int .i64 ca,.int .i64 cb,.int .i64 0,.int .i64 117,.int .i64 ce] 87);have Yw:=QD.new w #[.int .i64 ca,.int .i64 cb,.int .i64 0,.int .i64 117,.int .i64 ce] 87;have hA1:=(At.begin hf).below hb1;obtain⟨p,hpt⟩:=hf.d.text.ptr;have c0:=hA1.hf.cell 0;have htx:=hA1.hf.d.text;rw[hpt]at c0 htx;have HT:=QQ (Ul.list htx (by have:=hI.tl;omega));have HI:=QQ hI;have HN:=QQ hn;have HA1:=QQ hA1;have HM:=QQ hm;have he:S.command W0 ⟨ca,cb,0,117,ce⟩=S.back:=by
  unfold SS.command;dsimp only;rw[if_neg (by decide)];rw[if_pos rfl]
 have HE:=QQ he;clear hI hn hf hb1 hA1 hpt htx he hm;go_enter Tryz.func90,Tryz.ntmps90
 go_wp2_with fail
 refine HT.out.mono ?_;rintro e w2 ⟨v,rfl,o2,hb2⟩;obtain⟨a2,n2,k2,rfl⟩:=o2.form;have hA2:=HA1.out.below hb2;obtain⟨d0,d1,d2,d3,d4⟩:=QD.five (Yw.below hb2 Yw.lt);clear c0 Yw;have HB:=QQ (bN _ _ B S w2 ⟨f,hA2.hf⟩ HI.out.pl (by have:=HN.out;omega));exact Qk3
theorem BK(W0:World)(F G:Nat->Prop)(B K:Nat)(S:SS)(ca cb cc cd ce:Int)(w:World)(h:Zw F G w B S)(hI:Qt K S)(hm:S.mode=0)(hc:0<=ca/\ca<=999)(hK:K<=4398046511103)(hn:S.told.length+K+2<=4398046511103):
  Calls Tryz.prog 90 #[.pointer (some ⟨B,0,none⟩),.agg #[.int .i64 ca,.int .i64 cb,.int .i64 0,.int .i64 85,.int .i64 ce]] w (VP F G w B (S.command W0 ⟨ca,cb,0,85,ce⟩) XU):=by
 obtain⟨f,hf⟩:=h;have hb1:=QC w (.cells #[.int .i64 ca,.int .i64 cb,.int .i64 0,.int .i64 85,.int .i64 ce] 87);have Yw:=QD.new w #[.int .i64 ca,.int .i64 cb,.int .i64 0,.int .i64 85,.int .i64 ce] 87;have hA1:=(At.begin hf).below hb1;obtain⟨p,hpt⟩:=hf.d.text.ptr;have c0:=hA1.hf.cell 0;have htx:=hA1.hf.d.text;rw[hpt]at c0 htx;have HT:=QQ (Ul.list htx (by have:=hI.tl;omega));have HI:=QQ hI;have HN:=QQ hn;have HA1:=QQ hA1;have HM:=QQ hm;have he:S.command W0 ⟨ca,cb,0,85,ce⟩=S.Yp:=by
  unfold SS.command;dsimp only;rw[if_neg (by decide)];rw[if_neg (by decide)];rw[if_pos rfl]
 have HE:=QQ he;clear hI hn hf hb1 hA1 hpt htx he hm;go_enter Tryz.func90,Tryz.ntmps90
 go_wp2_with fail
 refine HT.out.mono ?_;rintro e w2 ⟨v,rfl,o2,hb2⟩;obtain⟨a2,n2,k2,rfl⟩:=o2.form;have hA2:=HA1.out.below hb2;obtain⟨d0,d1,d2,d3,d4⟩:=QD.five (Yw.below hb2 Yw.lt);clear c0 Yw;have HB:=QQ (Mf _ _ B S w2 ⟨f,hA2.hf⟩ HI.out.tl HI.out.fl HI.out.pl (by have:=HN.out;omega));exact Qk3
theorem jZ(W0:World)(F G:Nat->Prop)(B K:Nat)(S:SS)(ca cb cc cd ce:Int)(w:World)(h:Zw F G w B S)(hI:Qt K S)(hm:S.mode=0)(hc:0<=ca/\ca<=999)(hK:K<=4398046511103)(hn:S.told.length+K+2<=4398046511103):
  Calls Tryz.prog 90 #[.pointer (some ⟨B,0,none⟩),.agg #[.int .i64 ca,.int .i64 cb,.int .i64 0,.int .i64 46,.int .i64 ce]] w (VP F G w B (S.command W0 ⟨ca,cb,0,46,ce⟩) XU):=by
 obtain⟨f,hf⟩:=h;have hb1:=QC w (.cells #[.int .i64 ca,.int .i64 cb,.int .i64 0,.int .i64 46,.int .i64 ce] 87);have Yw:=QD.new w #[.int .i64 ca,.int .i64 cb,.int .i64 0,.int .i64 46,.int .i64 ce] 87;have hA1:=(At.begin hf).below hb1;obtain⟨p,hpt⟩:=hf.d.text.ptr;have c0:=hA1.hf.cell 0;have htx:=hA1.hf.d.text;rw[hpt]at c0 htx;have HT:=QQ (Ul.list htx (by have:=hI.tl;omega));have HI:=QQ hI;have HN:=QQ hn;have HA1:=QQ hA1;have HM:=QQ hm;have he:S.command W0 ⟨ca,cb,0,46,ce⟩=S.again W0 ca:=by
  unfold SS.command;dsimp only;rw[if_neg (by decide)];rw[if_neg (by decide)];rw[if_neg (by decide)];rw[if_pos rfl]
 have HE:=QQ he;clear hI hn hf hb1 hA1 hpt htx he hm;go_enter Tryz.func90,Tryz.ntmps90
 go_wp2_with fail
 refine HT.out.mono ?_;rintro e w2 ⟨v,rfl,o2,hb2⟩;obtain⟨a2,n2,k2,rfl⟩:=o2.form;have hA2:=HA1.out.below hb2;obtain⟨d0,d1,d2,d3,d4⟩:=QD.five (Yw.below hb2 Yw.lt);clear c0 Yw;have HB:=QQ (PT W0 _ _ B K S ca w2 ⟨f,hA2.hf⟩ HI.out HM.out hc.1 hc.2 hK HN.out);exact Qk3
theorem uC(W0:World)(F G:Nat->Prop)(B K:Nat)(S:SS)(ca cb cc cd ce:Int)(w:World)(h:Zw F G w B S)(hI:Qt K S)(hm:S.mode=0)(hc:0<=ca/\ca<=999)(hK:K<=4398046511103)(hn:S.told.length+K+2<=4398046511103):
  Calls Tryz.prog 90 #[.pointer (some ⟨B,0,none⟩),.agg #[.int .i64 ca,.int .i64 cb,.int .i64 0,.int .i64 47,.int .i64 ce]] w (VP F G w B (S.command W0 ⟨ca,cb,0,47,ce⟩) XU):=by
 obtain⟨f,hf⟩:=h;have hb1:=QC w (.cells #[.int .i64 ca,.int .i64 cb,.int .i64 0,.int .i64 47,.int .i64 ce] 87);have Yw:=QD.new w #[.int .i64 ca,.int .i64 cb,.int .i64 0,.int .i64 47,.int .i64 ce] 87;have hA1:=(At.begin hf).below hb1;obtain⟨p,hpt⟩:=hf.d.text.ptr;have c0:=hA1.hf.cell 0;have htx:=hA1.hf.d.text;rw[hpt]at c0 htx;have HT:=QQ (Ul.list htx (by have:=hI.tl;omega));have HI:=QQ hI;have HN:=QQ hn;have HA1:=QQ hA1;have HM:=QQ hm;have he:S.command W0 ⟨ca,cb,0,47,ce⟩={S with mode:=3,ask:=[],older:=true}:=by
  exact Qu4
 have HE:=QQ he;clear hI hn hf hb1 hA1 hpt htx he hm;go_enter Tryz.func90,Tryz.ntmps90
 go_wp2_with fail
 refine HT.out.mono ?_;rintro e w2 ⟨v,rfl,o2,hb2⟩;obtain⟨a2,n2,k2,rfl⟩:=o2.form;have hA2:=HA1.out.below hb2;obtain⟨d0,d1,d2,d3,d4⟩:=QD.five (Yw.below hb2 Yw.lt);clear c0 Yw;have c2:=hA2.hf.cell 2;have z2:=hA2.hf.free 2;have tJ:=hA2.hf.cell 48;have z48:=hA2.hf.free 48;have c49:=hA2.hf.cell 49;have z49:=hA2.hf.free 49;have HA2:=QQ hA2;clear hA2 o2 hb2;go_upto_region 23 with fail
 go_region
 go_wp2
 go_end0
 have hA2:=HA2.out.drew;have hA3:=hA2.store (S':={S with mode:=3}) 2 (.int .i64 3) {hA2.hf.d with mode:=rfl};have JM:=hA3.store (S':={S with mode:=3,ask:=[]}) 48 (.slice none 0 0) {hA3.hf.d with ask:=XH.nil _ _};have Jk:=JM.store (S':={S with mode:=3,ask:=[],older:=true}) 49 (.bool true) {JM.hf.d with older:=rfl};exact⟨rfl,by rw[HE.out];exact Jk.done⟩
theorem uB(W0:World)(F G:Nat->Prop)(B K:Nat)(S:SS)(ca cb cc cd ce:Int)(w:World)(h:Zw F G w B S)(hI:Qt K S)(hm:S.mode=0)(hc:0<=ca/\ca<=999)(hK:K<=4398046511103)(hn:S.told.length+K+2<=4398046511103):
  Calls Tryz.prog 90 #[.pointer (some ⟨B,0,none⟩),.agg #[.int .i64 ca,.int .i64 cb,.int .i64 0,.int .i64 63,.int .i64 ce]] w (VP F G w B (S.command W0 ⟨ca,cb,0,63,ce⟩) XU):=by
 obtain⟨f,hf⟩:=h;have hb1:=QC w (.cells #[.int .i64 ca,.int .i64 cb,.int .i64 0,.int .i64 63,.int .i64 ce] 87);have Yw:=QD.new w #[.int .i64 ca,.int .i64 cb,.int .i64 0,.int .i64 63,.int .i64 ce] 87;have hA1:=(At.begin hf).below hb1;obtain⟨p,hpt⟩:=hf.d.text.ptr;have c0:=hA1.hf.cell 0;have htx:=hA1.hf.d.text;rw[hpt]at c0 htx;have HT:=QQ (Ul.list htx (by have:=hI.tl;omega));have HI:=QQ hI;have HN:=QQ hn;have HA1:=QQ hA1;have HM:=QQ hm;have he:S.command W0 ⟨ca,cb,0,63,ce⟩={S with mode:=3,ask:=[],older:=false}:=by
  exact Qu4
 have HE:=QQ he;clear hI hn hf hb1 hA1 hpt htx he hm;go_enter Tryz.func90,Tryz.ntmps90
 go_wp2_with fail
 refine HT.out.mono ?_;rintro e w2 ⟨v,rfl,o2,hb2⟩;obtain⟨a2,n2,k2,rfl⟩:=o2.form;have hA2:=HA1.out.below hb2;obtain⟨d0,d1,d2,d3,d4⟩:=QD.five (Yw.below hb2 Yw.lt);clear c0 Yw;have c2:=hA2.hf.cell 2;have z2:=hA2.hf.free 2;have tJ:=hA2.hf.cell 48;have z48:=hA2.hf.free 48;have c49:=hA2.hf.cell 49;have z49:=hA2.hf.free 49;have HA2:=QQ hA2;clear hA2 o2 hb2;go_upto_region 23 with fail
 go_region
 go_wp2
 go_end0
 have hA2:=HA2.out.drew;have hA3:=hA2.store (S':={S with mode:=3}) 2 (.int .i64 3) {hA2.hf.d with mode:=rfl};have JM:=hA3.store (S':={S with mode:=3,ask:=[]}) 48 (.slice none 0 0) {hA3.hf.d with ask:=XH.nil _ _};have Jk:=JM.store (S':={S with mode:=3,ask:=[],older:=false}) 49 (.bool false) {JM.hf.d with older:=rfl};exact⟨rfl,by rw[HE.out];exact Jk.done⟩
theorem BX(W0:World)(F G:Nat->Prop)(B K:Nat)(S:SS)(ca cb cc cd ce:Int)(w:World)(h:Zw F G w B S)(hI:Qt K S)(hm:S.mode=0)(hc:0<=ca/\ca<=999)(hK:K<=4398046511103)(hn:S.told.length+K+2<=4398046511103):
  Calls Tryz.prog 90 #[.pointer (some ⟨B,0,none⟩),.agg #[.int .i64 ca,.int .i64 cb,.int .i64 0,.int .i64 107,.int .i64 ce]] w (VP F G w B (S.command W0 ⟨ca,cb,0,107,ce⟩) XU):=by
 obtain⟨f,hf⟩:=h;have hb1:=QC w (.cells #[.int .i64 ca,.int .i64 cb,.int .i64 0,.int .i64 107,.int .i64 ce] 87);have Yw:=QD.new w #[.int .i64 ca,.int .i64 cb,.int .i64 0,.int .i64 107,.int .i64 ce] 87;have hA1:=(At.begin hf).below hb1;obtain⟨p,hpt⟩:=hf.d.text.ptr;have c0:=hA1.hf.cell 0;have htx:=hA1.hf.d.text;rw[hpt]at c0 htx;have HT:=QQ (Ul.list htx (by have:=hI.tl;omega));have HI:=QQ hI;have HN:=QQ hn;have HA1:=QQ hA1;have HM:=QQ hm;have he:S.command W0 ⟨ca,cb,0,107,ce⟩=S.moved (VA S.Qh S.text ca (-1)):=by
  unfold SS.command;dsimp only;rw[if_neg (by decide)];rw[if_neg (by decide)];rw[if_neg (by decide)];rw[if_neg (by decide)];rw[if_pos rfl]
 have HE:=QQ he;clear hI hn hf hb1 hA1 hpt htx he hm;go_enter Tryz.func90,Tryz.ntmps90
 go_wp2_with fail
 refine HT.out.mono ?_;rintro e w2 ⟨v,rfl,o2,hb2⟩;obtain⟨a2,n2,k2,rfl⟩:=o2.form;have hA2:=HA1.out.below hb2;obtain⟨d0,d1,d2,d3,d4⟩:=QD.five (Yw.below hb2 Yw.lt);clear c0 Yw;obtain⟨la,ln,lc,sa,sn,sc,pa,pn,pc,hH,e37,e38,e39,e40,e41,e42⟩:=JJ hA2.hf;have GJ:=hA2.hf.cell 37;have x38:=hA2.hf.cell 38;have x39:=hA2.hf.cell 39;have LJ:=hA2.hf.cell 40;have MN:=hA2.hf.cell 41;have MM:=hA2.hf.cell 42;rw[e37]at GJ;rw[e38]at x38;rw[e39]at x39;rw[e40]at LJ;rw[e41]at MN;rw[e42]at MM;have hbd:Below w2.heap.size w2 w2.drew:=QR.drew (Qx _ w2);have HU:=QQ (fZ _ _ _ _ _ _ S.Qh a2 n2 k2 ca S.text w2.drew (hH.below hbd).hir (o2.get.2.1.below hbd) o2.get.1 (o2.sl.get.2.2.2.2));have HA2:=QQ hA2;have HB2:=QQ hbd;clear hA2 o2 hb2 hH e37 e38 e39 e40 e41 e42 hbd;go_upto_region 13 with fail
 go_region_law (first|(go_simp;go_at_call 145;refine HU.out.mono ?_;rintro e w8 ⟨h8,l8,E8,K7,lv,sv,pv,nv,rfl,Tq,Vf,ZU⟩;obtain⟨a8,n8,k8,rfl⟩:=Vf.form;have VG:=HA2.out.below (QR.call ZU HB2.out))|(go_simp;go_at_call 131;refine Calls.mono (UT _ _ B S lv sv pv h8 a8 n8 k8 l8 E8 w8 ⟨_,VG.hf⟩ (Tq.lt.imp fun k hk=>Fx.new k hk) (Vf.lt.imp fun k hk=>Fx.new k hk) (Vf.len K7.small) (QL (QL (ZG _ _) (ZG _ _)) HN.out)) ?_;rintro e w9 ⟨rfl,SN⟩))
 all_goals
  exact QvK
theorem BJ(W0:World)(F G:Nat->Prop)(B K:Nat)(S:SS)(ca cb cc cd ce:Int)(w:World)(h:Zw F G w B S)(hI:Qt K S)(hm:S.mode=0)(hc:0<=ca/\ca<=999)(hK:K<=4398046511103)(hn:S.told.length+K+2<=4398046511103):
  Calls Tryz.prog 90 #[.pointer (some ⟨B,0,none⟩),.agg #[.int .i64 ca,.int .i64 cb,.int .i64 0,.int .i64 106,.int .i64 ce]] w (VP F G w B (S.command W0 ⟨ca,cb,0,106,ce⟩) XU):=by
 obtain⟨f,hf⟩:=h;have hb1:=QC w (.cells #[.int .i64 ca,.int .i64 cb,.int .i64 0,.int .i64 106,.int .i64 ce] 87);have Yw:=QD.new w #[.int .i64 ca,.int .i64 cb,.int .i64 0,.int .i64 106,.int .i64 ce] 87;have hA1:=(At.begin hf).below hb1;obtain⟨p,hpt⟩:=hf.d.text.ptr;have c0:=hA1.hf.cell 0;have htx:=hA1.hf.d.text;rw[hpt]at c0 htx;have HT:=QQ (Ul.list htx (by have:=hI.tl;omega));have HI:=QQ hI;have HN:=QQ hn;have HA1:=QQ hA1;have HM:=QQ hm;have he:S.command W0 ⟨ca,cb,0,106,ce⟩=S.moved (VA S.Qh S.text ca 1):=by
  unfold SS.command;dsimp only;rw[if_neg (by decide)];rw[if_neg (by decide)];rw[if_neg (by decide)];rw[if_neg (by decide)];rw[if_neg (by decide)];rw[if_pos rfl]
 have HE:=QQ he;clear hI hn hf hb1 hA1 hpt htx he hm;go_enter Tryz.func90,Tryz.ntmps90
 go_wp2_with fail
 refine HT.out.mono ?_;rintro e w2 ⟨v,rfl,o2,hb2⟩;obtain⟨a2,n2,k2,rfl⟩:=o2.form;have hA2:=HA1.out.below hb2;obtain⟨d0,d1,d2,d3,d4⟩:=QD.five (Yw.below hb2 Yw.lt);clear c0 Yw;obtain⟨la,ln,lc,sa,sn,sc,pa,pn,pc,hH,e37,e38,e39,e40,e41,e42⟩:=JJ hA2.hf;have GJ:=hA2.hf.cell 37;have x38:=hA2.hf.cell 38;have x39:=hA2.hf.cell 39;have LJ:=hA2.hf.cell 40;have MN:=hA2.hf.cell 41;have MM:=hA2.hf.cell 42;rw[e37]at GJ;rw[e38]at x38;rw[e39]at x39;rw[e40]at LJ;rw[e41]at MN;rw[e42]at MM;have hbd:Below w2.heap.size w2 w2.drew:=QR.drew (Qx _ w2);have HU:=QQ (Nn _ _ _ _ _ _ S.Qh a2 n2 k2 ca S.text w2.drew (hH.below hbd).hir (o2.get.2.1.below hbd) o2.get.1 (o2.sl.get.2.2.2.2));have HA2:=QQ hA2;have HB2:=QQ hbd;clear hA2 o2 hb2 hH e37 e38 e39 e40 e41 e42 hbd;go_upto_region 15 with fail
 go_region_law (first|(go_simp;go_at_call 146;refine HU.out.mono ?_;rintro e w8 ⟨h8,l8,E8,K7,lv,sv,pv,nv,rfl,Tq,Vf,ZU⟩;obtain⟨a8,n8,k8,rfl⟩:=Vf.form;have VG:=HA2.out.below (QR.call ZU HB2.out))|(go_simp;go_at_call 131;refine Calls.mono (UT _ _ B S lv sv pv h8 a8 n8 k8 l8 E8 w8 ⟨_,VG.hf⟩ (Tq.lt.imp fun k hk=>Fx.new k hk) (Vf.lt.imp fun k hk=>Fx.new k hk) (Vf.len K7.small) (QL (QL (ZG _ _) (ZG _ _)) HN.out)) ?_;rintro e w9 ⟨rfl,SN⟩))
 all_goals
  exact QvK
theorem BV(W0:World)(F G:Nat->Prop)(B K:Nat)(S:SS)(ca cb cc cd ce:Int)(w:World)(h:Zw F G w B S)(hI:Qt K S)(hm:S.mode=0)(hc:0<=ca/\ca<=999)(hK:K<=4398046511103)(hn:S.told.length+K+2<=4398046511103):
  Calls Tryz.prog 90 #[.pointer (some ⟨B,0,none⟩),.agg #[.int .i64 ca,.int .i64 cb,.int .i64 0,.int .i64 71,.int .i64 ce]] w (VP F G w B (S.command W0 ⟨ca,cb,0,71,ce⟩) XU):=by
 obtain⟨f,hf⟩:=h;have hb1:=QC w (.cells #[.int .i64 ca,.int .i64 cb,.int .i64 0,.int .i64 71,.int .i64 ce] 87);have Yw:=QD.new w #[.int .i64 ca,.int .i64 cb,.int .i64 0,.int .i64 71,.int .i64 ce] 87;have hA1:=(At.begin hf).below hb1;obtain⟨p,hpt⟩:=hf.d.text.ptr;have c0:=hA1.hf.cell 0;have htx:=hA1.hf.d.text;rw[hpt]at c0 htx;have HT:=QQ (Ul.list htx (by have:=hI.tl;omega));have HI:=QQ hI;have HN:=QQ hn;have HA1:=QQ hA1;have HM:=QQ hm;have he:S.command W0 ⟨ca,cb,0,71,ce⟩=S.moved (VA S.Qh S.text ca 0):=by
  unfold SS.command;dsimp only;rw[if_neg (by decide)];rw[if_neg (by decide)];rw[if_neg (by decide)];rw[if_neg (by decide)];rw[if_neg (by decide)];rw[if_neg (by decide)];rw[if_pos rfl]
 have HE:=QQ he;clear hI hn hf hb1 hA1 hpt htx he hm;go_enter Tryz.func90,Tryz.ntmps90
 go_wp2_with fail
 refine HT.out.mono ?_;rintro e w2 ⟨v,rfl,o2,hb2⟩;obtain⟨a2,n2,k2,rfl⟩:=o2.form;have hA2:=HA1.out.below hb2;obtain⟨d0,d1,d2,d3,d4⟩:=QD.five (Yw.below hb2 Yw.lt);clear c0 Yw;obtain⟨la,ln,lc,sa,sn,sc,pa,pn,pc,hH,e37,e38,e39,e40,e41,e42⟩:=JJ hA2.hf;have GJ:=hA2.hf.cell 37;have x38:=hA2.hf.cell 38;have x39:=hA2.hf.cell 39;have LJ:=hA2.hf.cell 40;have MN:=hA2.hf.cell 41;have MM:=hA2.hf.cell 42;rw[e37]at GJ;rw[e38]at x38;rw[e39]at x39;rw[e40]at LJ;rw[e41]at MN;rw[e42]at MM;have hbd:Below w2.heap.size w2 w2.drew:=QR.drew (Qx _ w2);have HU:=QQ (Nl _ _ _ _ _ _ S.Qh a2 n2 k2 ca S.text w2.drew (hH.below hbd).hir (o2.get.2.1.below hbd) o2.get.1 (o2.sl.get.2.2.2.2));have HA2:=QQ hA2;have HB2:=QQ hbd;clear hA2 o2 hb2 hH e37 e38 e39 e40 e41 e42 hbd;go_upto_region 17 with fail
 go_region_law (first|(go_simp;go_at_call 147;refine HU.out.mono ?_;rintro e w8 ⟨h8,l8,E8,K7,lv,sv,pv,nv,rfl,Tq,Vf,ZU⟩;obtain⟨a8,n8,k8,rfl⟩:=Vf.form;have VG:=HA2.out.below (QR.call ZU HB2.out))|(go_simp;go_at_call 131;refine Calls.mono (UT _ _ B S lv sv pv h8 a8 n8 k8 l8 E8 w8 ⟨_,VG.hf⟩ (Tq.lt.imp fun k hk=>Fx.new k hk) (Vf.lt.imp fun k hk=>Fx.new k hk) (Vf.len K7.small) (QL (QL (ZG _ _) (ZG _ _)) HN.out)) ?_;rintro e w9 ⟨rfl,SN⟩))
 all_goals
  exact QvK
theorem BZ(W0:World)(F G:Nat->Prop)(B K:Nat)(S:SS)(ca cb cc cd ce:Int)(w:World)(h:Zw F G w B S)(hI:Qt K S)(hm:S.mode=0)(hc:0<=ca/\ca<=999)(hK:K<=4398046511103)(hn:S.told.length+K+2<=4398046511103):
  Calls Tryz.prog 90 #[.pointer (some ⟨B,0,none⟩),.agg #[.int .i64 ca,.int .i64 cb,.int .i64 0,.int .i64 110,.int .i64 ce]] w (VP F G w B (S.command W0 ⟨ca,cb,0,110,ce⟩) XU):=by
 obtain⟨f,hf⟩:=h;have hb1:=QC w (.cells #[.int .i64 ca,.int .i64 cb,.int .i64 0,.int .i64 110,.int .i64 ce] 87);have Yw:=QD.new w #[.int .i64 ca,.int .i64 cb,.int .i64 0,.int .i64 110,.int .i64 ce] 87;have hA1:=(At.begin hf).below hb1;obtain⟨p,hpt⟩:=hf.d.text.ptr;have c0:=hA1.hf.cell 0;have htx:=hA1.hf.d.text;rw[hpt]at c0 htx;have HT:=QQ (Ul.list htx (by have:=hI.tl;omega));have HI:=QQ hI;have HN:=QQ hn;have HA1:=QQ hA1;have HM:=QQ hm;have he:S.command W0 ⟨ca,cb,0,110,ce⟩=S.moved (vF S.Qh S.text false):=by
  exact QvQ
 have HE:=QQ he;clear hI hn hf hb1 hA1 hpt htx he hm;go_enter Tryz.func90,Tryz.ntmps90
 go_wp2_with fail
 refine HT.out.mono ?_;rintro e w2 ⟨v,rfl,o2,hb2⟩;obtain⟨a2,n2,k2,rfl⟩:=o2.form;have hA2:=HA1.out.below hb2;obtain⟨d0,d1,d2,d3,d4⟩:=QD.five (Yw.below hb2 Yw.lt);clear c0 Yw;obtain⟨la,ln,lc,sa,sn,sc,pa,pn,pc,hH,e37,e38,e39,e40,e41,e42⟩:=JJ hA2.hf;have GJ:=hA2.hf.cell 37;have x38:=hA2.hf.cell 38;have x39:=hA2.hf.cell 39;have LJ:=hA2.hf.cell 40;have MN:=hA2.hf.cell 41;have MM:=hA2.hf.cell 42;rw[e37]at GJ;rw[e38]at x38;rw[e39]at x39;rw[e40]at LJ;rw[e41]at MN;rw[e42]at MM;have hbd:Below w2.heap.size w2 w2.drew:=QR.drew (Qx _ w2);have HU:=QQ (kU _ _ _ _ _ _ S.Qh a2 n2 k2 S.text false w2.drew (hH.below hbd).hir (o2.get.2.1.below hbd) o2.get.1 (o2.sl.get.2.2.2.2));exact Qk9
theorem BU(W0:World)(F G:Nat->Prop)(B K:Nat)(S:SS)(ca cb cc cd ce:Int)(w:World)(h:Zw F G w B S)(hI:Qt K S)(hm:S.mode=0)(hc:0<=ca/\ca<=999)(hK:K<=4398046511103)(hn:S.told.length+K+2<=4398046511103):
  Calls Tryz.prog 90 #[.pointer (some ⟨B,0,none⟩),.agg #[.int .i64 ca,.int .i64 cb,.int .i64 0,.int .i64 78,.int .i64 ce]] w (VP F G w B (S.command W0 ⟨ca,cb,0,78,ce⟩) XU):=by
 obtain⟨f,hf⟩:=h;have hb1:=QC w (.cells #[.int .i64 ca,.int .i64 cb,.int .i64 0,.int .i64 78,.int .i64 ce] 87);have Yw:=QD.new w #[.int .i64 ca,.int .i64 cb,.int .i64 0,.int .i64 78,.int .i64 ce] 87;have hA1:=(At.begin hf).below hb1;obtain⟨p,hpt⟩:=hf.d.text.ptr;have c0:=hA1.hf.cell 0;have htx:=hA1.hf.d.text;rw[hpt]at c0 htx;have HT:=QQ (Ul.list htx (by have:=hI.tl;omega));have HI:=QQ hI;have HN:=QQ hn;have HA1:=QQ hA1;have HM:=QQ hm;have he:S.command W0 ⟨ca,cb,0,78,ce⟩=S.moved (vF S.Qh S.text true):=by
  exact QvQ
 have HE:=QQ he;clear hI hn hf hb1 hA1 hpt htx he hm;go_enter Tryz.func90,Tryz.ntmps90
 go_wp2_with fail
 refine HT.out.mono ?_;rintro e w2 ⟨v,rfl,o2,hb2⟩;obtain⟨a2,n2,k2,rfl⟩:=o2.form;have hA2:=HA1.out.below hb2;obtain⟨d0,d1,d2,d3,d4⟩:=QD.five (Yw.below hb2 Yw.lt);clear c0 Yw;obtain⟨la,ln,lc,sa,sn,sc,pa,pn,pc,hH,e37,e38,e39,e40,e41,e42⟩:=JJ hA2.hf;have GJ:=hA2.hf.cell 37;have x38:=hA2.hf.cell 38;have x39:=hA2.hf.cell 39;have LJ:=hA2.hf.cell 40;have MN:=hA2.hf.cell 41;have MM:=hA2.hf.cell 42;rw[e37]at GJ;rw[e38]at x38;rw[e39]at x39;rw[e40]at LJ;rw[e41]at MN;rw[e42]at MM;have hbd:Below w2.heap.size w2 w2.drew:=QR.drew (Qx _ w2);have HU:=QQ (kU _ _ _ _ _ _ S.Qh a2 n2 k2 S.text true w2.drew (hH.below hbd).hir (o2.get.2.1.below hbd) o2.get.1 (o2.sl.get.2.2.2.2));exact Qk9
theorem GA(W0:World)(F G:Nat->Prop)(B K:Nat)(S:SS)(c:C5)(w:World)(h:Zw F G w B S)(hI:Qt K S)(hm:S.mode=0)(hc:Uq c)(hK:K<=4398046511103)(hn:S.told.length+K+2<=4398046511103):
  Calls Tryz.prog 90 #[.pointer (some ⟨B,0,none⟩),.agg #[.int .i64 c.a,.int .i64 c.b,.int .i64 c.c,.int .i64 c.d,.int .i64 c.e]] w (VP F G w B (S.command W0 c) XU):=by
 obtain⟨ca,cb,cc,cd,ce⟩:=c;by_cases h0:cc≠0
 ·exact uD W0 F G B K S ca cb cc cd ce w h hI hm hc hK hn h0
 obtain rfl:cc=0:=Qd h0;by_cases h1:cd=117
 ·subst h1;exact BQ W0 F G B K S ca cb 0 117 ce w h hI hm hc hK hn
 by_cases h2:cd=85
 ·subst h2;exact BK W0 F G B K S ca cb 0 85 ce w h hI hm hc hK hn
 by_cases h3:cd=46
 ·subst h3;exact jZ W0 F G B K S ca cb 0 46 ce w h hI hm hc hK hn
 by_cases h4:cd=107
 ·subst h4;exact BX W0 F G B K S ca cb 0 107 ce w h hI hm hc hK hn
 by_cases h5:cd=106
 ·subst h5;exact BJ W0 F G B K S ca cb 0 106 ce w h hI hm hc hK hn
 by_cases h6:cd=71
 ·subst h6;exact BV W0 F G B K S ca cb 0 71 ce w h hI hm hc hK hn
 by_cases h7:cd=110
 ·subst h7;exact BZ W0 F G B K S ca cb 0 110 ce w h hI hm hc hK hn
 by_cases h8:cd=78
 ·subst h8;exact BU W0 F G B K S ca cb 0 78 ce w h hI hm hc hK hn
 by_cases h9:cd=47
 ·subst h9;exact uC W0 F G B K S ca cb 0 47 ce w h hI hm hc hK hn
 by_cases h10:cd=63
 ·subst h10;exact uB W0 F G B K S ca cb 0 63 ce w h hI hm hc hK hn
 exact xM W0 F G B K S ca cb 0 cd ce w h hI hm hc hK hn h1 h2 h3 h4 h5 h6 h7 h8 h9 h10
theorem XH.init{F:Nat->Prop}{w:World}{a:Option Addr}{m c:Nat}{xs:List Int}(h:XH F w (.slice a (m+1) c) xs):XH F w (.slice a m c) xs.dropLast:=by
 obtain⟨g1,g2,g3,g4,g5⟩:=h.get;obtain⟨a',n',c',e,k1,k2,k3,k4,k5,k6⟩:=h;simp only[Qw]at e;obtain⟨rfl,rfl,rfl⟩:=e;refine⟨a,m,c,rfl,by simp[g1],by omega,g3,?_,fun e=>by have:=g5 e;omega,fun ad e h0=>k6 ad e (by omega)⟩;rcases g4 with g4|⟨b,o,e,hc⟩
 ·subst g4;simp at g1
 ·refine .inr ⟨b,o,e,fun i hi=>?_⟩
  rw[List.length_dropLast]at hi;rw[hc i (by omega),Xt (by omega),Xt (by simp;omega),List.getElem_dropLast]
theorem Bq(F G:Nat->Prop)(B:Nat)(S:SS)(w:World)(h:Zw F G w B S):
  Calls Tryz.prog 84 #[.pointer (some ⟨B,0,none⟩),.int .i64 27] w (VP F G w B {S with mode:=0} XU):=by
 obtain⟨f,hf⟩:=h;have hA:=At.begin hf;obtain⟨c2,z2⟩:=hf.m.blk.at 2;have HA:=QQ (hA.store (S':={S with mode:=0}) 2 (.int .i64 0) {hA.hf.d with mode:=rfl});clear hf hA;go_enter Tryz.func84,Tryz.ntmps84
 exact QAP
theorem Dp(F G:Nat->Prop)(B:Nat)(S:SS)(key:Int)(w:World)(h:Zw F G w B S)(hk:key=8\/key=127)(hl:S.ask.length<=200):
  Calls Tryz.prog 84 #[.pointer (some ⟨B,0,none⟩),.int .i64 key] w (VP F G w B (if S.ask.length=0 then {S with mode:=0}else {S with ask:=S.ask.dropLast}) XU):=by
 obtain⟨f,hf⟩:=h;have hA:=At.begin hf;obtain⟨qa,qn,qc,e48⟩:=hf.d.ask.form;have VC:=hf.d.ask;rw[e48]at VC;obtain⟨tJ,z48⟩:=hf.m.blk.at 48;obtain⟨c2,z2⟩:=hf.m.blk.at 2;rw[e48]at tJ;obtain⟨g1,g2,g3,g4,g5⟩:=VC.get;rcases qn with _|m
 ·have HA:=QQ (hA.store (S':={S with mode:=0}) 2 (.int .i64 0) {hA.hf.d with mode:=rfl})
  rw[if_pos g1];clear hf hA VC g1 g2 g3 g4 g5 hl e48;rcases hk with rfl|rfl
  all_goals
   go_enter Tryz.func84,Tryz.ntmps84
   exact QAP
 ·have HA:=QQ (hA.drew.store (S':={S with ask:=S.ask.dropLast}) 48 (.slice qa m qc) {hA.drew.hf.d with ask:=VC.init.drew})
  rw[if_neg (by omega)];have hm2:m+1<=200:=by omega
  have hmc:m<=qc:=by omega
  have hm1:((m+1:Nat):Int)-1=(m:Int):=by omega
  have iw:IntKind.i64.wrap (((m+1:Nat):Int)-1)=(m:Int):=by rw[Ze];omega
  have hn0:(((m+1:Nat):Int)==0)=false:=by simp;omega
  clear hf hA VC g1 g2 g4 g5 hl e48;rcases hk with rfl|rfl
  all_goals
   go_enter Tryz.func84,Tryz.ntmps84
   go_upto_region 9 with fail
   go_region
   all_goals
    exact QAP
theorem uF(F G:Nat->Prop)(B:Nat)(S:SS)(key:Int)(w:World)(h:Zw F G w B S)(h1:key≠13)(h2:key≠10)(h3:key≠27)(h4:key≠8)(h5:key≠127)(h6:key<32\/S.ask.length=200)(hn:S.told.length<=4398046511103):
  Calls Tryz.prog 84 #[.pointer (some ⟨B,0,none⟩),.int .i64 key] w (VP F G w B S.Xa XU):=by
 have HB:=QQ (Kv F G B S w h hn);obtain⟨f,hf⟩:=h;obtain⟨qa,qn,qc,e48⟩:=hf.d.ask.form;have VC:=hf.d.ask;rw[e48]at VC;obtain⟨tJ,-⟩:=hf.m.blk.at 48;rw[e48]at tJ;have g1:=VC.get.1;have k1:(key==13)=false:=by simpa using h1
 have k2:(key==10)=false:=by simpa using h2
 have k3:(key==27)=false:=by simpa using h3
 have k4:(key==8)=false:=by simpa using h4
 have k5:(key==127)=false:=by simpa using h5
 by_cases h32:key<32
 ·clear hf VC e48 g1 h6 h1 h2 h3 h4 h5 hn
  exact QBq
 ·obtain rfl:qn=200:=by omega
  clear hf VC e48 g1 h6 h1 h2 h3 h4 h5 hn;exact QBq
theorem Bz(F G:Nat->Prop)(B:Nat)(S:SS)(key:Int)(w:World)(h:Zw F G w B S)(h5:key≠127)(h6:32<=key)(h7:S.ask.length<200):
  Calls Tryz.prog 84 #[.pointer (some ⟨B,0,none⟩),.int .i64 key] w (VP F G w B {S with ask:=S.ask++[key]} XU):=by
 obtain⟨f,hf⟩:=h;have hA:=At.begin hf;obtain⟨qa,qn,qc,e48⟩:=hf.d.ask.form;have VC:=hf.d.ask;rw[e48]at VC;obtain⟨tJ,-⟩:=hf.m.blk.at 48;rw[e48]at tJ;obtain⟨g1,g2,g3,g4,g5⟩:=VC.get;have k1:(key==13)=false:=by simp;omega
 have k2:(key==10)=false:=by simp;omega
 have k3:(key==27)=false:=by simp;omega
 have k4:(key==8)=false:=by simp;omega
 have k5:(key==127)=false:=by simpa using h5
 have k6:¬key<32:=by omega
 have k7:((qn:Int)==200)=false:=by simp;omega
 have HC:=QQ (Ql qa qn qc S.ask w g4 g1 (by omega) g5);have HA:=QQ hA;have HQ:=QQ g1;have h7':qn<200:=by omega
 clear hf hA VC e48 g1 g2 g3 g4 g5 h5 h7;go_enter Tryz.func84,Tryz.ntmps84
 go_wp2_with (first|(go_at_call 43;refine HC.out.mono ?_;rintro e w2 ⟨v,rfl,o2,hb2⟩;obtain⟨a2,n2,m2,rfl⟩:=o2.form;have hz2:=hb2.size)|(at_builtin;refine app1 rfl _ _ rfl w.heap.size (.slice a2 n2 m2) _ key _ rfl rfl (o2.alloc _) (Xi _ _ _) (by have:=HQ.out;omega) (ZV hz2 _) ?_;intro v4 w4 o4 hg4;have hb4:Below w.heap.size w w4:=QR.own (o2.alloc (.cells #[.int .i64 key] 3)) hg4 (QR.alloc hb2);have JM:=HA.out.below hb4;obtain⟨x48,z48⟩:=JM.hf.m.blk.at 48;obtain⟨a4,n4,m4,rfl⟩:=o4.form))
 go_end0
 have JM:=HA.out.below hb4;exact⟨rfl,(JM.store (S':={S with ask:=S.ask++[key]}) 48 (.slice a4 n4 m4) {JM.hf.d with ask:=o4.xB.lt.imp fun k hk=>Fx.new k hk}).done⟩
theorem PS(F G:Nat->Prop)(B K:Nat)(S:SS)(key:Int)(w:World)(h:Zw F G w B S)(hI:Qt K S)(hn:S.told.length<=4398046511103):
  Calls Tryz.prog 84 #[.pointer (some ⟨B,0,none⟩),.int .i64 key] w (VP F G w B (S.asked key) XU):=by
 by_cases h1:key=13\/key=10
 ·exact uE F G B K S key w h hI h1 hn
 by_cases h2:key=27
 ·subst h2
  have he:S.asked 27={S with mode:=0}:=by unfold SS.asked;rw[if_neg (by decide),if_pos rfl]
  rw[he];exact Bq F G B S w h
 by_cases h3:key=8\/key=127
 ·have he:S.asked key=(if S.ask.length=0 then {S with mode:=0}else {S with ask:=S.ask.dropLast}):=by unfold SS.asked;rw[if_neg h1,if_neg h2,if_pos h3]
  rw[he];exact Dp F G B S key w h h3 hI.al
 by_cases h4:key<32\/S.ask.length=200
 ·have he:S.asked key=S.Xa:=by unfold SS.asked;rw[if_neg h1,if_neg h2,if_neg h3,if_pos h4]
  rw[he];exact uF F G B S key w h (by omega) (by omega) h2 (by omega) (by omega) h4 hn
 ·have he:S.asked key={S with ask:=S.ask++[key]}:=by unfold SS.asked;rw[if_neg h1,if_neg h2,if_neg h3,if_neg h4]
  rw[he];exact Bz F G B S key w h (by omega) (by omega) (by have:=hI.al;omega)
theorem pz{f r o s key cnt:Int}(hc:(if o≠0 then s else f)=cnt)(h:bU cnt key=true):Jr f r o s key=1:=by subst hc;unfold Jr;rw[if_pos h]
theorem pW{f r o s key cnt:Int}(hc:(if o≠0 then s else f)=cnt)(h:bU cnt key=false)(h2:R5 key=true):Jr f r o s key=3:=by
 subst hc;unfold Jr;rw[h,if_neg (by simp),if_pos h2]
def kdW(r o key:Int):Int:=
 if moB key=true then 5 else if WL key=true then 4
 else if vY key=true then(if o≠0 then 8 else 6)else if o≠0 then 0
 else if key=34 then(if r≠0 then 0 else 2)else if key=114 then 7 else if plB key=true then 6 else 0
theorem QZf{f r o s key cnt:Int}(hc:(if o≠0 then s else f)=cnt)(h:bU cnt key=false)(h2:R5 key=false):Jr f r o s key=kdW r o key:=by
 subst hc;unfold Jr kdW;rw[h,h2,if_neg (by simp),if_neg (by simp)]
theorem XB(f r o s wt key:Int)(w:World):
  Calls Tryz.prog 138 #[.agg #[.int .i64 f,.int .i64 r,.int .i64 o,.int .i64 s,.int .i64 wt],.int .i64 key] w fun e w'=>e=.returned (.int .i64 (Jr f r o s key))/\Below w.heap.size w w':=by
 have hA:=QD.new w #[.int .i64 f,.int .i64 r,.int .i64 o,.int .i64 s,.int .i64 wt] 32;have hacc:=QC w (.cells #[.int .i64 f,.int .i64 r,.int .i64 o,.int .i64 s,.int .i64 wt] 32);obtain⟨cnt,hcnt⟩:∃cnt,(if o≠0 then s else f)=cnt:=⟨_,rfl⟩;have HC:=QQ hcnt;obtain⟨zo,ho⟩:=ny o 0;have ho2:(o !=0)=!zo:=by rw[bne,ho]
 obtain⟨z48,h48⟩:=ny key 48;have hz:(if zo=true then f else s)=cnt:=by
  rw[<-hcnt];subst ho;by_cases h:o=0<;>simp[h]
 clear hcnt;obtain⟨bd,hbd⟩:∃bd,bU cnt key=bd:=⟨_,rfl⟩;have HBD:=QQ hbd;clear hbd;obtain⟨bo,MU⟩:∃bo,R5 key=bo:=⟨_,rfl⟩;have GZ:=QQ MU;clear MU;rcases zo with _|_<;>simp only[if_true,ZM,Qb]at hz<;>subst hz<;>rcases z48 with _|_
 all_goals
  go_enter Tryz.func138,Tryz.ntmps138
  go_upto_region 4 with fail
  generalize w.alloc (.cells #[.int .i64 f,.int .i64 r,.int .i64 o,.int .i64 s,.int .i64 wt] 32)=w1 at *;obtain⟨c0,c1,c2,c3,c4⟩:=hA.five
  go_cut [13] (fun v wx=>v=.bool bd/\w1=wx)
  case first=>
   go_wp2
   all_goals
    go_meet;refine⟨XQ Value.bool ?_,rfl⟩
    go_light
    rw[<-HBD.out];simp only[beq_iff_eq,Qn,ne_eq]at h48;rw[Bool.eq_iff_iff];simp[bU];omega
  obtain⟨rfl,rfl⟩:=hcut;rcases bd with _|_
  ·rcases bo with _|_
   ·go_wp2_with (go_at_call 46;refine(UC _ _).mono ?_;rintro e w' ⟨rfl,rfl⟩;rw[GZ.out])
    all_goals
     go_ret;refine⟨ZQ ?_,hacc⟩
     go_light
     rw[QZf HC.out HBD.out GZ.out];clear HC HBD GZ;simp only[beq_iff_eq,Qn,bne_iff_ne,bne_eq_false_iff_eq,ne_eq]at *;simp[kdW,moB,WL,vY,plB, *]
   ·go_wp2_with (go_at_call 46;refine(UC _ _).mono ?_;rintro e w' ⟨rfl,rfl⟩;rw[GZ.out])
    go_ret;exact⟨ZQ (pW HC.out HBD.out GZ.out).symm,hacc⟩
  ·go_wp2
   go_ret;exact⟨ZQ (pz HC.out HBD.out).symm,hacc⟩
theorem ZX.of{t:TK}{er:Int}{w w':World}(h:Below w.heap.size w w'):ZX t er w (.returned (.tuple #[t.q,t.c,.int .i64 t.how,.int .i64 er])) w':=⟨rfl,h⟩
theorem gT{f r o s key:Int}(h:CY key=true):VU f r o s 34 key=TK.more f key o s 0:=by unfold VU;rw[if_pos rfl,if_pos h]
theorem gm{f r o s key:Int}(h:CY key=false):VU f r o s 34 key=TK.wrong:=by unfold VU;rw[if_pos rfl,h];rfl
theorem gN{f r o s wt key:Int}(h:vY wt=true)(h2:lF key=true):VU f r o s wt key=TK.done f r o s wt key:=by
 have:wt≠34:=by simp[vY]at h;omega
 unfold VU;rw[if_neg this,if_pos h,if_pos h2]
theorem gP{f r o s wt key:Int}(h:vY wt=true)(h2:lF key=false):VU f r o s wt key=TK.wrong:=by
 have:wt≠34:=by simp[vY]at h;omega
 unfold VU;rw[if_neg this,if_pos h,h2];rfl
theorem gM{f r o s wt key:Int}(h:vY wt=false)(h2:wt≠34):VU f r o s wt key=TK.done f r o s wt key:=by
 unfold VU;rw[if_neg h2,h];rfl
theorem xh(f r o s key:Int)(w:World):
  Calls Tryz.prog 137 #[.agg #[.int .i64 f,.int .i64 r,.int .i64 o,.int .i64 s,.int .i64 34],.int .i64 key] w (ZX (VU f r o s 34 key) 0 w):=by
 have hacc:=fun c1 c2 c3=>qQ w (.cells c1 32) (.cells c2 32) (.cells c3 87)
 obtain⟨bl,hbl⟩:∃bl,CY key=bl:=⟨_,rfl⟩;have HL:=QQ hbl;clear hbl;rcases bl with _|_
 ·rw[gm HL.out]
  go_enter Tryz.func137,Tryz.ntmps137
  go_wp2_with (go_at_call 45;refine(Vd _ _).mono ?_;rintro e w' ⟨rfl,rfl⟩;rw[HL.out])
  exact QvT
 ·rw[gT HL.out]
  go_enter Tryz.func137,Tryz.ntmps137
  go_wp2_with (go_at_call 45;refine(Vd _ _).mono ?_;rintro e w' ⟨rfl,rfl⟩;rw[HL.out])
  exact QV (v:=.tuple #[(TK.more f key o s 0).q,(TK.more f key o s 0).c,.int .i64 1,.int .i64 0]) (by simp[results,Tryz.results137,go_sem,TK.more,TK.q,TK.c]) rfl (ZX.of (hacc _ _ _))
structure KJ (W wx:World) (B:Nat) (f r o s wt:Int):Prop where
 p:QD wx B #[.int .i64 f,.int .i64 r,.int .i64 o,.int .i64 s,.int .i64 wt] 32
 q:QD wx (B+1) #[.int .i64 0,.int .i64 0,.int .i64 0,.int .i64 0,.int .i64 0] 32
 c:QD wx (B+2) #[.int .i64 0,.int .i64 0,.int .i64 0,.int .i64 0,.int .i64 0] 87
 XW:Below B W wx
theorem KJ.start(w:World)(f r o s wt:Int):
  KJ w (((w.alloc (.cells #[.int .i64 f,.int .i64 r,.int .i64 o,.int .i64 s,.int .i64 wt] 32)).alloc (.cells #[.int .i64 0,.int .i64 0,.int .i64 0,.int .i64 0,.int .i64 0] 32)).alloc (.cells #[.int .i64 0,.int .i64 0,.int .i64 0,.int .i64 0,.int .i64 0] 87)) w.heap.size f r o s wt:=by
 refine⟨((QD.new w _ _).alloc _).alloc _,?_,?_,qQ w _ _ _⟩
 ·have:=(QD.new (w.alloc (.cells #[.int .i64 f,.int .i64 r,.int .i64 o,.int .i64 s,.int .i64 wt] 32)) #[.int .i64 0,.int .i64 0,.int .i64 0,.int .i64 0,.int .i64 0] 32)
  rw[QJ]at this;exact this.alloc _
 ·have:=(QD.new ((w.alloc (.cells #[.int .i64 f,.int .i64 r,.int .i64 o,.int .i64 s,.int .i64 wt] 32)).alloc (.cells #[.int .i64 0,.int .i64 0,.int .i64 0,.int .i64 0,.int .i64 0] 32)) #[.int .i64 0,.int .i64 0,.int .i64 0,.int .i64 0,.int .i64 0] 87)
  rw[QJ,QJ]at this;exact this
theorem KJ.below{W wx w9:World}{B:Nat}{f r o s wt:Int}(h:KJ W wx B f r o s wt)(hb:Below wx.heap.size wx w9):KJ W w9 B f r o s wt:=
 ⟨h.p.below hb h.p.lt,h.q.below hb h.q.lt,h.c.below hb h.c.lt,h.XW.trans (hb.mono (ZR h.p.lt))⟩
theorem KJ.done{W wx:World}{B:Nat}{f r o s wt:Int}(h:KJ W wx B f r o s wt)(x0 x1 x2 x3 x4 y0 y1 y2 y3 y4:Value){we:World}
  (he:we=((((((((((wx.setCell ⟨B+1,0,none⟩ x0).setCell ⟨B+1,1,none⟩ x1).setCell ⟨B+1,2,none⟩ x2).setCell ⟨B+1,3,none⟩ x3).setCell ⟨B+1,4,none⟩ x4).setCell ⟨B+1+1,0,none⟩ y0).setCell ⟨B+1+1,1,none⟩ y1).setCell ⟨B+1+1,2,none⟩ y2).setCell ⟨B+1+1,3,none⟩ y3).setCell ⟨B+1+1,4,none⟩ y4)):
  QD we (B+1) #[x0,x1,x2,x3,x4] 32/\QD we (B+1+1) #[y0,y1,y2,y3,y4] 87/\Below B W we:=by
 subst he;have hne:∀i,B+1≠(⟨B+1+1,i,none⟩:Addr).block:=fun i=>by simp
 have hne2:∀i,B+1+1≠(⟨B+1,i,none⟩:Addr).block:=fun i=>by simp
 refine⟨?_,?_,Xm (Xm h.XW (by omega)) (by omega)⟩
 ·exact(((((h.q.jF x0 x1 x2 x3 x4).other (hne _) _).other (hne _) _).other (hne _) _).other (hne _) _).other (hne _) _
 ·refine QD.jF (u0:=.int .i64 0) (u1:=.int .i64 0) (u2:=.int .i64 0) (u3:=.int .i64 0) (u4:=.int .i64 0) ?_ y0 y1 y2 y3 y4
  exact((((h.c.other (hne2 _) _).other (hne2 _) _).other (hne2 _) _).other (hne2 _) _).other (hne2 _) _
theorem zf(f r o s wt key:Int)(w:World)(hi:vY wt=false)(bK:wt≠34)(h1:0<=f)(h2:f<=999)(h3:0<=s)(h4:s<=999):
  Calls Tryz.prog 137 #[.agg #[.int .i64 f,.int .i64 r,.int .i64 o,.int .i64 s,.int .i64 wt],.int .i64 key] w (ZX (VU f r o s wt key) 0 w):=by
 have hX:=KJ.start w f r o s wt;rw[gM hi bK];have g1:(wt==34)=false:=by simpa using bK
 have g2:(wt==105)=false:=by simp[vY]at hi ⊢;omega
 have g3:(wt==97)=false:=by simp[vY]at hi ⊢;omega
 clear hi bK;exact Qk7
theorem zg(f r o s wt key:Int)(w:World)(hi:wt=105\/wt=97)(hk:lF key=true)(h1:0<=f)(h2:f<=999)(h3:0<=s)(h4:s<=999):
  Calls Tryz.prog 137 #[.agg #[.int .i64 f,.int .i64 r,.int .i64 o,.int .i64 s,.int .i64 wt],.int .i64 key] w (ZX (VU f r o s wt key) 0 w):=by
 have hX:=KJ.start w f r o s wt;rw[gN (by simp[vY];omega) hk];have hk2:key=119\/key=87\/key=40\/key=41\/key=91\/key=93\/key=123\/key=125\/key=34\/key=39\/key=96:=by simpa[lF]using hk
 have g1:(wt==34)=false:=by simp;omega
 obtain⟨z5,g2⟩:=ny wt 105;have g3:(wt==97)=!z5:=by rw[<-g2];rcases hi with rfl|rfl<;>rfl
 clear hk hi;rcases z5 with _|_<;>rcases hk2 with h|h|h|h|h|h|h|h|h|h|h
 all_goals
  have q0:(key==119)=((_:Int)==119):=XQ (fun x:Int=>x==119) h;have q1:(key==87)=((_:Int)==87):=XQ (fun x:Int=>x==87) h;have q2:(key==40)=((_:Int)==40):=XQ (fun x:Int=>x==40) h;have q3:(key==41)=((_:Int)==41):=XQ (fun x:Int=>x==41) h;have q4:(key==91)=((_:Int)==91):=XQ (fun x:Int=>x==91) h;have q5:(key==93)=((_:Int)==93):=XQ (fun x:Int=>x==93) h;have q6:(key==123)=((_:Int)==123):=XQ (fun x:Int=>x==123) h;have q7:(key==125)=((_:Int)==125):=XQ (fun x:Int=>x==125) h;have q8:(key==34)=((_:Int)==34):=XQ (fun x:Int=>x==34) h;have q9:(key==39)=((_:Int)==39):=XQ (fun x:Int=>x==39) h;have q10:(key==96)=((_:Int)==96):=XQ (fun x:Int=>x==96) h;clear h;exact Qk7
theorem zh(f r o s wt key:Int)(w:World)(hi:wt=105\/wt=97)(hk:lF key=false):
  Calls Tryz.prog 137 #[.agg #[.int .i64 f,.int .i64 r,.int .i64 o,.int .i64 s,.int .i64 wt],.int .i64 key] w (ZX (VU f r o s wt key) 0 w):=by
 have hacc:=fun c1 c2 c3=>qQ w (.cells c1 32) (.cells c2 32) (.cells c3 87)
 rw[gP (by simp[vY];omega) hk];have hk2:key≠119/\key≠87/\key≠40/\key≠41/\key≠91/\key≠93/\key≠123/\key≠125/\key≠34/\key≠39/\key≠96:=by
  simpa[lF]using hk
 obtain⟨q0,q1,q2,q3,q4,q5,q6,q7,q8,q9,qa⟩:=hk2;rw[<-Qn]at q0 q1 q2 q3 q4 q5 q6 q7 q8 q9 qa;have g1:(wt==34)=false:=by simp;omega
 obtain⟨z5,g2⟩:=ny wt 105;have g3:(wt==97)=!z5:=by rw[<-g2];rcases hi with rfl|rfl<;>rfl
 clear hk hi;rcases z5 with _|_
 all_goals
  go_enter Tryz.func137,Tryz.ntmps137
  go_wp2;exact QvT
theorem Ck(f r o s wt key:Int)(w:World)(h1:0<=f)(h2:f<=999)(h3:0<=s)(h4:s<=999):
  Calls Tryz.prog 137 #[.agg #[.int .i64 f,.int .i64 r,.int .i64 o,.int .i64 s,.int .i64 wt],.int .i64 key] w (ZX (VU f r o s wt key) 0 w):=by
 by_cases bK:wt=34
 ·subst bK;exact xh _ _ _ _ _ _
 ·cases hi:vY wt with
  | false=>exact zf _ _ _ _ _ _ _ hi bK h1 h2 h3 h4
  | true=>
   have hw:wt=105\/wt=97:=by simpa[vY]using hi
   cases hk:lF key with
   | true=>exact zg _ _ _ _ _ _ _ hw hk h1 h2 h3 h4
   | false=>exact zh _ _ _ _ _ _ _ hw hk
theorem Lp{f r o s key:Int}(h:Jr f r o s key=1):48<=key/\key<=57:=by
 by_cases hd:bU (if o≠0 then s else f) key=true
 ·simp only[bU,Zq]at hd
  omega
 ·exfalso
  unfold Jr at h;rw[if_neg hd]at h;split at h
  ·omega
  ·split at h
   ·omega
   ·split at h
    ·omega
    ·split at h
     ·split at h<;>omega
     ·split at h
      ·omega
      ·split at h
       ·split at h<;>omega
       ·split at h
        ·omega
        ·split at h<;>omega
def XX(key:Int):Prop:=¬(key<32\/key=127)
theorem KU{f r o s key:Int}(h:XX key):KV f r o s 0 key=
  if Jr f r o s key=1 then(if o≠0 then TK.more f r o (VJ s key) 0 else TK.more (VJ f key) r o s 0)
  else if Jr f r o s key=2\/Jr f r o s key=4\/Jr f r o s key=7\/Jr f r o s key=8 then TK.more f r o s key
  else if Jr f r o s key=3 then(if o=0 then TK.more f r key s 0 else if o≠key then TK.wrong else TK.done f r o s key 0)
  else if Jr f r o s key=5\/Jr f r o s key=6 then TK.done f r o s key 0
  else TK.wrong:=by
 unfold KV;rw[if_neg h,if_neg (by simp)]
theorem cz{f r o s wt key:Int}(h:key<32\/key=127):KV f r o s wt key=TK.wrong:=by unfold KV;rw[if_pos h]
theorem cu{f r o s wt key:Int}(h:XX key)(h2:wt≠0):KV f r o s wt key=VU f r o s wt key:=by unfold KV;rw[if_neg h,if_pos h2]
theorem KJ.Gi{W wx:World}{B:Nat}{f r o s wt f' r' o' s' bC:Int}(h:KJ W wx B f r o s wt)(i:Nat)(v:Value)
  (e:(#[.int .i64 f,.int .i64 r,.int .i64 o,.int .i64 s,.int .i64 wt]:Array Value).setIfInBounds i v=#[.int .i64 f',.int .i64 r',.int .i64 o',.int .i64 s',.int .i64 bC]):KJ W (wx.setCell ⟨B,i,none⟩ v) B f' r' o' s' bC:=
 ⟨by have:=h.p.set i v;rwa[e]at this,h.q.other (by simp) _,h.c.other (by simp) _,h.XW.setCell (p:=⟨B,i,none⟩) (QU _) _⟩
theorem CK(f r o s wt key:Int)(w:World)(hp:YV f r o s wt=0)(hlo:key<32\/key=127):
  Calls Tryz.prog 89 #[.agg #[.int .i64 f,.int .i64 r,.int .i64 o,.int .i64 s,.int .i64 wt],.int .i64 key] w (ZX (KV f r o s wt key) 0 w):=by
 have hX:=KJ.start w f r o s wt;obtain⟨b1,b2,b3,b4,b5⟩:=YR hp;have HP:=QQ hp;clear hp;rw[cz hlo];rcases hlo with hlo|rfl
 ·go_enter Tryz.func89,Tryz.ntmps89
  exact Qk2
 ·go_enter Tryz.func89,Tryz.ntmps89
  exact Qk2
theorem Cj(f r o s wt key:Int)(w:World)(hp:YV f r o s wt=0)(hu:XX key)(hw:wt≠0):
  Calls Tryz.prog 89 #[.agg #[.int .i64 f,.int .i64 r,.int .i64 o,.int .i64 s,.int .i64 wt],.int .i64 key] w (ZX (KV f r o s wt key) 0 w):=by
 have hX:=KJ.start w f r o s wt;obtain⟨b1,b2,b3,b4,b5⟩:=YR hp;have HP:=QQ hp;clear hp;rw[cu hu hw];have u1:32<=key:=by unfold XX at hu;omega
 have u2:(key==127)=false:=by unfold XX at hu;simp;omega
 clear hu;have u3:(wt !=0)=true:=by simpa using hw
 clear hw;obtain⟨tk,htk⟩:∃tk,VU f r o s wt key=tk:=⟨_,rfl⟩;have HT:=QQ htk;rw[htk];clear htk;go_enter Tryz.func89,Tryz.ntmps89
 go_wp2_with (first|(go_at_call 17;refine(Zt _ _ _ _ _ _).mono ?_;rintro e w9 ⟨rfl,hb⟩;rw[HP.out];have hX1:=hX.below hb;obtain⟨c0,c1,c2,c3,c4⟩:=hX1.p.five;obtain⟨g0,g1,g2,g3,g4⟩:=hX1.p.Qf;obtain⟨k0,k1,k2,k3,k4⟩:=hX1.q.five;obtain⟨l0,l1,l2,l3,l4⟩:=hX1.q.Qf;obtain⟨m0,m1,m2,m3,m4⟩:=hX1.c.five;obtain⟨n0,n1,n2,n3,n4⟩:=hX1.c.Qf)|(go_at_call 137;refine(Ck _ _ _ _ _ _ _ b1 b2 b3 b4).mono ?_;rw[HT.out];rintro e w7 ⟨rfl,hb3⟩;simp only[TK.q,TK.c];have Wo:=hX1.below hb3;obtain⟨c0,c1,c2,c3,c4⟩:=Wo.p.five;obtain⟨g0,g1,g2,g3,g4⟩:=Wo.p.Qf;obtain⟨k0,k1,k2,k3,k4⟩:=Wo.q.five;obtain⟨l0,l1,l2,l3,l4⟩:=Wo.q.Qf;obtain⟨m0,m1,m2,m3,m4⟩:=Wo.c.five;obtain⟨n0,n1,n2,n3,n4⟩:=Wo.c.Qf))
 obtain⟨hq,hc,hbel⟩:=Wo.done (.int .i64 (tk.q0)) (.int .i64 (tk.q1)) (.int .i64 (tk.q2)) (.int .i64 (tk.q3)) (.int .i64 (tk.q4)) (.int .i64 (tk.c0)) (.int .i64 (tk.c1)) (.int .i64 (tk.c2)) (.int .i64 (tk.c3)) (.int .i64 (tk.c4)) rfl;obtain⟨y0,y1,y2,y3,y4⟩:=hq.five;obtain⟨z0,z1,z2,z3,z4⟩:=hc.five;exact QV (v:=.tuple #[(tk).q,(tk).c,.int .i64 tk.how,.int .i64 0]) (by simp[results,Tryz.results89,go_sem,TK.q,TK.q,TK.c,y0,y1,y2,y3,y4,z0,z1,z2,z3,z4]) rfl (ZX.of hbel)
theorem Cx(f r o s key:Int)(w:World)(hp:YV f r o s 0=0)(hu:XX key)(hk:Jr f r o s key=2):
  Calls Tryz.prog 89 #[.agg #[.int .i64 f,.int .i64 r,.int .i64 o,.int .i64 s,.int .i64 0],.int .i64 key] w (ZX (KV f r o s 0 key) 0 w):=by
 exact QkV
theorem Cz(f r o s key:Int)(w:World)(hp:YV f r o s 0=0)(hu:XX key)(hk:Jr f r o s key=4):
  Calls Tryz.prog 89 #[.agg #[.int .i64 f,.int .i64 r,.int .i64 o,.int .i64 s,.int .i64 0],.int .i64 key] w (ZX (KV f r o s 0 key) 0 w):=by
 exact QkV
theorem CV(f r o s key:Int)(w:World)(hp:YV f r o s 0=0)(hu:XX key)(hk:Jr f r o s key=7):
  Calls Tryz.prog 89 #[.agg #[.int .i64 f,.int .i64 r,.int .i64 o,.int .i64 s,.int .i64 0],.int .i64 key] w (ZX (KV f r o s 0 key) 0 w):=by
 exact QkV
theorem CU(f r o s key:Int)(w:World)(hp:YV f r o s 0=0)(hu:XX key)(hk:Jr f r o s key=8):
  Calls Tryz.prog 89 #[.agg #[.int .i64 f,.int .i64 r,.int .i64 o,.int .i64 s,.int .i64 0],.int .i64 key] w (ZX (KV f r o s 0 key) 0 w):=by
 exact QkV
theorem Cq(f r o s key:Int)(w:World)(hp:YV f r o s 0=0)(hu:XX key)(hk:Jr f r o s key=5):
  Calls Tryz.prog 89 #[.agg #[.int .i64 f,.int .i64 r,.int .i64 o,.int .i64 s,.int .i64 0],.int .i64 key] w (ZX (KV f r o s 0 key) 0 w):=by
 exact QBZ
theorem CW(f r o s key:Int)(w:World)(hp:YV f r o s 0=0)(hu:XX key)(hk:Jr f r o s key=6):
  Calls Tryz.prog 89 #[.agg #[.int .i64 f,.int .i64 r,.int .i64 o,.int .i64 s,.int .i64 0],.int .i64 key] w (ZX (KV f r o s 0 key) 0 w):=by
 exact QBZ
theorem Cy(f r o s key:Int)(w:World)(hp:YV f r o s 0=0)(hu:XX key)(hk:Jr f r o s key=0):
  Calls Tryz.prog 89 #[.agg #[.int .i64 f,.int .i64 r,.int .i64 o,.int .i64 s,.int .i64 0],.int .i64 key] w (ZX (KV f r o s 0 key) 0 w):=by
 have hX:=KJ.start w f r o s 0;obtain⟨b1,b2,b3,b4,b5⟩:=YR hp;have HP:=QQ hp;clear hp;rw[KU hu,hk,if_neg (by omega),if_neg (by omega),if_neg (by omega),if_neg (by omega)];have u1:32<=key:=by unfold XX at hu;omega
 have u2:(key==127)=false:=by unfold XX at hu;simp;omega
 clear hu;have HK:=QQ hk;clear hk;exact Qkp
theorem vZ(f r o s key:Int)(w:World)(hp:YV f r o s 0=0)(hu:XX key)(hk:Jr f r o s key=1)(ho:o≠0):
  Calls Tryz.prog 89 #[.agg #[.int .i64 f,.int .i64 r,.int .i64 o,.int .i64 s,.int .i64 0],.int .i64 key] w (ZX (KV f r o s 0 key) 0 w):=by
 have hX:=KJ.start w f r o s 0;obtain⟨b1,b2,b3,b4,b5⟩:=YR hp;have HP:=QQ hp;clear hp;rw[KU hu,hk,if_pos rfl,if_pos ho];have u1:32<=key:=by unfold XX at hu;omega
 have u2:(key==127)=false:=by unfold XX at hu;simp;omega
 clear hu;have HK:=QQ hk;clear hk;have ho2:(o !=0)=true:=by simpa using ho
 clear ho;obtain⟨d1,d2⟩:=Lp HK.out;go_enter Tryz.func89,Tryz.ntmps89
 go_wp2_with (first|(go_at_call 17;refine(Zt _ _ _ _ _ _).mono ?_;rintro e w9 ⟨rfl,hb⟩;rw[HP.out];have hX1:=hX.below hb;obtain⟨c0,c1,c2,c3,c4⟩:=hX1.p.five;obtain⟨g0,g1,g2,g3,g4⟩:=hX1.p.Qf;obtain⟨k0,k1,k2,k3,k4⟩:=hX1.q.five;obtain⟨l0,l1,l2,l3,l4⟩:=hX1.q.Qf;obtain⟨m0,m1,m2,m3,m4⟩:=hX1.c.five;obtain⟨n0,n1,n2,n3,n4⟩:=hX1.c.Qf)|(go_at_call 138;refine(XB _ _ _ _ _ _ _).mono ?_;rintro e w8 ⟨rfl,hb2⟩;rw[HK.out];have hX2:=hX1.below hb2;obtain⟨c0,c1,c2,c3,c4⟩:=hX2.p.five;obtain⟨g0,g1,g2,g3,g4⟩:=hX2.p.Qf;obtain⟨k0,k1,k2,k3,k4⟩:=hX2.q.five;obtain⟨l0,l1,l2,l3,l4⟩:=hX2.q.Qf;obtain⟨m0,m1,m2,m3,m4⟩:=hX2.c.five;obtain⟨n0,n1,n2,n3,n4⟩:=hX2.c.Qf)|(go_at_call 139;refine(qR _ _ _ b3 b4 d1 d2).mono ?_;rintro e w7 ⟨rfl,rfl⟩))
 obtain⟨hq,hc,hbel⟩:=(hX2.Gi (f':=f) (r':=r) (o':=o) (s':=VJ s key) (bC:=0) 3 (.int .i64 (VJ s key)) rfl).done (.int .i64 (f)) (.int .i64 (r)) (.int .i64 (o)) (.int .i64 (VJ s key)) (.int .i64 (0)) (.int .i64 (0)) (.int .i64 (0)) (.int .i64 (0)) (.int .i64 (0)) (.int .i64 (0)) rfl;obtain⟨y0,y1,y2,y3,y4⟩:=hq.five;obtain⟨z0,z1,z2,z3,z4⟩:=hc.five;exact QV (v:=.tuple #[(TK.more f r o (VJ s key) 0).q,(TK.more f r o (VJ s key) 0).c,.int .i64 1,.int .i64 0]) (by simp[results,Tryz.results89,go_sem,TK.more,TK.q,TK.c,y0,y1,y2,y3,y4,z0,z1,z2,z3,z4]) rfl (ZX.of hbel)
theorem vQ(f r o s key:Int)(w:World)(hp:YV f r o s 0=0)(hu:XX key)(hk:Jr f r o s key=1)(ho:¬o≠0):
  Calls Tryz.prog 89 #[.agg #[.int .i64 f,.int .i64 r,.int .i64 o,.int .i64 s,.int .i64 0],.int .i64 key] w (ZX (KV f r o s 0 key) 0 w):=by
 have hX:=KJ.start w f r o s 0;obtain⟨b1,b2,b3,b4,b5⟩:=YR hp;have HP:=QQ hp;clear hp;rw[KU hu,hk,if_pos rfl,if_neg ho];have u1:32<=key:=by unfold XX at hu;omega
 have u2:(key==127)=false:=by unfold XX at hu;simp;omega
 clear hu;have HK:=QQ hk;clear hk;have ho2:(o !=0)=false:=by simpa using ho
 clear ho;obtain⟨d1,d2⟩:=Lp HK.out;go_enter Tryz.func89,Tryz.ntmps89
 go_wp2_with (first|(go_at_call 17;refine(Zt _ _ _ _ _ _).mono ?_;rintro e w9 ⟨rfl,hb⟩;rw[HP.out];have hX1:=hX.below hb;obtain⟨c0,c1,c2,c3,c4⟩:=hX1.p.five;obtain⟨g0,g1,g2,g3,g4⟩:=hX1.p.Qf;obtain⟨k0,k1,k2,k3,k4⟩:=hX1.q.five;obtain⟨l0,l1,l2,l3,l4⟩:=hX1.q.Qf;obtain⟨m0,m1,m2,m3,m4⟩:=hX1.c.five;obtain⟨n0,n1,n2,n3,n4⟩:=hX1.c.Qf)|(go_at_call 138;refine(XB _ _ _ _ _ _ _).mono ?_;rintro e w8 ⟨rfl,hb2⟩;rw[HK.out];have hX2:=hX1.below hb2;obtain⟨c0,c1,c2,c3,c4⟩:=hX2.p.five;obtain⟨g0,g1,g2,g3,g4⟩:=hX2.p.Qf;obtain⟨k0,k1,k2,k3,k4⟩:=hX2.q.five;obtain⟨l0,l1,l2,l3,l4⟩:=hX2.q.Qf;obtain⟨m0,m1,m2,m3,m4⟩:=hX2.c.five;obtain⟨n0,n1,n2,n3,n4⟩:=hX2.c.Qf)|(go_at_call 139;refine(qR _ _ _ b1 b2 d1 d2).mono ?_;rintro e w7 ⟨rfl,rfl⟩))
 obtain⟨hq,hc,hbel⟩:=(hX2.Gi (f':=VJ f key) (r':=r) (o':=o) (s':=s) (bC:=0) 0 (.int .i64 (VJ f key)) rfl).done (.int .i64 (VJ f key)) (.int .i64 (r)) (.int .i64 (o)) (.int .i64 (s)) (.int .i64 (0)) (.int .i64 (0)) (.int .i64 (0)) (.int .i64 (0)) (.int .i64 (0)) (.int .i64 (0)) rfl;obtain⟨y0,y1,y2,y3,y4⟩:=hq.five;obtain⟨z0,z1,z2,z3,z4⟩:=hc.five;exact QV (v:=.tuple #[(TK.more (VJ f key) r o s 0).q,(TK.more (VJ f key) r o s 0).c,.int .i64 1,.int .i64 0]) (by simp[results,Tryz.results89,go_sem,TK.more,TK.q,TK.c,y0,y1,y2,y3,y4,z0,z1,z2,z3,z4]) rfl (ZX.of hbel)
theorem uo(f r o s key:Int)(w:World)(hp:YV f r o s 0=0)(hu:XX key)(hk:Jr f r o s key=3)(ho:o=0):
  Calls Tryz.prog 89 #[.agg #[.int .i64 f,.int .i64 r,.int .i64 o,.int .i64 s,.int .i64 0],.int .i64 key] w (ZX (KV f r o s 0 key) 0 w):=by
 have hX:=KJ.start w f r o s 0;obtain⟨b1,b2,b3,b4,b5⟩:=YR hp;have HP:=QQ hp;clear hp;rw[KU hu,hk,if_neg (by omega),if_neg (by omega),if_pos rfl,if_pos ho];have u1:32<=key:=by unfold XX at hu;omega
 have u2:(key==127)=false:=by unfold XX at hu;simp;omega
 clear hu;have HK:=QQ hk;clear hk;have ho2:(o==0)=true:=by simpa using ho
 clear ho b5;go_enter Tryz.func89,Tryz.ntmps89
 go_wp2_with (first|(go_at_call 17;refine(Zt _ _ _ _ _ _).mono ?_;rintro e w9 ⟨rfl,hb⟩;rw[HP.out];have hX1:=hX.below hb;obtain⟨c0,c1,c2,c3,c4⟩:=hX1.p.five;obtain⟨g0,g1,g2,g3,g4⟩:=hX1.p.Qf;obtain⟨k0,k1,k2,k3,k4⟩:=hX1.q.five;obtain⟨l0,l1,l2,l3,l4⟩:=hX1.q.Qf;obtain⟨m0,m1,m2,m3,m4⟩:=hX1.c.five;obtain⟨n0,n1,n2,n3,n4⟩:=hX1.c.Qf)|(go_at_call 138;refine(XB _ _ _ _ _ _ _).mono ?_;rintro e w8 ⟨rfl,hb2⟩;rw[HK.out];have hX2:=hX1.below hb2;obtain⟨c0,c1,c2,c3,c4⟩:=hX2.p.five;obtain⟨g0,g1,g2,g3,g4⟩:=hX2.p.Qf;obtain⟨k0,k1,k2,k3,k4⟩:=hX2.q.five;obtain⟨l0,l1,l2,l3,l4⟩:=hX2.q.Qf;obtain⟨m0,m1,m2,m3,m4⟩:=hX2.c.five;obtain⟨n0,n1,n2,n3,n4⟩:=hX2.c.Qf))
 obtain⟨hq,hc,hbel⟩:=(hX2.Gi (f':=f) (r':=r) (o':=key) (s':=s) (bC:=0) 2 (.int .i64 key) rfl).done (.int .i64 (f)) (.int .i64 (r)) (.int .i64 (key)) (.int .i64 (s)) (.int .i64 (0)) (.int .i64 (0)) (.int .i64 (0)) (.int .i64 (0)) (.int .i64 (0)) (.int .i64 (0)) rfl;obtain⟨y0,y1,y2,y3,y4⟩:=hq.five;obtain⟨z0,z1,z2,z3,z4⟩:=hc.five;exact QV (v:=.tuple #[(TK.more f r key s 0).q,(TK.more f r key s 0).c,.int .i64 1,.int .i64 0]) (by simp[results,Tryz.results89,go_sem,TK.more,TK.q,TK.c,y0,y1,y2,y3,y4,z0,z1,z2,z3,z4]) rfl (ZX.of hbel)
theorem uw(f r o s key:Int)(w:World)(hp:YV f r o s 0=0)(hu:XX key)(hk:Jr f r o s key=3)(ho:¬o=0)(hn:o≠key):
  Calls Tryz.prog 89 #[.agg #[.int .i64 f,.int .i64 r,.int .i64 o,.int .i64 s,.int .i64 0],.int .i64 key] w (ZX (KV f r o s 0 key) 0 w):=by
 have hX:=KJ.start w f r o s 0;obtain⟨b1,b2,b3,b4,b5⟩:=YR hp;have HP:=QQ hp;clear hp;rw[KU hu,hk,if_neg (by omega),if_neg (by omega),if_pos rfl,if_neg ho,if_pos hn];have u1:32<=key:=by unfold XX at hu;omega
 have u2:(key==127)=false:=by unfold XX at hu;simp;omega
 clear hu;have HK:=QQ hk;clear hk;have ho2:(o==0)=false:=by simpa using ho
 have ho3:(o !=key)=true:=by simpa using hn
 clear ho hn b5;exact Qkp
theorem u7(f r o s key:Int)(w:World)(hp:YV f r o s 0=0)(hu:XX key)(hk:Jr f r o s key=3)(ho:¬o=0)(hn:¬o≠key):
  Calls Tryz.prog 89 #[.agg #[.int .i64 f,.int .i64 r,.int .i64 o,.int .i64 s,.int .i64 0],.int .i64 key] w (ZX (KV f r o s 0 key) 0 w):=by
 have hX:=KJ.start w f r o s 0;obtain⟨b1,b2,b3,b4,b5⟩:=YR hp;have HP:=QQ hp;clear hp;rw[KU hu,hk,if_neg (by omega),if_neg (by omega),if_pos rfl,if_neg ho,if_neg hn];have u1:32<=key:=by unfold XX at hu;omega
 have u2:(key==127)=false:=by unfold XX at hu;simp;omega
 clear hu;have HK:=QQ hk;clear hk;have ho2:(o==0)=false:=by simpa using ho
 have ho3:(o !=key)=false:=by simpa using hn
 clear ho hn b5;exact QkD
theorem eB(f r o s key:Int):Jr f r o s key=0\/Jr f r o s key=1\/Jr f r o s key=2\/Jr f r o s key=3\/Jr f r o s key=4\/Jr f r o s key=5\/Jr f r o s key=6\/Jr f r o s key=7\/Jr f r o s key=8:=by
 unfold Jr
 repeat(first|omega|split)
theorem NT(f r o s wt key:Int)(w:World)(hp:YV f r o s wt=0):
  Calls Tryz.prog 89 #[.agg #[.int .i64 f,.int .i64 r,.int .i64 o,.int .i64 s,.int .i64 wt],.int .i64 key] w (ZX (KV f r o s wt key) 0 w):=by
 by_cases hlo:key<32\/key=127
 ·exact CK _ _ _ _ _ _ _ hp hlo
 ·by_cases hw:wt=0
  ·subst hw
   rcases eB f r o s key with h|h|h|h|h|h|h|h|h
   ·exact Cy _ _ _ _ _ _ hp hlo h
   ·by_cases ho:o≠0
    ·exact vZ _ _ _ _ _ _ hp hlo h ho
    ·exact vQ _ _ _ _ _ _ hp hlo h ho
   ·exact Cx _ _ _ _ _ _ hp hlo h
   ·by_cases ho:o=0
    ·exact uo _ _ _ _ _ _ hp hlo h ho
    ·by_cases hn:o≠key
     ·exact uw _ _ _ _ _ _ hp hlo h ho hn
     ·exact u7 _ _ _ _ _ _ hp hlo h ho hn
   ·exact Cz _ _ _ _ _ _ hp hlo h
   ·exact Cq _ _ _ _ _ _ hp hlo h
   ·exact CW _ _ _ _ _ _ hp hlo h
   ·exact CV _ _ _ _ _ _ hp hlo h
   ·exact CU _ _ _ _ _ _ hp hlo h
  ·exact Cj _ _ _ _ _ _ _ hp hlo hw
theorem UO.ln{F:Nat->Prop}{w:World}{la:Option Addr}{ln lc:Nat}{most QM:Int}{sv pv:Value}{older:Bool}{h:Hi}(r:UO F w (.slice la ln lc) most QM sv pv older h):h.ls.length=ln:=by
 obtain⟨vs,h1,h2⟩:=r.ls;obtain⟨a,n,c,e,g,-⟩:=h1;simp only[Qw]at e;obtain⟨rfl,rfl,rfl⟩:=e;rw[<-h2.1,g]
theorem Aw(W0:World)(F G:Nat->Prop)(B:Nat)(S:SS)(w:World)(h:Zw F G w B S)(hn:S.told.length<=4398046511103):
  Calls Tryz.prog 48 #[.pointer (some ⟨B,0,none⟩),.int .i64 3] w (VP F G w B (S.key W0 3) XU):=by
 have HT:=QQ (yu F G B S 3 (.slice none 0 0) [] w h (XH.nil _ _) hn);have he:S.key W0 3=({S.tell 3 []with now:=none,Qh:=⟨S.Qh.ls,S.Qh.most,S.Qh.ls.length,[],S.Qh.pat,S.Qh.older⟩}).YP [] 1:=by unfold SS.key;rw[if_pos rfl]
 rw[he];clear he hn h;go_enter Tryz.func48,Tryz.ntmps48
 go_wp2_with fail
 refine HT.out.mono ?_;rintro e w2 ⟨rfl,hv⟩;obtain⟨F2,f2,hA2,-,-⟩:=hv.get;obtain⟨iM,z47⟩:=hA2.hf.m.blk.at 47;have hA3:=hA2.LB;obtain⟨la,ln,lc,sa,sn,sc,pa,pn,pc,hH,e37,e38,e39,e40,e41,e42⟩:=JJ hA3.hf;obtain⟨GJ,-⟩:=hA3.hf.m.blk.at 37;obtain⟨x39,z39⟩:=hA3.hf.m.blk.at 39;obtain⟨LJ,z40⟩:=hA3.hf.m.blk.at 40;rw[e37]at GJ;have hln:=hH.ln;have hln:S.Qh.ls.length=ln:=hln;have nB:=hA3.hf.m.nB;have r1:=hH.J6 (i:=39) (u:=.int .i64 (ln:Int)) nB;have JM:=hA3.store (S':={S.tell 3 []with now:=none,Qh:=⟨S.Qh.ls,S.Qh.most,S.Qh.ls.length,S.Qh.Qm,S.Qh.pat,S.Qh.older⟩}) 39 (.int .i64 (ln:Int))
  {hA3.hf.d with Qh:=⟨hA3.hf.d.Qh.ls,rfl,rfl,hA3.hf.d.Qh.Qm,hA3.hf.d.Qh.pat,rfl⟩,AA:=by rw[hln];rfl}
 have Jk:=JM.store (S':={S.tell 3 []with now:=none,Qh:=⟨S.Qh.ls,S.Qh.most,S.Qh.ls.length,[],S.Qh.pat,S.Qh.older⟩}) 40 (.slice none 0 0)
  {JM.hf.d with Qh:=⟨JM.hf.d.Qh.ls,rfl,rfl,XH.nil _ _,JM.hf.d.Qh.pat,rfl⟩}
 have HB:=QQ (jX _ _ B _ none 0 0 [] 1 _ ⟨_,Jk.hf⟩ (Sl.nil _) (by omega) (.inr rfl));have Om:=QQ Jk;clear hA2 hA3 JM Jk hH e37 e38 e39 e40 e41 e42 hln nB r1 hv;go_wp2_with fail
 refine HB.out.mono ?_;rintro e w7 ⟨rfl,hv⟩;obtain⟨F7,f7,xX,-,-⟩:=Om.out.call hv;have HA7:=QQ xX;clear xX hv;go_wp2
 go_end0
 exact⟨rfl,HA7.out.done⟩
theorem Gu(W0:World)(F G:Nat->Prop)(B:Nat)(S:SS)(w:World)(h:Zw F G w B S)(hm:S.mode≠3)(hn:S.told.length<=4398046511103):
  Calls Tryz.prog 48 #[.pointer (some ⟨B,0,none⟩),.int .i64 4] w (VP F G w B (S.key W0 4) XU):=by
 have he:S.key W0 4=if 0<S.text.length then S.Xa else {S.tell 4 []with over:=true}:=by
  unfold SS.key;rw[if_neg (by decide),if_neg hm,if_neg (by decide),if_pos rfl]
 obtain⟨f,hf⟩:=h;have hA:=At.begin hf;obtain⟨p,hpt⟩:=hf.d.text.ptr;have c0:=hf.cell 0;have c2:=hf.cell 2;have htx:=hf.d.text;rw[hpt]at c0 htx;rw[hf.d.mode]at c2;have Sm:(S.mode==3)=false:=by simpa using hm
 obtain⟨T,hT1,mV⟩:=htx;have HL:=QQ (jN p T w hT1.tree);have HT2:=QQ mV;have HA:=QQ hA;have HN:=QQ hn;have HE:=QQ he;clear hf hA hpt he hm hn hT1 mV;go_enter Tryz.func48,Tryz.ntmps48
 go_wp2_with fail
 refine HL.out.mono ?_;rintro e w2 ⟨rfl,hb2⟩;rw[HT2.out];have hA2:=HA.out.Xw hb2;by_cases hz:0<S.text.length
 ·have h1:(0:Int)<(S.text.length:Int):=by omega
  have HB:=QQ (Kv _ _ B S w2 ⟨f,hA2.hf⟩ HN.out);have HA2:=QQ hA2;have HZ:=QQ hz;clear hA2 hb2 hz;go_wp2_with fail
  refine HB.out.mono ?_;rintro e w7 ⟨rfl,hv⟩;obtain⟨F7,f7,xX,-,-⟩:=HA2.out.call hv;go_wp2
  go_end0
  exact⟨rfl,by rw[HE.out,if_pos HZ.out];exact xX.done⟩
 ·have h0:S.text.length=0:=by omega
  have HB:=QQ (yu _ _ B S 4 (.slice none 0 0) [] w2 ⟨f,hA2.hf⟩ (XH.nil _ _) HN.out);have HA2:=QQ hA2;have HZ:=QQ hz;rw[h0];clear hA2 hb2 hz h0;go_wp2_with fail
  refine HB.out.mono ?_;rintro e w7 ⟨rfl,hv⟩;obtain⟨F7,f7,xX,-,-⟩:=HA2.out.call hv;obtain⟨x55,z55⟩:=xX.hf.m.blk.at 55;have HA8:=QQ (xX.store (S':={S.tell 4 []with over:=true}) 55 (.bool true) {xX.hf.d with over:=rfl});clear xX hv;go_wp2
  go_end0
  exact⟨rfl,by rw[HE.out,if_neg HZ.out];exact HA8.out.done⟩
theorem zz(F G:Nat->Prop)(B:Nat)(S S':SS)(key:Int)(w:World)(k3:key≠3)(h:Zw F G w B S)(m:Bool)
  (hcase:(S.mode=3/\Calls Tryz.prog 84 #[.pointer (some ⟨B,0,none⟩),.int .i64 key] w (VP F G w B S' XU))\/
   (S.mode≠3/\(key=13\/key=10)/\Calls Tryz.prog 85 #[.pointer (some ⟨B,0,none⟩)] w (VP F G w B S' XU))\/
   (S.mode≠3/\S.mode≠0/\key≠13/\key≠10/\key≠4/\Calls Tryz.prog 88 #[.pointer (some ⟨B,0,none⟩),.int .i64 key] w (VP F G w B S' XU))):
  Calls Tryz.prog 48 #[.pointer (some ⟨B,0,none⟩),.int .i64 key] w (VP F G w B S' XU):=by
 obtain⟨f,hf⟩:=h;have c2:=hf.cell 2;rw[hf.d.mode]at c2;have e3:(key==3)=false:=by simpa using k3
 rcases hcase with⟨hm,hC⟩|⟨hm,hk,hC⟩|⟨hm,hm0,PZ,h10,h4,hC⟩
 ·rw[hm]at c2
  have HC:=QQ hC;clear hC hm hf k3;exact Quo
 ·have Sm:(S.mode==3)=false:=by simpa using hm
  have HC:=QQ hC;clear hC hm hf k3;rcases hk with rfl|rfl
  all_goals
   exact Quo
 ·have Sm:(S.mode==3)=false:=by simpa using hm
  have hmn:(S.mode !=0)=true:=by simpa using hm0
  have e13:(key==13)=false:=by simpa using PZ
  have e10:(key==10)=false:=by simpa using h10
  have e4:(key==4)=false:=by simpa using h4
  have HC:=QQ hC;clear hC hm hf k3 hm0 PZ h10 h4;exact Quo
theorem Dn(W0:World)(F G:Nat->Prop)(B K:Nat)(S:SS)(key:Int)(w:World)(h:Zw F G w B S)(hI:Qt K S)(hm:S.mode=0)(h3:key≠3)(PZ:key≠13)(h10:key≠10)(h4:key≠4)(hK:K<=4398046511103)(hn:S.told.length+K+2<=4398046511103):
  Calls Tryz.prog 48 #[.pointer (some ⟨B,0,none⟩),.int .i64 key] w (VP F G w B (S.key W0 key) XU):=by
 have he:S.key W0 key=if(S.Ua key).how=2 then({S with part:=(S.Ua key).part}).command W0 (S.Ua key).cmd else if(S.Ua key).how=3 then({S with part:=(S.Ua key).part}).Xa else {S with part:=(S.Ua key).part}:=by
  unfold SS.key;rw[if_neg h3,if_neg (by omega),if_neg (by omega),if_neg h4,if_neg (by omega)]
 obtain⟨f,hf⟩:=h;have hA:=At.begin hf;have c2:=hf.cell 2;rw[hf.d.mode,hm]at c2;have c32:=hf.cell 32;have JA:=hf.cell 33;have c34:=hf.cell 34;have qW:=hf.cell 35;have mM:=hf.cell 36;rw[hf.d.p0]at c32;rw[hf.d.p1]at JA;rw[hf.d.p2]at c34;rw[hf.d.p3]at qW;rw[hf.d.p4]at mM;have e3:(key==3)=false:=by simpa using h3
 have e13:(key==13)=false:=by simpa using PZ
 have e10:(key==10)=false:=by simpa using h10
 have e4:(key==4)=false:=by simpa using h4
 have HT:=QQ (NT S.part.a S.part.b S.part.c S.part.d S.part.e key w hI.pt);have hTK:KV S.part.a S.part.b S.part.c S.part.d S.part.e key=S.Ua key:=rfl;rw[hTK]at HT;have hok:=BA (key:=key) hI.pt;rw[hTK]at hok;have HE:=QQ he;have HA:=QQ hA;have HI:=QQ hI;have HN:=QQ hn;have HM:=QQ hm;have GQ:=QQ hok;clear hf hA he hI hn hm hok hTK h3 PZ h10 h4;generalize S.Ua key=t at *;go_enter Tryz.func48,Tryz.ntmps48
 go_wp2_with fail
 refine HT.out.mono ?_;rintro e w2 ⟨rfl,hb2⟩;unfold TK.q TK.c;have hA2:=HA.out.Xw hb2;obtain⟨x32,z32⟩:=hA2.hf.m.blk.at 32;obtain⟨x33,z33⟩:=hA2.hf.m.blk.at 33;obtain⟨x34,z34⟩:=hA2.hf.m.blk.at 34;obtain⟨x35,z35⟩:=hA2.hf.m.blk.at 35;obtain⟨x36,z36⟩:=hA2.hf.m.blk.at 36;have hBl:=hA2.hf.yH;have hA3:=hA2.store (S':={S with part:=⟨t.q0,S.part.b,S.part.c,S.part.d,S.part.e⟩}) 32 (.int .i64 t.q0) {hA2.hf.d with p0:=rfl};have JM:=hA3.store (S':={S with part:=⟨t.q0,t.q1,S.part.c,S.part.d,S.part.e⟩}) 33 (.int .i64 t.q1) {hA3.hf.d with p1:=rfl};have Jk:=JM.store (S':={S with part:=⟨t.q0,t.q1,t.q2,S.part.d,S.part.e⟩}) 34 (.int .i64 t.q2) {JM.hf.d with p2:=rfl};have UF:=Jk.store (S':={S with part:=⟨t.q0,t.q1,t.q2,t.q3,S.part.e⟩}) 35 (.int .i64 t.q3) {Jk.hf.d with p3:=rfl};have xX:=UF.store (S':={S with part:=t.part}) 36 (.int .i64 t.q4) {UF.hf.d with p4:=rfl};have VG:=xX.Xw (QR.alloc (o:=.cells #[.int .i64 t.c0,.int .i64 t.c1,.int .i64 t.c2,.int .i64 t.c3,.int .i64 t.c4] 87) (QR.alloc (o:=.cells #[.int .i64 t.q0,.int .i64 t.q1,.int .i64 t.q2,.int .i64 t.q3,.int .i64 t.q4] 32) (Qx _ _)));have HA8:=QQ VG;clear hA2 hA3 JM Jk UF xX VG hb2 c2 c32 JA c34 qW mM;by_cases h2:t.how=2
 ·rw[h2]
  have HC:=QQ (GA W0 _ _ B K {S with part:=t.part} t.cmd _ ⟨_,HA8.out.hf⟩ {HI.out with pt:=GQ.out.1} HM.out GQ.out.2 hK HN.out);unfold TK.cmd at HC;have H2:=QQ h2;clear h2;go_wp2_with fail
  refine HC.out.mono ?_;rintro e w7 ⟨rfl,hv⟩;obtain⟨F7,f7,VQ,-,-⟩:=HA8.out.call hv;have HA9:=QQ VQ;clear VQ hv;go_wp2
  go_end0
  exact⟨rfl,by rw[HE.out,if_pos H2.out];exact HA9.out.done⟩
 ·by_cases h3:t.how=3
  ·rw[h3]
   have HC:=QQ (Kv _ _ B {S with part:=t.part} _ ⟨_,HA8.out.hf⟩ (QL (QL (ZG _ _) (ZG _ _)) HN.out));have H2:=QQ h2;have H3:=QQ h3;clear h2 h3;go_wp2_with fail
   refine HC.out.mono ?_;rintro e w7 ⟨rfl,hv⟩;obtain⟨F7,f7,VQ,-,-⟩:=HA8.out.call hv;have HA9:=QQ VQ;clear VQ hv;go_wp2
   go_end0
   exact⟨rfl,by rw[HE.out,if_neg H2.out,if_pos H3.out];exact HA9.out.done⟩
  ·have e2:(t.how==2)=false:=by simpa using h2
   have e5:(t.how==3)=false:=by simpa using h3
   have H2:=QQ h2;have H3:=QQ h3;clear h2 h3;go_wp2
   go_end0
   exact⟨rfl,by rw[HE.out,if_neg H2.out,if_neg H3.out];exact HA8.out.done⟩
theorem nM(W0:World)(F G:Nat->Prop)(B K:Nat)(S:SS)(key:Int)(w:World)(h:Zw F G w B S)(hI:Qt K S)(hK:K<=4398046511103)(hn:S.told.length+K+2<=4398046511103):
  Calls Tryz.prog 48 #[.pointer (some ⟨B,0,none⟩),.int .i64 key] w (VP F G w B (S.key W0 key) XU):=by
 by_cases h3:key=3
 ·subst h3;exact Aw W0 F G B S w h (by omega)
 by_cases Sm:S.mode=3
 ·have he:S.key W0 key=S.asked key:=by unfold SS.key;rw[if_neg h3,if_pos Sm]
  rw[he];exact zz F G B S _ key w h3 h true (.inl ⟨Sm,PS F G B K S key w h hI (by omega)⟩)
 by_cases PZ:key=13\/key=10
 ·have he:S.key W0 key=S.accept:=by unfold SS.key;rw[if_neg h3,if_neg Sm,if_pos PZ]
  rw[he];exact zz F G B S _ key w h3 h true (.inr (.inl ⟨Sm,PZ,Mg F G B S w h hI.tl hI.hi (by omega)⟩))
 by_cases h4:key=4
 ·subst h4;exact Gu W0 F G B S w h Sm (by omega)
 by_cases hm0:S.mode=0
 ·exact Dn W0 F G B K S key w h hI hm0 h3 (by omega) (by omega) h4 hK hn
 ·have he:S.key W0 key=S.typed key:=by unfold SS.key;rw[if_neg h3,if_neg Sm,if_neg PZ,if_neg h4,if_pos hm0]
  rw[he];exact zz F G B S _ key w h3 h true (.inr (.inr ⟨Sm,hm0,by omega,by omega,h4,jQ F G B S key w h hI.tl hI.p0 (by have:=hI.p1;have:=hI.tl;omega) (by omega) (fun c ty e=>by have:=(hI.nw c ty e).2;omega)⟩))
def KS(c:Int)(s:List Int×Nat):List Int×Nat:=
 if c=8 then(s.1,s.2-1)else if c=13 then(s.1,0)
 else if c=11 then(s.1.take s.2++List.replicate (s.1.length-s.2) 32,s.2)
 else if 32<=c/\c≠127/\s.2<s.1.length then(s.1.set s.2 c,s.2+1)else s
theorem QZl(w:World)(x:Int):Ints (w.alloc (.cells #[.int .i64 x] 3)) (some ⟨w.heap.size,0,none⟩) [x]:=
 .inr ⟨_,_,rfl,fun i hi=>by
  obtain rfl:i=0:=by simpa using hi
  exact Xi w (.int .i64 x) 3⟩
theorem Bv(k:Int)(w:World)(hk:k<2\/120<k):
  Calls Tryz.prog 30 #[.int .i64 k] w fun e w'=>e=.returned (.tuple #[.agg #[.slice none 0 0,.int .i64 0],.int .i64 1])/\Below w.heap.size w w':=by
 have hA:=QD.new w #[.slice none 0 0,.int .i64 0] 39;have hb:=QC w (.cells #[.slice none 0 0,.int .i64 0] 39);obtain⟨y0,y1,-,-⟩:=hA.two;by_cases h:k<2
 all_goals
  go_enter Tryz.func30,Tryz.ntmps30
  go_wp2;refine QV (v:=.tuple #[.agg #[.slice none 0 0,.int .i64 0],.int .i64 1]) (by simp[results,Tryz.results30,go_sem,y0,y1]) rfl ?_;exact⟨rfl,hb⟩
theorem Ru(k:Nat):Vv [32] k=List.replicate k 32:=by
 induction k with
 | zero=>rfl
 | succ k ih=>rw[List.replicate_succ,<-ih];simp[Vv,List.replicate_succ]
def iq(k:Nat)(w:World)(e:Ending)(w':World):Prop:=
 ∃v,e=.returned (.tuple #[.agg #[v,.int .i64 0],.int .i64 0])/\Own 3 w.heap.size w' v (List.replicate k 32)/\Below w.heap.size w w'
theorem Pg(k:Nat)(w:World)(h1:2<=k)(h2:k<=120):
  Calls Tryz.prog 30 #[.int .i64 (k:Int)] w (iq k w):=by
 go_enter Tryz.func30,Tryz.ntmps30
 go_wp2_with fail
 have hI:=QZl (w.alloc (.cells #[.slice none 0 0,.int .i64 0] 39)) 32;rw[QJ]at hI;have hk4:k<=4096:=by omega
 have h14:1<=4096:=by decide
 have hc:=Uk _ 1 1 k [32] _ hI rfl hk4 h14;refine hc.mono ?_;rintro e w2 ⟨v,rfl,hown,hb2⟩;obtain⟨av,nv,cv,rfl⟩:=hown.form;rw[Ru]at hown;rw[QJ,QJ]at hown;have hA:=QD.below ((QD.new w #[.slice none 0 0,.int .i64 0] 39).alloc (.cells #[.int .i64 32] 3)) hb2 (by simp;omega);obtain⟨d0,d1,g0,g1⟩:=hA.two;have hb:=QW (QS w (.cells #[.slice none 0 0,.int .i64 0] 39) (.cells #[.int .i64 32] 3)) (by simp;omega) hb2;go_wp2;have hG:=((hA.set 0 (.slice av nv cv)).set 1 (.int .i64 0));obtain⟨y0,y1,-,-⟩:=QD.two hG;refine QV (v:=.tuple #[.agg #[.slice av nv cv,.int .i64 0],.int .i64 0]) (by simp[results,Tryz.results30,go_sem,y0,y1]) rfl ?_;exact⟨_,rfl,((hown.setCell (by simp;omega) _).setCell (by simp;omega) _).mono (by omega),(hb.setCell (p:=⟨w.heap.size,0,none⟩) (QU _) _).setCell (p:=⟨w.heap.size,1,none⟩) (QU _) _⟩
def VZ(xs:List Int)(p j:Nat):List Int:=xs.take p++(List.replicate (j-p) 32++xs.drop j)
theorem IB(xs:List Int)(p j:Nat)(h1:p<=j)(h2:j<=xs.length):(VZ xs p j).length=xs.length:=by simp[VZ];omega
theorem Oj(xs:List Int)(p j i:Nat)(h1:p<=j)(h2:j<=xs.length):ix (VZ xs p j) i=if i<p then ix xs i else if i<j then 32 else ix xs i:=by
 have hp:(xs.take p).length=p:=by simp;omega
 have hr:(List.replicate (j-p) (32:Int)).length=j-p:=by simp
 by_cases e1:i<p
 ·rw[if_pos e1];unfold VZ;rw[Xj (by omega)];simp[ix,e1]
 ·rw[if_neg e1]
  obtain⟨k,rfl⟩:∃k,i=p+k:=⟨i-p,by omega⟩;unfold VZ;have hpk:p+k=(xs.take p).length+k:=by rw[hp]
  rw[hpk,Y9];by_cases e2:(xs.take p).length+k<j
  ·rw[if_pos e2,Xj (by omega),Xt (by omega)];simp
  ·rw[if_neg e2]
   obtain⟨m,rfl⟩:∃m,k=(List.replicate (j-p) (32:Int)).length+m:=⟨k-(j-p),by rw[hr];omega⟩;rw[Y9,hr,hp];simp only[ix,QN,List.getElem?_drop];rw[show p+(j-p+m)=j+m from by omega]
theorem IC(xs:List Int)(p:Nat):VZ xs p xs.length=xs.take p++List.replicate (xs.length-p) 32:=by simp[VZ]
def Us(l:List Int)(s:List Int×Nat):List Int×Nat:=l.foldl (fun s c=>KS c s) s
theorem J5(l m:List Int)(s:List Int×Nat):Us (l++m) s=Us m (Us l s):=by simp[Us]
theorem bS{c:Int}{X:List Int}{p:Nat}(hc:KZ c=false)(hp:p<X.length):KS c (X,p)=(X.set p c,p+1):=by
 have h:32<=c/\c≠127:=by simpa[KZ]using hc
 unfold KS;rw[if_neg (by omega),if_neg (by omega),if_neg (by omega),if_pos ⟨h.1,h.2,hp⟩]
theorem zk{B X:List Int}{n f:Nat}(hB:B.length=n)(hX:X.length=n)(hb:∀i,i<n->KZ (ix B i)=false):∀m,f+m<=n->∃X',Us ((B.take (f+m)).drop f) (X,f)=(X',f+m)/\X'.length=n/\∀i,ix X' i=if f<=i/\i<f+m then ix B i else ix X i
 | 0,_=>⟨X,by simp[Us],hX,fun i=>by rw[if_neg (by omega)]⟩
 | m+1,h=>by
  obtain⟨X',h1,h2,h3⟩:=zk (f:=f) hB hX hb m (by omega);have e:(B.take (f+(m+1))).drop f=(B.take (f+m)).drop f++[ix B (f+m)]:=by
   rw[show f+(m+1)=(f+m)+1 from rfl,Qo (by omega),List.drop_append_of_le_length (by simp;omega),Xt (by omega)]
  refine⟨X'.set (f+m) (ix B (f+m)),?_,by simp[h2],fun i=>?_⟩
  ·rw[e,J5,h1];exact bS (hb _ (by omega)) (by omega)
  ·by_cases hi:i=f+m
   ·subst hi;rw[L8 (by omega),if_pos (by omega)]
   ·rw[L6 (fun e=>hi e.symm),h3]
    by_cases c:f<=i/\i<f+m
    ·rw[if_pos c,if_pos (by omega)]
    ·rw[if_neg c,if_neg (by omega)]
theorem D8{X:List Int}:∀m p,Us (List.replicate m 8) (X,p)=(X,p-m)
 | 0,p=>rfl
 | m+1,p=>by
  rw[List.replicate_succ];show Us (List.replicate m 8) (KS 8 (X,p))=_;rw[show KS 8 (X,p)=(X,p-1)from rfl,D8 m (p-1),Nat.sub_sub,Nat.add_comm 1 m]
theorem bR{B X:List Int}{n f t:Nat}(hB:B.length=n)(hX:X.length=n)(hb:∀i,i<n->KZ (ix B i)=false)(hf:f<=n)(ht:t<=n):
  ∃X',Us (XV B f t) (X,f)=(X',t)/\X'.length=n/\(∀i,ix X i=ix B i->ix X' i=ix B i)/\∀i,f<=i->i<t->ix X' i=ix B i:=by
 unfold XV;by_cases c:f<=t
 ·rw[if_pos c]
  obtain⟨X',h1,h2,h3⟩:=zk (f:=f) hB hX hb (t-f) (by omega);rw[show f+(t-f)=t from by omega]at h1 h3;exact⟨X',h1,h2,fun i hi=>by rw[h3];split;rfl;exact hi,fun i a b=>by rw[h3,if_pos ⟨a,b⟩]⟩
 ·rw[if_neg c]
  by_cases c2:f-t<=1+t
  ·rw[if_pos c2,D8]
   exact⟨X,by rw[show f-(f-t)=t from by omega],hX,fun i hi=>hi,fun i a b=>by omega⟩
  ·rw[if_neg c2]
   obtain⟨X',h1,h2,h3⟩:=zk (f:=0) hB hX hb t (by omega);rw[Zu,List.drop_zero]at h1;refine⟨X',?_,h2,fun i hi=>by rw[h3];split;rfl;exact hi,fun i a b=>by omega⟩;show Us (B.take t) (KS 13 (X,f))=_;rw[show KS 13 (X,f)=(X,0)from rfl];exact h1
structure Rk (A B:List Int) (n pa:Nat) (s:Nat×List Int) (P:Nat->Prop):Prop where
 le:s.1<=n
 ex:∃X,Us s.2 (A,pa)=(X,s.1)/\X.length=n/\∀i,i<n->(ix A i=ix B i\/P i)->ix X i=ix B i
theorem Rk.nil{A B:List Int}{n pa:Nat}(hA:A.length=n)(hp:pa<=n):Rk A B n pa (pa,[]) (fun _=>False):=
 ⟨hp,A,rfl,hA,fun i _ h=>h.elim id False.elim⟩
theorem Rk.go{A B:List Int}{n pa:Nat}{s:Nat×List Int}{P:Nat->Prop}(h:Rk A B n pa s P)(hB:B.length=n)(hb:∀i,i<n->KZ (ix B i)=false)(k:Nat)(hk:k<=n):Rk A B n pa (sM B k s) (fun i=>P i\/(s.1<=i/\i<k)):=by
 obtain⟨h0,X,h1,h2,h3⟩:=h;obtain⟨X',g1,g2,g3,g4⟩:=bR (t:=k) hB h2 hb h0 hk;refine⟨hk,X',?_,g2,fun i hi hp=>?_⟩
 ·show Us (s.2++XV B s.1 k) (A,pa)=_
  rw[J5,h1];exact g1
 ·rcases hp with hp|hp|hp
  ·exact g3 i (h3 i hi (.inl hp))
  ·exact g3 i (h3 i hi (.inr hp))
  ·exact g4 i hp.1 hp.2
theorem Rk.QJR{A B:List Int}{n pa p:Nat}{l:List Int}{P:Nat->Prop}(h:Rk A B n pa (p,l) P)(hw:∀i,p<=i->i<n->ix B i=32):Rk A B n pa (p,l++[11]) (fun i=>P i\/p<=i):=by
 obtain⟨h0,X,h1,h2,h3⟩:=h;dsimp only at h0 h1;have he:X.take p++List.replicate (X.length-p) 32=VZ X p X.length:=(IC X p).symm;refine⟨h0,VZ X p X.length,?_,by rw[IB _ _ _ (by omega) (QU _)];exact h2,fun i hi hp=>?_⟩
 ·dsimp only
  rw[J5,h1,<-he];rfl
 ·rw[Oj _ _ _ _ (by omega) (QU _)]
  by_cases c:i<p
  ·rw[if_pos c]
   rcases hp with hp|hp|hp
   ·exact h3 i hi (.inl hp)
   ·exact h3 i hi (.inr hp)
   ·omega
  ·rw[if_neg c,if_pos (by omega)]
   exact(hw i (by omega) hi).symm
theorem Rk.fill{A B:List Int}{n pa:Nat}{s:Nat×List Int}{P:Nat->Prop}(h:Rk A B n pa s P)(hB:B.length=n)(hb:∀i,i<n->KZ (ix B i)=false)(x y:Nat)(hxy:x<=y)(hy:y<=n):Rk A B n pa (Ps B s (x,some y)) (fun i=>P i\/(x<=i/\i<y)):=by
 have h1:=(h.go hB hb x (by omega)).go hB hb y hy;exact QvW
theorem Rk.PH{A B:List Int}{n pa:Nat}{s:Nat×List Int}{P:Nat->Prop}(h:Rk A B n pa s P)(hB:B.length=n)(hb:∀i,i<n->KZ (ix B i)=false)(p:Nat)(hp:p<=n)(hw:∀i,p<=i->i<n->ix B i=32):Rk A B n pa (Ps B s (p,none)) (fun i=>P i\/p<=i):=by
 have h1:=(h.go hB hb p hp).QJR hw;exact QvW
theorem Rk.done{A B:List Int}{n pa pb:Nat}{s:Nat×List Int}{P:Nat->Prop}(h:Rk A B n pa s P)(hB:B.length=n)(hb:∀i,i<n->KZ (ix B i)=false)(hp:pb<=n)(hall:∀i,i<n->ix A i=ix B i\/P i):Us (sM B pb s).2 (A,pa)=(B,pb):=by
 obtain⟨X,g1,g2,g3⟩:=(h.go hB hb pb hp).ex;rw[g1,zl (xs:=X) (ys:=B) (by rw[g2,hB]) fun i hi=>g3 i (by omega) (by rcases hall i (by omega)with h|h;exact .inl h;exact .inr (.inl h))];rfl
theorem OG(b:List Int):∀l:List (List Int),Ye b l=b\/Ye b l∈l:=by
 intro l;induction l generalizing b with
 | nil=>exact .inl rfl
 | cons s l ih=>
  show Ye (YA b s) l=b\/_;show Ye (YA b s) l=b\/Ye (YA b s) l∈s::l;rcases ih (YA b s)with h|h
  ·rw[h]
   unfold YA;split
   ·exact .inr (QB.2 (.inl rfl))
   ·exact .inl rfl
  ·exact .inr (List.mem_cons_of_mem _ h)
theorem OH(b:List Int):∀l:List (List Int),(Ye b l).length<=b.length:=by
 intro l;induction l generalizing b with
 | nil=>exact QU _
 | cons s l ih=>
  refine QL (ih (YA b s)) ?_;unfold YA;split<;>omega
theorem xC{lo hi full:Nat}{p:List (Nat×Option Nat)}:∀{m:Nat},p∈KA lo hi full m->∃k,k<m/\p∈UJ lo hi (full+k)
 | 0,h=>by cases h
 | m+1,h=>by
  rcases Zz.1 h with h|h
  ·obtain⟨k,h1,h2⟩:=xC h
   exact⟨k,by omega,h2⟩
  ·exact⟨m,by omega,h⟩
theorem EN{A B:List Int}{n pa pb full x y lo hi fi la:Nat}(H:KY A B n full x y lo hi fi la)(hA:A.length=n)(hB:B.length=n)(hb:∀i,i<n->KZ (ix B i)=false)(bQ:pa<=n)(hpb:pb<=n):
  Us (Kq B pa pb x y full lo hi fi la) (A,pa)=(B,pb):=by
 have h0:=Rk.nil (B:=B) hA bQ;obtain⟨_,hxy,hyn,hlo,hhi,_,hnone⟩:=H.all;have hone:x<y->Us (WC B pa [(x,some y)] pb) (A,pa)=(B,pb):=fun h=>
  (h0.fill hB hb x y hxy hyn).done hB hb hpb fun i hi=>by
   by_cases c1:i<x
   ·exact .inl (hlo i (Qe _) c1)
   ·by_cases c2:i<y
    ·exact .inr (.inr ⟨by omega,c2⟩)
    ·exact .inl (hhi i (by omega) hi)
 unfold Kq;by_cases hx:x<y
 ·rw[if_pos hx]
  by_cases hf:fi<la
  ·rw[if_pos hf]
   rcases OG (WC B pa [(x,some y)] pb) ((KA lo hi full (fi+1-full)).map (fun p=>WC B pa p pb))with h|h
   ·rw[h];exact hone hx
   ·obtain⟨p,hp,he⟩:=List.mem_map.1 h
    rw[<-he];obtain⟨k,hk,hp⟩:=xC hp;have tfx:=H.tail.fx;have txy:=H.tail.xy;have tyt:=H.tail.yt;have hw:∀i,full+k<=i->i<n->ix B i=32:=fun i h1 h2=>H.Ew.blank i (by omega) h2
    have hkn:full+k<=n:=by omega
    have hhn:hi<=n:=QL H.head.yt H.Ew.le;have lT:∀i,i<n->full<=i->i<full+k->ix A i=ix B i:=fun i _ h1 h2=>H.tail.lo i h1 (by omega)
    unfold UJ at hp;by_cases hl:lo<hi
    ·rw[if_pos hl]at hp
     have QXD:∀i,i<n->ix A i=ix B i\/(full+k<=i\/(lo<=i/\i<hi)):=fun i h=>by
      by_cases c1:full+k<=i
      ·exact .inr (.inl c1)
      ·by_cases c2:full<=i
       ·exact .inl (lT i h c2 (by omega))
       ·by_cases c3:i<lo
        ·exact .inl (H.head.lo i (Qe _) c3)
        ·by_cases c4:i<hi
         ·exact .inr (.inr ⟨by omega,c4⟩)
         ·exact .inl (H.head.hi i (by omega) (by omega))
     simp only[QB,List.mem_nil_iff,or_false]at hp;rcases hp with rfl|rfl
     ·exact((h0.fill hB hb lo hi (by omega) hhn).PH hB hb (full+k) hkn hw).done hB hb hpb fun i h=>by
       rcases QXD i h with h|h|h
       ·exact .inl h
       ·exact .inr (.inr h)
       ·exact .inr (.inl (.inr h))
     ·exact((h0.PH hB hb (full+k) hkn hw).fill hB hb lo hi (by omega) hhn).done hB hb hpb fun i h=>by
       rcases QXD i h with h|h|h
       ·exact .inl h
       ·exact .inr (.inl (.inr h))
       ·exact .inr (.inr h)
    ·rw[if_neg hl]at hp
     simp only[QB,List.mem_nil_iff,or_false]at hp;subst hp;have hlo:lo=full:=H.head.none (by have:=H.head.xy;omega);exact(h0.PH hB hb (full+k) hkn hw).done hB hb hpb fun i h=>by
      by_cases c1:full+k<=i
      ·exact .inr (.inr c1)
      ·by_cases c2:full<=i
       ·exact .inl (lT i h c2 (by omega))
       ·exact .inl (H.head.lo i (Qe _) (by omega))
  ·rw[if_neg hf];exact hone hx
 ·rw[if_neg hx]
  have X0:x=n:=hnone (by omega);exact h0.done hB hb hpb fun i hi=>.inl (hlo i (Qe _) (by omega))
theorem V7{B:List Int}{n f t:Nat}(hB:B.length=n)(hf:f<=n)(ht:t<=n):(XV B f t).length<=n+1:=by
 unfold XV;split
 ·simp;omega
 ·split
  ·simp;omega
  ·simp;omega
theorem Nv{A B:List Int}{n pa pb full x y lo hi fi la:Nat}(H:KY A B n full x y lo hi fi la)(hB:B.length=n)(bQ:pa<=n)(hpb:pb<=n):(Kq B pa pb x y full lo hi fi la).length<=3*n+3:=by
 have hxy:=H.all.xy;have hyn:=H.all.yt;have h1:=V7 (f:=pa) (t:=pb) hB bQ hpb;have h2:=V7 (f:=pa) (t:=x) hB bQ (by omega);have h3:=V7 (f:=x) (t:=y) hB (by omega) hyn;have h4:=V7 (f:=y) (t:=pb) hB hyn hpb;obtain⟨e1,e2,e3⟩:=AV B pa pb x y full lo hi fi la;rcases Qi x y with hx|hx
 ·rcases Qi fi la with hf|hf
  ·rw[e3 hx hf]
   refine QL (OH _ _) ?_;simp only[QE,List.length_nil];omega
  ·rw[e2 hx hf]
   simp only[QE,List.length_nil];omega
 ·rw[e1 hx]
  simp only[QE,List.length_nil];omega
theorem KY.some(A B:List Int)(n:Nat)(h2:2<=n)(OZ:n<=120):∃r:Nat×Nat×Nat×Nat×Nat×Nat×Nat,KY A B n r.1 r.2.1 r.2.2.1 r.2.2.2.1 r.2.2.2.2.1 r.2.2.2.2.2.1 r.2.2.2.2.2.2:=by
 obtain⟨full,hfull⟩:=MI.exists B n;obtain⟨x,y,hxy⟩:=DK.exists A B 0 n (Qe _);obtain⟨lo,hi,hlh⟩:=DK.exists A B 0 full (Qe _);obtain⟨fi,la,hfl⟩:=DK.exists A B full n hfull.le;exact⟨(full,x,y,lo,hi,fi,la),h2,OZ,hfull,hxy,hlh,hfl⟩
theorem LH(A B:List Int)(pa pb n:Nat)(hA:A.length=n)(h2:2<=n)(OZ:n<=120):
  ∃full x y lo hi fi la,KY A B n full x y lo hi fi la/\EU A pa B pb=Kq B pa pb x y full lo hi fi la:=by
 subst hA;have h:=Classical.epsilon_spec (KY.some A B A.length h2 OZ);exact⟨_,_,_,_,_,_,_,h,rfl⟩
theorem UX{xs:List Int}{p:Int}(h:JZ xs p=0):2<=xs.length/\xs.length<=120/\0<=p/\p<=xs.length/\∀i,i<xs.length->KZ (ix xs i)=false:=by
 unfold JZ at h;split at h
 ·exact absurd h (by decide)
 ·rename_i h1
  split at h
  ·exact absurd h (by decide)
  ·rename_i h2
   refine⟨by omega,by omega,by omega,by omega,fun i hi=>?_⟩;cases hb:KZ (ix xs i)
   ·rfl
   ·rw[Xt hi]at hb
    exact absurd (List.any_eq_true.2 ⟨_,XF hi,hb⟩) (by simpa using h2)
theorem jD{K:Nat}{S:SS}(h:Qt K S):Us (EU S.row S.rat.toNat S.show.row S.show.rat.toNat) (S.row,S.rat.toNat)=(S.show.row,S.show.rat.toNat)/\(EU S.row S.rat.toNat S.show.row S.show.rat.toNat).length<=363:=by
 have h1:=UX h.re;have h2:=UX h.show.re;have hw:=h.rw_;have hl:S.show.row.length=S.row.length:=by
  show(Je S.text (Zj S.pos S.off S.width) S.width).length=_
  rw[Yy];omega
 obtain⟨full,x,y,lo,hi,fi,la,H,e⟩:=LH S.row S.show.row S.rat.toNat S.show.rat.toNat S.row.length rfl h1.1 h1.2.1;rw[e];refine⟨EN H rfl hl (fun i hi=>h2.2.2.2.2 i (by omega)) (by omega) (by omega),?_⟩;have:=Nv H hl (pa:=S.rat.toNat) (pb:=S.show.rat.toNat) (by omega) (by omega);omega
theorem Md(n at' off width:Int)(w:World):
  Calls Tryz.prog 66 #[.int .i64 n,.int .i64 at',.int .i64 off,.int .i64 width] w fun e w'=>e=.returned (.int .i64 (if(JB n at' off width).2=0/\(JB n at' off width).1≠off then 1 else(JB n at' off width).2))/\w=w':=by
 generalize hv:JB n at' off width=v;have HV:=QQ hv;clear hv;go_enter Tryz.func66,Tryz.ntmps66
 go_wp2_with fail
 refine(VI n at' off width w).mono ?_;rintro e w' ⟨rfl,rfl⟩;rw[HV.out];go_wp2
 all_goals(go_ret;refine⟨ZQ ?_,rfl⟩;(try simp_all);done)
theorem GG{n at' off width:Int}(h0:n<=200)(h1:0<=at')(h2:at'<=n)(h3:0<=off)(h4:off<=200)(h5:2<=width)(h6:width<=120):JB n at' off width=(Zj at' off width,0):=by
 unfold JB Zj;rw[if_neg (by omega)]
 (repeat' split)<;>rfl
theorem A8(n at' off width:Int)(w:World)(h0:n<=200)(h1:0<=at')(h2:at'<=n)(h3:0<=off)(h4:off<=200)(h5:2<=width)(h6:width<=120)(hs:Zj at' off width=off):
  Calls Tryz.prog 66 #[.int .i64 n,.int .i64 at',.int .i64 off,.int .i64 width] w fun e w'=>e=.returned (.int .i64 0)/\w=w':=by
 refine(Md n at' off width w).mono ?_;rintro e w' ⟨rfl,rfl⟩;rw[GG h0 h1 h2 h3 h4 h5 h6];exact⟨ZQ (by simp[hs]),rfl⟩
def iU(l:List Int)(at' off width err:Int)(w:World)(e:Ending)(w':World):Prop:=
 ∃v,e=.returned (.tuple #[.agg #[v,.int .i64 (at'-off)],.int .i64 err])/\Own 3 w.heap.size w' v (Je l off width)/\Below w.heap.size w w'
theorem Dm(a:Option Addr)(n c:Nat)(l:List Int)(at' off width:Int)(w:World)(hl:Ints w a l)(hn:l.length=n)(hn2:n<=200)(h1:0<=at')(h2:at'<=n)(hs:Zj at' off width=off)(h3:0<=off)(h4:off<=200)(h5:2<=width)(h6:width<=120):
  Calls Tryz.prog 32 #[.slice a n c,.int .i64 at',.int .i64 off,.int .i64 width] w (iU l at' off width 0 w):=by
 have HN:=QQ hn;clear hn;obtain⟨o,rfl⟩:=Qg h3;obtain⟨d,rfl⟩:=Qg (show 0<=width by omega);have HS:=QQ hs;clear hs;go_enter Tryz.func32,Tryz.ntmps32
 go_wp2_with fail
 refine(A8 _ _ _ _ _ (by omega) (by omega) (by omega) (by omega) (by omega) (by omega) (by omega) HS.out).mono ?_;rintro e w' ⟨rfl,rfl⟩;go_wp2
 go_loopw [33] (fun i wr=>∃k:Nat,i=.int .i64 (k:Int)/\k<=d/\∃v,QD wr w.heap.size #[.slice none 0 0,.int .i64 0] 39/\QD wr (w.heap.size+1) #[v,.int .i64 (at'-(o:Int))] 39/\
   Own 3 (w.heap.size+2) wr v ((Je l o d).take k)/\Below w.heap.size w wr/\w.heap.size+2<=wr.heap.size) (fun i _=>d-(intOf i).toNat)
 case atStart=>
  refine⟨0,rfl,Qe _,_,(QD.new _ _ _).alloc _,by simpa using QD.new (w.alloc _) _ _,Own.nil _ _ _,(((Qx _ _).alloc (QU _) _).alloc (by simp) _),by simp⟩
 case round=>
  obtain⟨k,rfl,hk,v,hB0,hB1,hown,hbel,hsz⟩:=hrel;have c00:=hB0.cell 0;have tq:=hB0.cell 1;have c10:=hB1.cell 0;have c11:=hB1.cell 1;have f00:=hB0.free 0;have f01:=hB0.free 1;have f10:=hB1.free 0;have f11:=hB1.free 1;simp only[List.getElem?_toArray,List.getElem?_cons_zero,List.getElem?_cons_succ]at c00 tq c10 c11;have hlen:((Je l o d).take k).length<17592186044416:=by simp[Yy];omega
  by_cases hlt:k<d
  ·by_cases hin:o+k<n
   ·obtain⟨b1,o1,rfl,hc⟩:=hl.at (k:=o+k) (by rw[HN.out];exact hin)
    have e1:wr.cell? ⟨b1,o1+(o+k),none⟩=some (.int .i64 (ix l (o+k))):=by
     have:=hc (o+k) (by rw[HN.out];exact hin);exact QAc
    clear hc hl;go_wp2_with (first|(at_builtin;refine app1 rfl _ _ rfl (w.heap.size+2) _ _ _ _ rfl rfl (hown.alloc _) (Xi _ _ _) hlen (ZV hsz _) ?_;intro v1 w1 hown1 hgrow1;obtain⟨a1,n1,m1,rfl⟩:=hown1.form;have hC0:=(hB0.alloc _).grown hgrow1 (hown.ne (Nat.lt_succ_of_lt (Qq _)));have Yw:=(hB1.alloc _).grown hgrow1 (hown.ne (Qq _));obtain⟨d10,d11,g10,g11⟩:=Yw.two)|(go_at_call 67;refine(Me _ _).mono ?_;rintro e w' ⟨rfl,rfl⟩))
    go_roundw
    case rel=>exact⟨k+1,by go_num,by omega,_,hC0.other (by simp) _,Yw.set 0 _,by rw[vN (by simpa using hlt)];exact(by rw[if_pos (by rw[HN.out];simpa using hin)];exact hown1.setCell (by simp) _),((hbel.alloc (by omega) _).grown hgrow1 (by simp;omega) (fun k hk=>by have:=hown.row k hk;omega)).setCell (by simp) _,by have:=hgrow1.size;simp at this ⊢;omega⟩
    case measure=>simp[intOf];omega
   ·have hge:n<=o+k:=by omega
    clear hin;go_wp2_with (first|(at_builtin;refine app1 rfl _ _ rfl (w.heap.size+2) _ _ _ _ rfl rfl (hown.alloc _) (Xi _ _ _) hlen (ZV hsz _) ?_;intro v1 w1 hown1 hgrow1;obtain⟨a1,n1,m1,rfl⟩:=hown1.form;have hC0:=(hB0.alloc _).grown hgrow1 (hown.ne (Nat.lt_succ_of_lt (Qq _)));have Yw:=(hB1.alloc _).grown hgrow1 (hown.ne (Qq _));obtain⟨d10,d11,g10,g11⟩:=Yw.two))
    go_roundw
    case rel=>exact⟨k+1,by go_num,by omega,_,hC0.other (by simp) _,Yw.set 0 _,by rw[vN (by simpa using hlt)];exact(by rw[if_neg (by rw[HN.out];simpa using hge)];exact hown1.setCell (by simp) _),((hbel.alloc (by omega) _).grown hgrow1 (by simp;omega) (fun k hk=>by have:=hown.row k hk;omega)).setCell (by simp) _,by have:=hgrow1.size;simp at this ⊢;omega⟩
    case measure=>simp[intOf];omega
  ·obtain rfl:k=d:=by omega
   obtain⟨a1,n1,m1,rfl⟩:=hown.form;go_wp2;have D:=(hB0.set 0 (.slice a1 n1 m1)).set 1 (.int .i64 (at'-(o:Int)));obtain⟨q0,q1,-,-⟩:=QD.two D;rw[Q5 (by simp[Yy])]at hown;refine QV (v:=.tuple #[.agg #[.slice a1 n1 m1,.int .i64 (at'-(o:Int))],.int .i64 0]) (by simp[results,Tryz.results32,go_sem,q0,q1]) rfl ?_;exact⟨_,rfl,((hown.setCell (by simp) _).setCell (by simp) _).mono (by omega),(hbel.setCell (by simp) _).setCell (by simp) _⟩
theorem Ul.len{F:Nat->Prop}{w:World}{p:Option Addr}{l:List Int}(h:Ul F w (.pointer p) l):Calls Tryz.prog 86 #[.agg #[.pointer p]] w fun e w'=>e=.returned (.int .i64 (l.length:Int))/\Below w.heap.size w w':=by
 obtain⟨T,h1,rfl⟩:=h;exact jN p T w h1.tree
theorem aZ{ops:Array Oper}{rest:List Oper}{o:Oper}{a:Act}{Q:Exit->Act->World->Prop}{w:World}(hgd:o.guard=none)(s x:Operand)
  (ho:o.op=.call {callee:=.builtin .append,args:=#[s,x],argTypes:=#[26,26]})
  (base:Nat) (v:Value) (xs ys:List Int) (ad:Option Addr) (m c:Nat) (hs:a.eval s=v) (hx:a.eval x=.slice ad m c)
  (hown:Own 3 base w v xs) (hy:Ints w ad ys) (hm:ys.length=m) (h0:ad=none->m=0) (hl:xs.length+m<=17592186044416) (hbase:base<=w.heap.size)
  (h:∀v' w',Own 3 base w' v' (xs++ys)->w.grownBy w' v.ownBlock->(v'.ownBlock=v.ownBlock\/v'.ownBlock=some w.heap.size)->wpList Tryz.prog ops Q rest (a.put o.dst v') w'):
  wpList Tryz.prog ops Q (o::rest) a w:=by
 rcases ad with _|ad
 ·obtain rfl:m=0:=h0 rfl
  obtain rfl:ys=[]:=QH hm;refine Lib.wpList_append_run w hgd s x _ _ ho v (.slice none 0 c) hs hx v w (U1 w _ v xs base c hown (by omega)) ?_;exact h v w (by simpa using hown) ⟨rfl,rfl,rfl,QU _,fun _ _ _=>rfl⟩ (.inl rfl)
 ·exact tO hgd s x ho base v xs ys ad m c hs hx hown hy hm hl hbase h
theorem BI(p off width:Int)(h:2<=width):Zj p (Zj p off width) width=Zj p off width:=by
 unfold Zj;by_cases h1:p<off
 ·rw[if_pos h1,if_neg (by omega),if_neg (by omega)]
 ·by_cases h2:off+width<=p
  ·rw[if_neg h1,if_pos h2,if_neg (by omega),if_neg (by omega)]
  ·rw[if_neg h1,if_neg h2,if_neg h1,if_neg h2]
structure RwP (S1:SS) (w wx:World) (R:Nat) (a:Option Addr) (n c:Nat):Prop where
 lo:w.heap.size<=R
 c0:wx.cell? ⟨R,0,none⟩=some (.slice a n c)
 c1:wx.cell? ⟨R,1,none⟩=some (.int .i64 (S1.pos-S1.off))
 sl:XH (fun k=>w.heap.size<=k/\k≠R) wx (.slice a n c) (Je S1.text S1.off S1.width)
 XW:Below w.heap.size w wx
theorem QJd{S1:SS}{w w6:World}{L n c Wz:Nat}{a:Option Addr}(hL:QD w6 L #[.slice none 0 0,.int .i64 0] 39)(hlo:w.heap.size<=L)(hlt:L<Wz)(o:Own 3 Wz w6 (.slice a n c) (Je S1.text S1.off S1.width))(hB:Below w.heap.size w w6):
  RwP S1 w ((w6.setCell ⟨L,0,none⟩ (.slice a n c)).setCell ⟨L,1,none⟩ (.int .i64 (S1.pos-S1.off))) L a n c:=by
 obtain⟨k0,k1,-,-⟩:=((hL.set 0 (.slice a n c)).set 1 (.int .i64 (S1.pos-S1.off))).two;have hs:XH (fun k=>w.heap.size<=k/\k≠L) w6 (.slice a n c) (Je S1.text S1.off S1.width):=o.xB.imp fun k hk=>by omega
 have hnF:¬(w.heap.size<=L/\L≠L):=fun e=>e.2 rfl
 exact⟨hlo,k0,k1,(hs.J6 (i:=0) (u:=.slice a n c) hnF).J6 (i:=1) (u:=.int .i64 (S1.pos-S1.off)) hnF,(hB.setCell (p:=⟨L,0,none⟩) hlo _).setCell (p:=⟨L,1,none⟩) hlo _⟩
theorem QJe{S1:SS}{w w6:World}{n c Wz:Nat}{a:Option Addr}(hz:w.heap.size<=Wz)(o:Own 3 Wz w6 (.slice a n c) (Je S1.text S1.off S1.width))(hB:Below w.heap.size w w6):
  RwP S1 w (w6.alloc (.cells #[.slice a n c,.int .i64 (S1.pos-S1.off)] 39)) w6.heap.size a n c:=by
 obtain⟨k0,k1,-,-⟩:=(QD.new w6 #[.slice a n c,.int .i64 (S1.pos-S1.off)] 39).two;exact⟨hB.size,k0,k1,(o.xB.lt.imp fun k hk=>by omega).below (QC _ _),QR.alloc hB⟩
def SqS(B:Nat)(p:Option Addr)(S1:SS)(w w':World):Prop:=w'.cell? ⟨B,0,none⟩=some (.pointer p)/\w'.cell? ⟨B,1,none⟩=some (.int .i64 S1.pos)/\w'.cell? ⟨B,51,none⟩=some (.int .i64 S1.off)/\w'.cell? ⟨B,52,none⟩=some (.int .i64 S1.width)/\Below w.heap.size w w'
theorem sqK{B:Nat}{p:Option Addr}{S1:SS}{w wa wb:World}(hB:B<w.heap.size)(h:SqS B p S1 w wa)(hb:Below w.heap.size wa wb):SqS B p S1 w wb:=by
 obtain⟨h1,h2,h3,h4,h5⟩:=h;exact⟨by rw[hb.cell hB];exact h1,by rw[hb.cell hB];exact h2,by rw[hb.cell hB];exact h3,by rw[hb.cell hB];exact h4,h5.trans hb⟩
theorem sqW{B:Nat}{p:Option Addr}{S1:SS}{w wb:World}(hB:B<w.heap.size)(h:SqS B p S1 w w)(hb:Below w.heap.size w wb):SqS B p S1 w wb:=sqK hB h hb
theorem bI(F G:Nat->Prop)(B K:Nat)(S:SS)(w:World)(h:Zw F G w B S)(hI:Qt K S)(hv:S.XK.length<=4398046511103):
  Calls Tryz.prog 49 #[.pointer (some ⟨B,0,none⟩)] w (VP F G w B S.show XU):=by
 obtain⟨f,hf⟩:=h;have hA:=At.begin hf;obtain⟨p,hpt⟩:=hf.d.text.ptr;have c0:=hf.cell 0;have c1:=hf.cell 1;have c51:=hf.cell 51;have c52:=hf.cell 52;have z51:=hf.free 51;rw[hpt]at c0;rw[hf.d.pos]at c1;rw[hf.d.off]at c51;rw[hf.d.width]at c52;have htx:=hf.d.text;rw[hpt]at htx;have yV:=QQ (fun(w':World) (hb:Below w.heap.size w w')=>Ul.len (htx.keep (G:=F) (ZZ.below F hb) (fun _ h=>h)));have HVS:=QQ (show JB S.text.length S.pos S.off S.width=(Zj S.pos S.off S.width,0) by
  have:=hI.tl;have:=hI.p0;have:=hI.p1;have:=hI.o0;have:=hI.wd;unfold JB Zj;rw[if_neg (by omega)];split
  ·rfl
  ·split<;>rfl)
 have hBl:=hf.yH;have HA:=QQ hA;have HI:=QQ hI;have HV:=QQ hv;clear hf hA hpt htx hI hv;go_enter Tryz.func49,Tryz.ntmps49
 go_upto_region 0 with fail
 go_cut [29] (fun v wx=>v=.int .i64 0/\∃F' f',At F G w F' wx B f' {S with off:=Zj S.pos S.off S.width})
 case first=>as_aux_lemma=>
  refine wp_region_held_drew (S:=(fun w'=>w'.cell? ⟨B,0,none⟩=some (.pointer p)/\w'.cell? ⟨B,1,none⟩=some (.int .i64 S.pos)/\w'.cell? ⟨B,52,none⟩=some (.int .i64 S.width))) (by kernel_rfl) ⟨c0,c1,c52⟩ ?_;intro hSd;refine QF 0 ⟨some 7,.move (.tmp 0),_,_,_,_⟩ ((.pointer (some ⟨B,0,none⟩))) ?_;simp only[Act.put,QZ,QX,QY];refine QF 1 ⟨some 8,.move (.tmp 0),_,_,_,_⟩ ((.pointer (some ⟨B,0,none⟩))) ?_;simp only[Act.put,QZ,QX,QY];refine QF 2 ⟨some 9,.nilCheck (.tmp 8),_,_,_,_⟩ ((.pointer (some ⟨B,0,none⟩))) ?_;simp only[Act.put,QZ,QX,QY];refine QF 3 ⟨some 10,.fieldAddr 112 (.tmp 9) 0,_,_,_,_⟩ ((.pointer (some ⟨B,0,none⟩))) ?_;simp only[Act.put,QZ,QX,QY];refine QF 4 ⟨some 11,.fieldAddr 106 (.tmp 10) 0,_,_,_,_⟩ ((.pointer (some ⟨B,0,none⟩))) ?_;simp only[Act.put,QZ,QX,QY];refine QF 5 ⟨some 12,.load 104 (.tmp 11),_,_,_,_⟩ ((.agg #[.pointer p])) ?_;simp only[Act.put,QZ,QX,QY];refine QF 7 ⟨some 14,.move (.tmp 0),_,_,_,_⟩ ((.pointer (some ⟨B,0,none⟩))) ?_;simp only[Act.put,QZ,QX,QY];refine QF 8 ⟨some 15,.nilCheck (.tmp 14),_,_,_,_⟩ ((.pointer (some ⟨B,0,none⟩))) ?_;simp only[Act.put,QZ,QX,QY];refine QF 9 ⟨some 16,.fieldAddr 112 (.tmp 15) 0,_,_,_,_⟩ ((.pointer (some ⟨B,0,none⟩))) ?_;simp only[Act.put,QZ,QX,QY];refine QF 10 ⟨some 17,.fieldAddr 106 (.tmp 16) 1,_,_,_,_⟩ ((.pointer (some ⟨B,1,none⟩))) ?_;simp only[Act.put,QZ,QX,QY];refine QF 11 ⟨some 18,.load 3 (.tmp 17),_,_,_,_⟩ ((.int .i64 S.pos)) ?_;simp only[Act.put,QZ,QX,QY];refine QF 12 ⟨some 19,.move (.tmp 0),_,_,_,_⟩ ((.pointer (some ⟨B,0,none⟩))) ?_;simp only[Act.put,QZ,QX,QY];refine QF 13 ⟨some 20,.nilCheck (.tmp 19),_,_,_,_⟩ ((.pointer (some ⟨B,0,none⟩))) ?_;simp only[Act.put,QZ,QX,QY];refine QF 14 ⟨some 21,.fieldAddr 112 (.tmp 20) 13,_,_,_,_⟩ ((.pointer (some ⟨B,51,none⟩))) ?_;simp only[Act.put,QZ,QX,QY];refine QF 16 ⟨some 23,.move (.tmp 0),_,_,_,_⟩ ((.pointer (some ⟨B,0,none⟩))) ?_;simp only[Act.put,QZ,QX,QY];refine QF 17 ⟨some 24,.nilCheck (.tmp 23),_,_,_,_⟩ ((.pointer (some ⟨B,0,none⟩))) ?_;simp only[Act.put,QZ,QX,QY];refine QF 18 ⟨some 25,.fieldAddr 112 (.tmp 24) 14,_,_,_,_⟩ ((.pointer (some ⟨B,52,none⟩))) ?_;simp only[Act.put,QZ,QX,QY];refine QF 19 ⟨some 26,.load 3 (.tmp 25),_,_,_,_⟩ ((.int .i64 S.width)) ?_;simp only[Act.put,QZ,QX,QY];refine QO (rs:=[6,15]) (by kernel_rfl) (by simp) ?_;refine QA (o:=⟨some 13,_,_,_,_,_⟩) rfl (fun K hK=>?_) (QA (o:=⟨some 22,_,_,_,_,_⟩) rfl (fun K hK=>?_) QI)
  ·go_simp
   refine(yV.out _ (QR.drew (Qx _ w))).mono ?_;rintro e w5 ⟨rfl,hb5⟩;have hb5:Below w.heap.size w w5:=QR.call hb5 (QR.drew (Qx _ _));have x0:=Qk hb5 _ _ c0;have x1:=Qk hb5 _ _ c1;have x51:=Qk hb5 _ _ c51;have x52:=Qk hb5 _ _ c52;have hA2:=HA.out.Xw hb5;have y51:=hA2.hf.free 51;have x0s:(w5.setCell ⟨B,51,none⟩ (.int .i64 (Zj S.pos S.off S.width))).cell? ⟨B,0,none⟩=some (.pointer p):=by rw[ZO _ _ _ _ (by simp)];exact x0
   have x1s:(w5.setCell ⟨B,51,none⟩ (.int .i64 (Zj S.pos S.off S.width))).cell? ⟨B,1,none⟩=some (.int .i64 S.pos):=by rw[ZO _ _ _ _ (by simp)];exact x1
   have nk:(w5.setCell ⟨B,51,none⟩ (.int .i64 (Zj S.pos S.off S.width))).cell? ⟨B,52,none⟩=some (.int .i64 S.width):=by rw[ZO _ _ _ _ (by simp)];exact x52
   dsimp only;refine hK.out _ _ ⟨x0,x1,x52⟩ (fun hHeld=>?_);clear hK K;refine QO (rs:=[15]) (by kernel_rfl) (by simp) ?_;refine QA (o:=⟨some 22,_,_,_,_,_⟩) rfl (fun K hK=>?_) QI;go_simp;refine hK.out _ _ (by assumption) (fun hHeld=>?_);exact Qkl
  ·go_simp
   refine hK.out _ _ (by assumption) (fun hHeld=>?_);clear hK K;refine QO (rs:=[6]) (by kernel_rfl) (by simp) ?_;refine QA (o:=⟨some 13,_,_,_,_,_⟩) rfl (fun K hK=>?_) QI;go_simp;refine(yV.out _ (QR.drew (Qx _ w))).mono ?_;rintro e w5 ⟨rfl,hb5⟩;have hb5:Below w.heap.size w w5:=QR.call hb5 (QR.drew (Qx _ _));have x0:=Qk hb5 _ _ c0;have x1:=Qk hb5 _ _ c1;have x51:=Qk hb5 _ _ c51;have x52:=Qk hb5 _ _ c52;have hA2:=HA.out.Xw hb5;have y51:=hA2.hf.free 51;have x0s:(w5.setCell ⟨B,51,none⟩ (.int .i64 (Zj S.pos S.off S.width))).cell? ⟨B,0,none⟩=some (.pointer p):=by rw[ZO _ _ _ _ (by simp)];exact x0
   have x1s:(w5.setCell ⟨B,51,none⟩ (.int .i64 (Zj S.pos S.off S.width))).cell? ⟨B,1,none⟩=some (.int .i64 S.pos):=by rw[ZO _ _ _ _ (by simp)];exact x1
   have nk:(w5.setCell ⟨B,51,none⟩ (.int .i64 (Zj S.pos S.off S.width))).cell? ⟨B,52,none⟩=some (.int .i64 S.width):=by rw[ZO _ _ _ _ (by simp)];exact x52
   dsimp only;refine hK.out _ _ ⟨x0,x1,x52⟩ (fun hHeld=>?_);exact Qkl
 case rest=>
  obtain⟨rfl,F2,f2,hA2⟩:=hcut;clear c0 c1 c51 c52 z51 yV HVS;obtain⟨S1,hS1⟩:∃S1:SS,S1={S with off:=Zj S.pos S.off S.width}:=⟨_,rfl⟩;rw[<-hS1]at hA2;obtain⟨w2,hw2⟩:∃w2,w2=wc:=⟨_,rfl⟩;subst hw2;have hsh:S.show={S1 with XK:=S1.XK++EU S1.row S1.rat.toNat (Je S1.text S1.off S1.width) (S1.pos-S1.off).toNat,row:=Je S1.text S1.off S1.width,rat:=S1.pos-S1.off}:=by rw[hS1];rfl
  obtain⟨q,hqt⟩:=hA2.hf.d.text.ptr;have b0:=hA2.hf.cell 0;have b1:=hA2.hf.cell 1;have b51:=hA2.hf.cell 51;have b52:=hA2.hf.cell 52;have htx:=hA2.hf.d.text;rw[hqt]at b0 htx;rw[hA2.hf.d.pos]at b1;rw[hA2.hf.d.off]at b51;rw[hA2.hf.d.width]at b52;have hBw:=hA2.hf.yH;have htl:S1.text.length<=200:=by rw[hS1];exact HI.out.tl
  have mq:=QQ (fun(w':World) (hb:Below w2.heap.size w2 w')=>Ul.list (htx.keep (G:=F2) (ZZ.below F2 hb) (fun _ h=>h)) (show S1.text.length<=10000 by omega));have hp0:0<=S1.pos:=by rw[hS1];exact HI.out.p0
  have hp1:S1.pos<=S1.text.length:=by rw[hS1];exact HI.out.p1
  have hsc:Zj S1.pos S1.off S1.width=S1.off:=by rw[hS1];exact BI _ _ _ HI.out.wd.1
  have hoo:=vw (p:=S.pos) (off:=S.off) (width:=S.width) ⟨HI.out.p0,by have:=HI.out.p1;have:=HI.out.tl;omega⟩ HI.out.o0 HI.out.wd.1;have ho0:0<=S1.off:=by rw[hS1];exact hoo.1
  have ho1:S1.off<=200:=by rw[hS1];exact hoo.2.1
  have hd0:0<=S1.pos-S1.off:=by rw[hS1];exact hoo.2.2.1
  have hd1:S1.pos-S1.off<S1.width:=by rw[hS1];exact hoo.2.2.2
  have hw0:2<=S1.width:=by rw[hS1];exact HI.out.wd.1
  have hw1:S1.width<=120:=by rw[hS1];exact HI.out.wd.2
  have hVR:=QQ (fun(a:Option Addr) (n c:Nat) (W:World) (hl:Ints W a S1.text) (hn:S1.text.length=n)=>Dm a n c S1.text S1.pos S1.off S1.width W hl hn (by omega) hp0 (by omega) hsc ho0 ho1 hw0 hw1);have HS0:=QQ (show SqS B q S1 w2 w2 from⟨b0,b1,b51,b52,Qx _ _⟩);have HA2:=QQ hA2;have HSH:=QQ hsh;have DR:=QQ hS1;clear hqt htx hA2 hsh htl hsc hoo hS1;go_upto_region 1 with fail
  go_cut [2,3] (fun v2 v3 wx=>∃R a n c,v2=.pointer (some ⟨R,0,none⟩)/\v3=.int .i64 0/\RwP S1 w2 wx R a n c)
  case first=>as_aux_lemma=>
   go_region_held3 (fun w'=>w'.cell? ⟨B,0,none⟩=some (.pointer q)/\w'.cell? ⟨B,1,none⟩=some (.int .i64 S1.pos)/\w'.cell? ⟨B,51,none⟩=some (.int .i64 S1.off)/\w'.cell? ⟨B,52,none⟩=some (.int .i64 S1.width)/\Below w2.heap.size w2 w') (first|(with_reducible assumption)|(refine sqW hBw HS0.out ?_;repeat' (first|(with_reducible exact Uw)|(with_reducible exact Yu)|(with_reducible exact Qx _ _)|(with_reducible refine QR.alloc ?_)|(with_reducible refine QR.drew ?_)|(with_reducible refine QR.set Ht ?_))))
    (first|(go_at_call 79;refine(mq.out _ ?_).mono ?_;(·repeat' (first|(with_reducible exact Qx _ _)|(with_reducible refine QR.alloc ?_)|(with_reducible refine QR.drew ?_)));rintro e w5 ⟨v5,rfl,o5,hb5⟩;obtain⟨a5,n5,k5,rfl⟩:=o5.form;have Yu:Below w2.heap.size w2 w5:=(by refine QR.call hb5 ?_;repeat' (first|(with_reducible exact Qx _ _)|(with_reducible refine QR.alloc ?_)|(with_reducible refine QR.drew ?_))))|(go_at_call 32;refine(hVR.out a5 n5 k5 _ (by first|(with_reducible exact o5.get.2.1)|(with_reducible exact Ints.below o5.get.2.1 (QC _ _))) o5.get.1).mono ?_;rintro e w6 ⟨v6,rfl,o6,hb6⟩;obtain⟨a6,n6,k6,rfl⟩:=o6.form;have Uw:Below w2.heap.size w2 w6:=(by refine QR.call hb6 ?_;repeat' (first|(with_reducible exact Yu)|(with_reducible refine QR.alloc ?_)|(with_reducible refine QR.drew ?_)));have hs5:=Yu.size;(first|(refine qm (P:=QD w6 (w2.heap.size) #[.slice none 0 0,.int .i64 0] 39) ?_ ?_;(·repeat' (first|((with_reducible refine X4 ?_);(first|rfl|(simp;done)))|(with_reducible refine QD.Xu hb6 ?_)|(with_reducible refine QD.Xu hb5 ?_)|(with_reducible refine QD.YT ?_)|(with_reducible refine QD.XD ?_)));intro hL6;have Ht:=QU w2.heap.size;obtain⟨h60,h61,k60,k61⟩:=hL6.two)|(refine qm (P:=QD w6 (w5.heap.size) #[.slice none 0 0,.int .i64 0] 39) ?_ ?_;(·repeat' (first|((with_reducible refine X4 ?_);(first|rfl|(simp;done)))|(with_reducible refine QD.Xu hb6 ?_)|(with_reducible refine QD.Xu hb5 ?_)|(with_reducible refine QD.YT ?_)|(with_reducible refine QD.XD ?_)));intro hL6;have Ht:=hs5;obtain⟨h60,h61,k60,k61⟩:=hL6.two)|skip)))
   all_goals
    go_wp2;go_meet
    first
     | exact⟨_,_,_,_,rfl,rfl,QJd hL6 Ht (by have:=hb5.size;simp at this ⊢;try omega) o6 Uw⟩
     | exact⟨_,_,_,_,rfl,rfl,QJe (by have:=hs5;simp;try omega) o6 Uw⟩
  case rest=>
   obtain⟨R,a,n,c,rfl,rfl,hR⟩:=hcut;obtain⟨w3,hw3⟩:∃w3,w3=wc:=⟨_,rfl⟩;subst hw3;clear b0 b1 b51 b52;have hA3:=HA2.out.below hR.XW;have hFR:Fx F2 w2 w3 R:=.inr ⟨hR.lo,Zv hR.c0⟩;have rH:R≠B:=fun e=>hA3.hf.m.nB (e▸hFR)
   obtain⟨ra,rn,rc,hrw⟩:=hA3.hf.d.row.form;have hrow:=hA3.hf.d.row;have c53:=hA3.hf.cell 53;have mH:=hA3.hf.cell 54;rw[hrw]at c53 hrow;have sZ:JZ S1.row S1.rat=0:=by rw[DR.out];exact HI.out.re
   have QK5:(S1.row.length:Int)=S1.width:=by rw[DR.out];exact HI.out.rw_
   have sQ:JZ (Je S1.text S1.off S1.width) (S1.pos-S1.off)=0:=by have:=HI.out.show.re;rw[HSH.out]at this;exact this
   have pG:(EU S1.row S1.rat.toNat (Je S1.text S1.off S1.width) (S1.pos-S1.off).toNat).length<=363:=by
    have:=(jD HI.out).2;rw[HSH.out]at this;rw[DR.out]at this ⊢;exact this
   have hvl:S1.XK.length<=4398046511103:=by rw[DR.out];exact HV.out
   have hz1:=UX sZ;have hz2:=UX sQ;obtain⟨pa,bQ⟩:∃pa:Nat,S1.rat=pa:=⟨S1.rat.toNat,by omega⟩;obtain⟨pb,hpb⟩:∃pb:Nat,S1.pos-S1.off=pb:=⟨(S1.pos-S1.off).toNat,by omega⟩;have r0:=hR.c0;have r1:=hR.c1;rw[hA3.hf.d.rat,bQ]at mH;rw[hpb]at r1;have hrn:=hrow.get.1;have hn:=hR.sl.get.1;rw[Yy]at hn;obtain rfl:rn=n:=by omega
   obtain⟨full,x,y,lo,hi,fi,la,H,hsg⟩:=LH S1.row (Je S1.text S1.off S1.width) pa pb rn hrn (by omega) (by omega);have hpt:S1.rat.toNat=pa:=by omega
   have pR:(S1.pos-S1.off).toNat=pb:=by omega
   have hwl:=Yy S1.text S1.off S1.width;rw[hpt,pR]at pG;have HSG:=QQ (EM ra a rn rc c pa pb full x y lo hi fi la S1.row (Je S1.text S1.off S1.width) w3.drew (hrow.sl.drew) (hR.sl.sl.drew) (by rw[<-bQ];exact sZ) (by rw[<-hpb];exact sQ) (by omega) (by omega) H);rw[<-hsg]at HSG;have yz:=QQ hA3;have HR:=QQ hR;have HSL:=QQ pG;have Oe:=QQ hvl;have HPA:=QQ bQ;have HPB:=QQ hpb;have HPT:=QQ hpt;have QUt:=QQ pR;have hRl:=Zv hR.c0;have Qzs:=hA3.hf.yH;clear hA3 hR hrow hrw sZ QK5 sQ pG hvl hz1 hz2 bQ hpb hrn hn hpt pR hwl hsg H HA2 mq hVR HS0 hp0 hp1 ho0 ho1 hd0 hd1 hw0 hw1;generalize QKq:EU S1.row pa (Je S1.text S1.off S1.width) pb=sg at *;go_upto_region 2 with fail
   go_cut [4] (fun v wx=>∃sa sn sc,v=.slice sa sn sc/\Sl wx (.slice sa sn sc) sg/\Below w3.heap.size w3 wx)
   case first=>as_aux_lemma=>
    go_region_held3 (fun w'=>w'.cell? ⟨B,53,none⟩=some (.slice ra rn rc)/\w'.cell? ⟨B,54,none⟩=some (.int .i64 (pa:Int))/\w'.cell? ⟨R,0,none⟩=some (.slice a rn c)/\w'.cell? ⟨R,1,none⟩=some (.int .i64 (pb:Int))) (first|exact⟨c53,mH,r0,r1⟩|(with_reducible assumption)|exact⟨Qk hb5 _ _ c53,Qk hb5 _ _ mH,Qk hb5 _ _ r0,Qk hb5 _ _ r1⟩)
     (first|(go_at_call 92;refine HSG.out.mono ?_;rintro e w5 ⟨v5,rfl,s5,hb5⟩;obtain⟨a5,n5,k5,rfl⟩:∃a n c,v5=.slice a n c:=(by obtain⟨a,n,c,e,-⟩:=s5;exact⟨a,n,c,e⟩)))
    all_goals
     go_wp2;go_meet;exact⟨_,_,_,rfl,s5,QR.call hb5 (QR.drew (Qx _ w3))⟩
   case rest=>
    obtain⟨sa,sn,sc,rfl,hsl,hb4⟩:=hcut;obtain⟨w4,hw4⟩:∃w4,w4=wc:=⟨_,rfl⟩;subst hw4;have JM:=yz.out.Xw hb4;obtain⟨va,vn,vc,hvv⟩:=JM.hf.m.XK.form;have hown:=JM.hf.m.XK;have c57:=JM.hf.cell 57;have z57:=JM.hf.free 57;rw[hvv]at c57 hown;have q0:=Qk hb4 _ _ r0;have q1:=Qk hb4 _ _ r1;have hnR:(Value.slice va vn vc).ownBlock≠some R:=fun e=>(JM.hf.m.Ya R (by rw[hvv];exact e)).1 hFR
    have QXa:R<w4.heap.size:=QG hRl hb4.size;obtain⟨s1,s2,s3,s4,s5⟩:=hsl.get;have HRW:=QQ ((HR.out.sl.lt.imp (Q:=Fx F2 w2 w3) fun k hk=>.inr ⟨hk.1.1,hk.2⟩).below hb4);have bz:=QQ JM;have HOW:=QQ hown;have HSS:=QQ s1;have HVV:=QQ hvv;have HS4:=QQ s4;have F8:=QQ s5;have HNR:=QQ hnR;have QZn:S1.XK.length+sn<=17592186044416:=by have:=Oe.out;have:=HSL.out;omega
    have HVS:=QQ QZn;clear JM hown hsl hb4 r0 r1 c53 mH s1 s2 s3 s4 s5 hvv hnR QZn;go_wp2_with (at_builtin;refine aZ rfl _ _ rfl 0 (.slice va vn vc) S1.XK sg sa sn sc rfl rfl HOW.out HS4.out HSS.out F8.out HVS.out (Qe _) ?_;intro v6 w6 o6 hg6 QKe;obtain⟨a6,n6,k6,rfl⟩:=o6.form;have Uw:K9 w6 B f2:=QD.grown bz.out.hf.m.blk hg6 (HOW.out.ZA bz.out.hf.m.blk (by decide));obtain⟨x57,y57⟩:=Uw.at 57;obtain⟨x53,y53⟩:=Uw.at 53;obtain⟨x54,y54⟩:=Uw.at 54;have g0:w6.cell? ⟨R,0,none⟩=some (.slice a rn c):=(by unfold World.cell? at q0 ⊢;rw[hg6.block R QXa HNR.out.symm];exact q0);have g1:w6.cell? ⟨R,1,none⟩=some (.int .i64 (pb:Int)):=(by unfold World.cell? at q1 ⊢;rw[hg6.block R QXa HNR.out.symm];exact q1);clear Uw)
    go_end0
    have JM:=bz.out;have UF:=JM.XK (S':={S1 with XK:=S1.XK++sg}) (Qx _ w4) (by rw[HVV.out];exact hg6) o6 (by rw[HVV.out];exact QKe) {JM.hf.d with} ⟨rfl,rfl⟩;have QKy:XH (Fx F2 w2 w3) (w6.setCell ⟨B,57,none⟩ (.slice a6 n6 k6)) (.slice a rn c) (Je S1.text S1.off S1.width):=
     HRW.out.keep (Same.YZ (F:=Fx F2 w2 w3) fun k hk=>by
      have hkB:k≠B:=fun e=>JM.hf.m.nB (e▸hk)
      rw[QP _ ⟨B,57,none⟩ _ _ hkB];exact hg6.block k (JM.Sy k hk) (fun e=>(JM.hf.m.Ya k (by rw[HVV.out];exact e.symm)).1 hk))
    have xX:=UF.store (S':={S1 with XK:=S1.XK++sg,row:=Je S1.text S1.off S1.width}) 53 (.slice a rn c) {UF.hf.d with row:=QKy};have VG:=xX.store (S':={S1 with XK:=S1.XK++sg,row:=Je S1.text S1.off S1.width,rat:=(pb:Int)}) 54 (.int .i64 (pb:Int)) {xX.hf.d with rat:=rfl};exact⟨rfl,by rw[HSH.out,HPT.out,QUt.out,HPB.out,QKq];exact VG.done⟩
structure Pd (A:List Int):Prop where
 run:Ub A=⟨A,[]⟩
 lt:A≠[]->(A.length:Int)<qZ (ix A 0)
 mO:ae A
theorem Bg:Pd []:=⟨rfl,fun h=>absurd rfl h,fun x hx=>by cases hx⟩
theorem nC(b:Int):qZ b<=4:=by
 unfold qZ
 repeat' split
 all_goals omega
theorem nA(b:Int):qZ b=0\/1<=qZ b:=by
 unfold qZ
 repeat' split
 all_goals omega
theorem Pd.len{A:List Int}(h:Pd A):A.length<=3:=by
 by_cases hA:A=[]
 ·subst hA;simp
 ·have:=h.lt hA
  have:=nC (ix A 0);omega
theorem NJ(l:List Int)(b:Int):Ub (l++[b])=(Ub l).take b:=by simp[Ub]
theorem dS{m:MS}{b:Int}(h:Pd m.ah)(hb:0<=b/\b<256):Pd (m.take b).ah:=by
 obtain⟨A,o⟩:=m;dsimp only at h;have hgo:∀(B:List Int) (o2:List Int),Pd B->¬(B≠[]/\Vl B b=false)->Pd ((MS.put ⟨B,o2⟩ b).ah):=by
  intro B o2 hB hnf;unfold MS.put;dsimp only;by_cases c1:B=[]/\qZ b=0
  ·rw[if_pos c1];exact Bg
  ·rw[if_neg c1]
   by_cases c2:((B.length+1:Nat):Int)=qZ (ix (B++[b]) 0)
   ·rw[if_pos c2];exact Bg
   ·rw[if_neg c2]
    refine⟨?_,fun _=>?_,?_⟩
    ·rw[NJ,hB.run]
     unfold MS.take;rw[if_neg hnf];unfold MS.put;dsimp only;rw[if_neg c1,if_neg c2]
    ·rw[QE,List.length_singleton]
     by_cases hB0:B=[]
     ·subst hB0
      have h1:ix ([]++[b]) 0=b:=rfl;rw[h1]at c2 ⊢;have:=nA b;simp at c2 ⊢;rcases this with h|h
      ·exact absurd ⟨rfl,h⟩ c1
      ·omega
     ·have h1:ix (B++[b]) 0=ix B 0:=Xj (Zf.2 hB0)
      rw[h1]at c2 ⊢;have:=hB.lt hB0;omega
    ·intro x hx
     rcases Zz.1 hx with hx|hx
     ·exact hB.mO x hx
     ·obtain rfl:=List.mem_singleton.1 hx
      exact hb
 unfold MS.take;by_cases c:A≠[]/\Vl A b=false
 ·rw[if_pos c]
  have hbk:MS.brk ⟨A,o⟩=⟨[],o++[65533]⟩:=by unfold MS.brk;rw[if_neg c.1]
  rw[hbk];exact hgo [] _ Bg (fun e=>e.1 rfl)
 ·rw[if_neg c]
  exact hgo A o h c
theorem Lh:∀(l:List Int) (m:MS),Pd m.ah->ae l->Pd (l.foldl MS.take m).ah
 | [],m,h,_=>h
 | b::l,m,h,hb=>Lh l (m.take b) (dS h (hb b (QB.2 (.inl rfl)))) (fun x hx=>hb x (QB.2 (.inr hx)))
theorem tC{A:List Int}(h:ae A)(j:Nat):bt (Aj A) j=ix A j:=by
 unfold bt Aj ix;by_cases hj:j<A.length
 ·have hb:=h _ (XF hj)
  simp[List.getD,hj];omega
 ·simp[List.getD,Nat.le_of_not_lt hj]
theorem jC(A:List Int):(Aj A).size=A.length:=by
 show(A.map fun x=>UInt8.ofNat x.toNat).toArray.size=_
 simp
theorem gu{A:List Int}(h:ae A):yR (Aj A)=A:=by
 refine zl (by rw[UW,jC]) fun i hi=>?_
 rw[UW]at hi;rw[Ti hi,tC h]
theorem Tm(s:ByteArray):ae (yR s):=by
 intro x hx;obtain⟨j,-,rfl⟩:=List.mem_map.1 hx;have:=KQ s j;omega
structure DV (p:ByteArray):Prop where
 out:(JS p).out=[]
 len:p.size<=3
theorem DV.next(s:ByteArray):DV (Aj (JS s).ah):=by
 have h:=Lh (yR s) ⟨[],[]⟩ Bg (Tm s);have hr:JS s=(yR s).foldl MS.take ⟨[],[]⟩:=rfl;rw[<-hr]at h;refine⟨?_,by rw[jC];exact h.len⟩
 show(Ub (yR (Aj (JS s).ah))).out=[]
 rw[gu h.mO,h.run]
theorem DV.nil:DV ⟨#[]⟩:=⟨rfl,by decide⟩
theorem Pp{W:World}{K:Nat}{S:SS}(h:Qt K S)(key:Int):(S.step W key).XK.length<=S.XK.length+363:=by
 unfold SS.step;by_cases ho:S.over=true
 ·rw[if_pos ho];omega
 ·rw[if_neg ho]
  have hi:=h.key (W:=W) key;have hv:(S.key W key).XK=S.XK:=by
   rcases Hy (W:=W) h key with ht|ht
   ·exact ht.XK
   ·rw[ht];rfl
  have:=(jD hi).2
  show(_++_:List Int).length<=_
  rw[QE,hv];exact Nat.add_le_add_left this _
theorem jo{W:World}:∀(l:List Int) {K:Nat} {S:SS},Qt K S->(S.keys W l).XK.length<=S.XK.length+363*l.length
 | [],K,S,h=>QU _
 | k::l,K,S,h=>by
  have h1:=Pp (W:=W) h k;have h2:=jo (W:=W) l (h.step (W:=W) k);have hs:S.keys W (k::l)=(S.step W k).keys W l:=rfl;rw[hs,ZK];omega
theorem Na{W:World}(S:SS)(l:List Int)(k:Int):S.keys W (l++[k])=(S.keys W l).step W k:=by unfold SS.keys;rw[List.foldl_append];rfl
theorem Ef{W:World}(S:SS)(l m:List Int):S.keys W (l++m)=(S.keys W l).keys W m:=by unfold SS.keys;rw[List.foldl_append]
theorem At.reset{F0 G0 F:Nat->Prop}{w0 w:World}{B:Nat}{f:Nat->Value}{S:SS}(h:At F0 G0 w0 F w B f S)(p:ByteArray):
  At F0 G0 w0 F (((w.setCell ⟨B,50,none⟩ (.string p)).setCell ⟨B,56,none⟩ (.slice none 0 0)).setCell ⟨B,57,none⟩ (.slice none 0 0)) B (JQ (JQ (JQ f 50 (.string p)) 56 (.slice none 0 0)) 57 (.slice none 0 0)) {S with pend:=p,told:=[],XK:=[]}:=by
 have h1:=h.store (S':={S with pend:=p}) 50 (.string p) {h.hf.d with pend:=rfl};generalize w.setCell ⟨B,50,none⟩ (.string p)=w1 at *;generalize JQ f 50 (.string p)=f1 at *;have hM:=h1.hf.m;have hne:=hM.U4;have hs:∀k,k≠B->((w1.setCell ⟨B,56,none⟩ (.slice none 0 0)).setCell ⟨B,57,none⟩ (.slice none 0 0)).heap[k]? =w1.heap[k]?:=fun k hk=>(QP _ _ _ _ hk).trans (QP _ _ _ _ hk)
 have hsz:((w1.setCell ⟨B,56,none⟩ (.slice none 0 0)).setCell ⟨B,57,none⟩ (.slice none 0 0)).heap.size=w1.heap.size:=by rw[size_setCell,size_setCell]
 have Tu:Gx G0 w0 ((w1.setCell ⟨B,56,none⟩ (.slice none 0 0)).setCell ⟨B,57,none⟩ (.slice none 0 0))=Gx G0 w0 w1:=by rw[Gx.setCell,Gx.setCell]
 have hd:Vo F w1 (JQ (JQ f1 56 (.slice none 0 0)) 57 (.slice none 0 0)) {S with pend:=p,told:=[],XK:=[]}:={h1.hf.d with};refine⟨⟨h1.step.os,h1.step.tape,h1.step.output,by rw[hsz];exact h1.step.size,fun k hk hn=>?_⟩,fun k hk=>?_,h1.sub,⟨?_,?_,(hd.setCell hM.nB).setCell hM.nB,?_⟩⟩
 ·rw[hs k (fun e=>?_)]
  ·exact h1.step.block k hk hn
  ·subst e
   exact QvE
 ·rw[hs k (h1.lH k hk)];exact h1.same k hk
 ·rw[Tu];exact h1.hf.fg
 ·rw[Tu,hsz];exact h1.hf.lt
 ·rw[Tu]
  exact {
   blk:=(hM.blk.set 56 _).set 57 _,nB:=hM.nB,gB:=hM.gB
   now:=by
    rw[Zg (by decide),Zg (by decide),YK];have hn:=hM.now;cases ho:S.now with
    | none=>rw[ho]at hn;exact hn
    | some q=>
     obtain⟨c,ty⟩:=q;rw[ho]at hn;obtain⟨C,tv,g1,g2,g3,g4,g5,g6⟩:=hn;exact⟨C,tv,g1,g2,g3,QD.moved g4 (hs C (hne C (.inr (.inr ⟨C,g1,.inl rfl⟩)))),g5.moved (fun k hk=>hs k (hne k (.inr (.inr ⟨C,g1,.inr ⟨tv,g4.cell 5,hk⟩⟩)))),fun k hk=>⟨(g6 k hk).1,(g6 k hk).2.1,by simp[Value.ownBlock]⟩⟩
   told:=⟨[],by rw[Zg (by decide),YK];exact ZB.nil _ _ _,xk.nil _ _⟩
   Xb:=fun k hk=>by rw[Zg (by decide),YK]at hk;simp[Value.ownBlock]at hk
   XK:=by rw[YK];exact Xv _ _ _ _
   Ya:=fun k hk=>by rw[YK]at hk;simp[Value.ownBlock]at hk}
def FdS(W0:World)(F G:Nat->Prop)(w:World)(B:Nat)(S:SS)(b:ByteArray)(e:Ending)(w':World):Prop:=
 ∃F' f',At F G w F' w' B f' (S.feed W0 b).1/\
  (((S.feed W0 b).2=0/\e=.returned (.tuple #[f' 56,f' 57,.int .i64 0]))\/((S.feed W0 b).2≠0/\e=.returned (.tuple #[.slice none 0 0,.slice none 0 0,.int .i64 (S.feed W0 b).2])))
theorem Lu(W0:World)(F G:Nat->Prop)(B K:Nat)(S:SS)(b:ByteArray)(w:World)(h:Zw F G w B S)(hI:Qt K S)(hP:DV S.pend)(hK:K<=268435456):
  Calls Tryz.prog 18 #[.pointer (some ⟨B,0,none⟩),.string b] w (FdS W0 F G w B S b):=by
 obtain⟨f,hf⟩:=h;have hA:=At.begin hf;have mG:=hf.cell 55;have c50:=hf.cell 50;rw[hf.d.over]at mG;rw[hf.d.pend]at c50;cases hov:S.over with
 | true=>
  rw[hov]at mG;have Nr:S.feed W0 b=(S,6):=by unfold SS.feed;rw[hov];rfl
  have HA:=QQ hA;have HF:=QQ Nr;clear hf hA hov Nr;go_enter Tryz.func18,Tryz.ntmps18
  go_wp2;go_ret3
  exact⟨F,f,by rw[HF.out];exact HA.out,.inr ⟨by rw[HF.out];exact(by decide:(6:Int)≠0),by rw[HF.out];rfl⟩⟩
 | false=>
  rw[hov]at mG;by_cases hb:4096<b.size
  ·have Nr:S.feed W0 b=(S,2):=by unfold SS.feed;rw[if_neg (by rw[hov];decide),if_pos hb]
   have HC:=QQ (yY S.pend b w (by have:=hP.len;omega) hP.out hb);have HA:=QQ hA;have HF:=QQ Nr;clear hf hA hov Nr hb;go_enter Tryz.func18,Tryz.ntmps18
   go_wp2_with fail
   refine HC.out.mono ?_;rintro e w2 ⟨v2,rfl,o2,hb2⟩;obtain⟨a2,n2,k2,rfl⟩:=o2.form;go_wp2;go_ret3
   exact⟨F,f,by rw[HF.out];exact HA.out.Xw hb2,.inr ⟨by rw[HF.out];exact(by decide:(2:Int)≠0),by rw[HF.out];rfl⟩⟩
  ·obtain⟨L,hL⟩:∃L,L=(JS (S.pend++b)).out:=⟨_,rfl⟩
   obtain⟨pd,hpd⟩:∃pd,pd=Aj (JS (S.pend++b)).ah:=⟨_,rfl⟩;have hLl:L.length<=8200:=by
    have:=RV (S.pend++b);rw[<-hL,ByteArray.size_append]at this;have:=hP.len;omega
   obtain⟨S0,hS0⟩:∃S0:SS,S0={S with pend:=pd,told:=[],XK:=[]}:=⟨_,rfl⟩;have Nr:S.feed W0 b=(S0.keys W0 L,0):=by unfold SS.feed;rw[if_neg (by rw[hov];decide),if_neg hb,hS0,hL,hpd]
   have hI0:Qt K S0:=by rw[hS0];exact {hI with}
   have ho0:S0.over=false:=by rw[hS0];exact hov
   have ht0:S0.told=[]:=by rw[hS0]
   have hv0:S0.XK=[]:=by rw[hS0]
   have HC:=QQ (Ct S.pend b w (by have:=hP.len;omega) hP.out (by omega));rw[<-hL,<-hpd]at HC;have HTB:=QQ (show∀j,j<L.length->(S0.keys W0 (L.take j)).told.length+(K+j)+2<=4398046511103 from fun j hj=>by
    obtain⟨m,h1,h2,-⟩:=(yL (W:=W0) (L.take j) hI0 ho0 (K+L.length) (by rw[QT];omega)).told;rw[h1,ht0,List.nil_append];have h3:(L.take j).length*(K+L.length+2)<=8200*(268435456+8200+2):=Nat.mul_le_mul (by rw[QT];omega) (by omega)
    omega)
   have HVB:=QQ (show∀j,j<=L.length->(S0.keys W0 (L.take j)).XK.length<=4398046511103 from fun j hj=>by
    have:=jo (W:=W0) (L.take j) hI0;rw[hv0,QT]at this;simp at this
    omega)
   have HIB:=QQ (show∀j,j<=L.length->Qt (K+j) (S0.keys W0 (L.take j))from fun j hj=>by
    have:=Qt.keys (W:=W0) (L.take j) hI0
    rwa[QT,XC hj]at this)
   have HS0:=QQ hS0;have HA:=QQ hA;have HF:=QQ Nr;have Kt:=QQ hLl;have hKb:K<=268435456:=hK;clear hf hA hov Nr hb hL hpd hLl hS0 hI0 ho0 ht0 hv0 hI hP;go_enter Tryz.func18,Tryz.ntmps18
   go_wp2_with fail
   refine HC.out.mono ?_;rintro e w2 ⟨v2,rfl,o2,hb2⟩;obtain⟨la,ln,lc,rfl⟩:=o2.form;have hA2:=HA.out.below hb2;obtain⟨iL,z50⟩:=hA2.hf.m.blk.at 50;obtain⟨x56,z56⟩:=hA2.hf.m.blk.at 56;obtain⟨x57,z57⟩:=hA2.hf.m.blk.at 57;have hA3:=hA2.reset pd;rw[<-HS0.out]at hA3;have hsl:XH (Fx F w w2) w2 (.slice la ln lc) L:=o2.xB.lt.imp fun k hk=>Fx.new k hk
   have nB:=hA2.hf.m.nB;have QZ7:=((hsl.J6 (i:=50) (u:=.string pd) nB).J6 (i:=56) (u:=.slice none 0 0) nB).J6 (i:=57) (u:=.slice none 0 0) nB;have hln:=hsl.get.1;have yz:=QQ hA3;have HSL:=QQ QZ7;have yV:=QQ hln;have QzC:ln<=8200:=by have:=Kt.out;omega
   clear hA2 hA3 hsl QZ7 hb2 o2 nB mG c50 hln;go_wp2
   go_loopw [41] (fun x wr=>∃(j:Nat) (F':Nat->Prop) (f':Nat->Value),x=.int .i64 (j:Int)/\j<=ln/\At F G w F' wr B f' (S0.keys W0 (L.take j))/\XH F' wr (.slice la ln lc) L) (fun x _=>ln-(intOf x).toNat)
   case atStart=>exact⟨0,_,_,rfl,by omega,yz.out,HSL.out⟩
   case round=>
    obtain⟨j,F5,f5,rfl,hj,Jk,hs5⟩:=hrel;have hfin:∀(S':SS) (F6:Nat->Prop) (f6:Nat->Value) (w6:World),S'=S0.keys W0 L->At F G w F6 w6 B f6 S'->FdS W0 F G w B S b (.returned (.tuple #[f6 56,f6 57,.int .i64 0])) w6:=fun S' F6 f6 w6 e UF=>
     ⟨F6,f6,by rw[HF.out];subst e;exact UF,.inl ⟨by rw[HF.out],rfl⟩⟩
    have QYT:=QQ hfin;clear hfin;by_cases hlt:j<ln
    ·have hi0:(0:Int)<=(j:Int):=by omega
     have hin:(j:Int)<(ln:Int):=by omega
     have hjt:j<L.length:=by rw[yV.out];exact hlt
     obtain⟨b1,o1,rfl,hcc⟩:=Ints.at hs5.get.2.2.2.1 hjt;have cv:=hcc j hjt;obtain⟨x55,-⟩:=Jk.hf.m.blk.at 55;rw[Jk.hf.d.over]at x55;cases hov:(S0.keys W0 (L.take j)).over with
     | true=>as_aux_lemma=>
      rw[hov]at x55;have heq:S0.keys W0 (L.take j)=S0.keys W0 L:=by
       conv=>rhs;rw[<-List.take_append_drop j L,Ef]
       rw[ze _ hov]
      obtain⟨x56,-⟩:=Jk.hf.m.blk.at 56;obtain⟨x57,-⟩:=Jk.hf.m.blk.at 57;have Om:=QQ Jk;have HEQ:=QQ heq;clear Jk hs5 hcc heq hov;go_upto_region 14 with fail
      go_region
      all_goals
       go_wp2;go_ret3
       exact QYT.out _ F5 f5 _ HEQ.out Om.out.drew
     | false=>as_aux_lemma=>
      rw[hov]at x55;have hi:=HIB.out j (by omega);have HK:=QQ (nM W0 F5 _ B (K+j) _ (ix L j) wr ⟨f5,Jk.hf⟩ hi (by omega) (HTB.out j hjt));have hst:((S0.keys W0 (L.take j)).key W0 (ix L j)).show=S0.keys W0 (L.take (j+1)):=by
       rw[Qo hjt,Na,<-Xt hjt];unfold SS.step;rw[hov];rfl
      have hi2:=hi.key (W:=W0) (ix L j);have hvk:((S0.keys W0 (L.take j)).key W0 (ix L j)).XK.length<=4398046511103:=by
       have hv:((S0.keys W0 (L.take j)).key W0 (ix L j)).XK=(S0.keys W0 (L.take j)).XK:=by
        rcases Hy (W:=W0) hi (ix L j)with ht|ht
        ·exact ht.XK
        ·rw[ht];rfl
       rw[hv];exact HVB.out j (by omega)
      have Om:=QQ Jk;have F8:=QQ hs5;have HST:=QQ hst;have HI2:=QQ hi2;have HVK:=QQ hvk;clear Jk hs5 hcc hst hi hi2 hvk hov;generalize S0.keys W0 (L.take j)=Sj at *;go_wp2_with (first|(go_at_call 48;go_loud (refine(HK.out).mono ?_;rintro e w6 ⟨rfl,hv6⟩;obtain⟨F6,f6,UF,MX,CF⟩:=Om.out.call hv6;have HSH:=QQ (bI F6 _ B (K+j+1) _ w6 ⟨f6,UF.hf⟩ HI2.out HVK.out);have HA6:=QQ UF;have HS6:=QQ ((F8.out.keep CF.YZ).imp MX);clear hv6 UF MX CF))|(go_at_call 49;go_loud (refine(HSH.out).mono ?_;rintro e w7 ⟨rfl,hv7⟩;have HV7:=QQ hv7;clear hv7)))
      obtain⟨F7,f7,xX,QZ2,pI⟩:=HA6.out.call HV7.out;rw[HST.out]at xX;exact⟨⟨j+1,F7,f7,by go_num,by omega,xX,(HS6.out.keep pI.YZ).imp QZ2⟩,by simp[intOf];omega⟩
    ·as_aux_lemma=>
     obtain rfl:j=ln:=by omega
     rw[Q5 (by rw[yV.out];exact QU _)]at Jk;obtain⟨x56,-⟩:=Jk.hf.m.blk.at 56;obtain⟨x57,-⟩:=Jk.hf.m.blk.at 57;have Om:=QQ Jk;clear Jk hs5 hlt;go_upto_region 14 with fail
     go_region
     all_goals
      go_wp2;go_ret3
      exact QYT.out _ F5 f5 _ rfl Om.out.drew
structure Rw (S S':SS):Prop where
 XK:S'.XK=S.XK
 row:S'.row=S.row
 rat:S'.rat=S.rat
 pend:S'.pend=S.pend
theorem Rw.trans{S T U:SS}(h:Rw S T)(g:Rw T U):Rw S U:=⟨g.XK.trans h.XK,g.row.trans h.row,g.rat.trans h.rat,g.pend.trans h.pend⟩
theorem Rw.Xa(S:SS):Rw S S.Xa:=⟨rfl,rfl,rfl,rfl⟩
theorem Rw.typed(S:SS)(key:Int):Rw S (S.typed key):=by
 unfold SS.typed;split
 ·exact⟨rfl,rfl,rfl,rfl⟩
 ·split
  ·exact Rw.Xa S
  ·exact⟨rfl,rfl,rfl,rfl⟩
theorem Rw.Uj:∀(l:List Int) (S:SS),Rw S (l.foldl SS.typed S)
 | [],S=>⟨rfl,rfl,rfl,rfl⟩
 | k::l,S=>(Rw.typed S k).trans (Rw.Uj l (S.typed k))
theorem Rw.moved(S:SS)(r:Hi×List Int×Int):Rw S (S.moved r):=by
 unfold SS.moved;split
 ·exact Rw.Xa S
 ·exact⟨rfl,rfl,rfl,rfl⟩
theorem Rw.Ju(W:World)(S:SS)(c:C5):Rw S (S.Ju W c).1:=by
 unfold SS.Ju;split
 ·exact Rw.Xa S
 ·dsimp only
  split<;>split<;>exact⟨rfl,rfl,rfl,rfl⟩
theorem Rw.again(W:World)(S:SS)(n:Int):Rw S (S.again W n):=by
 unfold SS.again;split
 ·exact Rw.Xa S
 ·rename_i c ty he
  dsimp only;generalize(if 0<n then({c with a:=n}:C5)else c)=c';split
  ·exact Rw.Ju W S _
  ·exact((Rw.Ju W S _).trans (Rw.Uj ty _)).trans (Rw.typed _ 27)
theorem Rw.command(W:World)(S:SS)(c:C5):Rw S (S.command W c):=by
 unfold SS.command;split
 ·exact Rw.Ju W S c
 split
 ·unfold SS.back;split<;>exact⟨rfl,rfl,rfl,rfl⟩
 split
 ·unfold SS.Yp;split<;>exact⟨rfl,rfl,rfl,rfl⟩
 split
 ·exact Rw.again W S c.a
 split
 ·exact Rw.moved S _
 split
 ·exact Rw.moved S _
 split
 ·exact Rw.moved S _
 split
 ·exact Rw.moved S _
 split
 ·exact⟨rfl,rfl,rfl,rfl⟩
 ·exact Rw.Ju W S c
theorem Rw.asked(S:SS)(key:Int):Rw S (S.asked key):=by
 unfold SS.asked;split
 ·have h:=Rw.moved ({S with mode:=0}:SS) (vz S.Qh S.text S.ask S.older)
  exact⟨h.XK,h.row,h.rat,h.pend⟩
 split
 ·exact⟨rfl,rfl,rfl,rfl⟩
 split
 ·split<;>exact⟨rfl,rfl,rfl,rfl⟩
 split
 ·exact Rw.Xa S
 ·exact⟨rfl,rfl,rfl,rfl⟩
theorem Rw.key(W:World)(S:SS)(key:Int):Rw S (S.key W key):=by
 unfold SS.key;split
 ·exact⟨rfl,rfl,rfl,rfl⟩
 split
 ·exact Rw.asked S key
 split
 ·exact⟨rfl,rfl,rfl,rfl⟩
 split
 ·split
  ·exact Rw.Xa S
  ·exact⟨rfl,rfl,rfl,rfl⟩
 split
 ·exact Rw.typed S key
 dsimp only;split
 ·have h:=Rw.command W ({S with part:=(S.Ua key).part}:SS) (S.Ua key).cmd
  exact⟨h.XK,h.row,h.rat,h.pend⟩
 split
 ·exact⟨rfl,rfl,rfl,rfl⟩
 ·exact⟨rfl,rfl,rfl,rfl⟩
theorem Pm(m:MS)(b:Int):(m.take b).out.length+(m.take b).ah.length<=m.out.length+m.ah.length+1:=by
 have hput:∀q:MS,(q.put b).out.length+(q.put b).ah.length<=q.out.length+q.ah.length+1:=fun q=>by
  unfold MS.put;split
  ·simp
  ·split
   ·simp
   ·simp only[QE,ZK,List.length_nil];omega
 unfold MS.take;split
 ·rename_i h
  refine QL (hput _) ?_;unfold MS.brk;rw[if_neg h.1];have:=Zf.2 h.1;simp;omega
 ·exact hput m
theorem FQ:∀(l:List Int) (m:MS),(l.foldl MS.take m).out.length+(l.foldl MS.take m).ah.length<=m.out.length+m.ah.length+l.length
 | [],m=>QU _
 | b::l,m=>by
  have h1:=FQ l (m.take b);have h2:=Pm m b;rw[List.foldl_cons,ZK];omega
theorem Ej(s:ByteArray):(JS s).out.length+(JS s).ah.length<=s.size:=by
 have h:=FQ (yR s) ⟨[],[]⟩;rw[UW]at h;have e:JS s=(yR s).foldl MS.take ⟨[],[]⟩:=rfl;rw[e];simpa using h
structure zK (N used:Nat) (most:Int) (S:SS) (l:List (Int×List Int)) (m:List Int):Prop where
 inv:∃K,Qt K S/\K+S.pend.size<=used/\l.length<=K*(N+2)/\m.length<=363*K
 pend:DV S.pend
 lens:∀e∈l,e.2.length<=200
 ends:(S.over=false/\∀e∈l,e.1≠4)\/(S.over=true/\∃k,l=k++[(4,[])]/\∀e∈k,e.1≠4)
 most:S.Qh.most=most
 row:Us m (List.replicate S.width.toNat 32,0)=(S.row,S.rat.toNat)
theorem Ee{W:World}:∀(l:List Int) {K:Nat} {S:SS} (s:List Int×Nat),Qt K S->Us S.XK s=(S.row,S.rat.toNat)->Us (S.keys W l).XK s=((S.keys W l).row,(S.keys W l).rat.toNat)
 | [],K,S,s,h,hr=>hr
 | k::l,K,S,s,h,hr=>by
  have hs:S.keys W (k::l)=(S.step W k).keys W l:=rfl;rw[hs];refine Ee l s (h.step (W:=W) k) ?_;unfold SS.step;by_cases ho:S.over=true
  ·rw[if_pos ho];exact hr
  ·rw[if_neg ho]
   have hi:=h.key (W:=W) k;have hk:(S.key W k).XK=S.XK/\(S.key W k).row=S.row/\(S.key W k).rat=S.rat:=⟨(Rw.key W S k).XK,(Rw.key W S k).row,(Rw.key W S k).rat⟩;have hv:(S.key W k).show.XK=(S.key W k).XK++EU (S.key W k).row (S.key W k).rat.toNat (S.key W k).show.row (S.key W k).show.rat.toNat:=rfl;rw[hv,J5,hk.1,hr,<-hk.2.1,<-hk.2.2];exact(jD hi).1
theorem Ms{W:World}(S:SS)(key:Int):(S.step W key).pend=S.pend:=by
 unfold SS.step;split
 ·rfl
 ·exact(Rw.key W S key).pend
theorem Au{W:World}:∀(l:List Int) (S:SS),(S.keys W l).pend=S.pend
 | [],S=>rfl
 | k::l,S=>(Au l (S.step W k)).trans (Ms S k)
theorem zK.new{N:Nat}{most width:Int}(h:1<=most/\most<=50/\2<=width/\width<=120):zK N 0 most (SS.new most width) [] []:=
 {
  inv:=⟨0,Qt.new h.1 h.2.1 h.2.2.1 h.2.2.2,QU _,Qe _,Qe _⟩
  pend:=DV.nil
  lens:=fun e he=>by cases he
  ends:=.inl ⟨rfl,fun e he=>by cases he⟩
  most:=rfl
  row:=rfl}
theorem Aa{W:World}{S:SS}{b:ByteArray}(he:(S.feed W b).2=0):S.over=false/\b.size<=4096/\(S.feed W b).1=({S with pend:=Aj (JS (S.pend++b)).ah,told:=[],XK:=[]}:SS).keys W (JS (S.pend++b)).out:=by
 unfold SS.feed at he ⊢;by_cases h1:S.over=true
 ·rw[if_pos h1]at he;exact absurd (show(6:Int)=0 from he) (by decide)
 ·rw[if_neg h1]at he ⊢
  by_cases h2:4096<b.size
  ·rw[if_pos h2]at he;exact absurd (show(2:Int)=0 from he) (by decide)
  ·rw[if_neg h2]
   exact⟨by simpa using h1,by omega,rfl⟩
theorem zK.step{W:World}{N used:Nat}{most:Int}{S:SS}{l:List (Int×List Int)}{m:List Int}(h:zK N used most S l m)(b:ByteArray)(hN:used+b.size<=N)(he:(S.feed W b).2=0):
  zK N (used+b.size) most (S.feed W b).1 (l++(S.feed W b).1.told) (m++(S.feed W b).1.XK):=by
 obtain⟨ho,hb,e⟩:=Aa he;obtain⟨K,hI,hK,hl,hm⟩:=h.inv;have hcnt:=Ej (S.pend++b);rw[ByteArray.size_append]at hcnt;have hnext:=DV.next (S.pend++b);have hps:=jC (JS (S.pend++b)).ah;rw[e];generalize(JS (S.pend++b)).out=L at *;generalize Aj (JS (S.pend++b)).ah=pd at *;obtain⟨S0,hS0⟩:∃S0:SS,S0={S with pend:=pd,told:=[],XK:=[]}:=⟨_,rfl⟩;rw[<-hS0];have hI0:Qt K S0:=by rw[hS0];exact {hI with}
 have ho0:S0.over=false:=by rw[hS0];exact ho
 have ht0:S0.told=[]:=by rw[hS0]
 have hv0:S0.XK=[]:=by rw[hS0]
 have hp0:S0.pend=pd:=by rw[hS0]
 have hm0:S0.Qh.most=S.Qh.most:=by rw[hS0]
 have hw0:S0.width=S.width:=by rw[hS0]
 have hr0:S0.row=S.row:=by rw[hS0]
 have ha0:S0.rat=S.rat:=by rw[hS0]
 have hk:=yL (W:=W) L hI0 ho0 N (by omega);obtain⟨mm,e1,e2,e3,e4⟩:=hk.told;rw[ht0,List.nil_append]at e1;have yQ:=jo (W:=W) L hI0;rw[hv0]at yQ;have hinv:=Qt.keys (W:=W) L hI0;have hkp:=Au (W:=W) L S0;have hkr:=Ee (W:=W) L (S0.row,S0.rat.toNat) hI0 (by rw[hv0];rfl);rw[hr0,ha0]at hkr;have hkw:=hk.width;have hkm:=hk.most;clear hS0 e;generalize S0.keys W L=S' at *;have hl4:∀e∈l,e.1≠4:=by
  rcases h.ends with h|h
  ·exact h.2
  ·rw[ho]at h;exact absurd h.1 (by decide)
 refine {inv:=⟨K+L.length,hinv,by rw[hkp,hp0];omega,?_,?_⟩,pend:=by rw[hkp,hp0];exact hnext,lens:=fun e he=>?_,ends:=?_,most:=by rw[hkm,hm0];exact h.most,row:=?_}
 ·rw[e1,QE,Nat.add_mul];omega
 ·rw[QE,Nat.mul_add]
  simp at yQ;omega
 ·rcases Zz.1 he with he|he
  ·exact h.lens e he
  ·rw[e1]at he;exact e3 e he
 ·rw[e1]
  rcases e4 with⟨o,q⟩|⟨o,k,rfl,q⟩
  ·refine .inl ⟨o,fun e he=>?_⟩
   rcases Zz.1 he with he|he
   ·exact hl4 e he
   ·exact q e he
  ·refine .inr ⟨o,l++k,by rw[List.append_assoc],fun e he=>?_⟩
   rcases Zz.1 he with he|he
   ·exact hl4 e he
   ·exact q e he
 ·rw[J5,hkw,hw0,h.row]
  exact hkr
def Bt(most width:Int)(v:Value):List Value:=
 [.pointer none,.int .i64 0,.int .i64 1]++List.replicate 27 (.slice none 0 0)++[.int .i64 0,.int .i64 0,.int .i64 0,.int .i64 0,.int .i64 0,.int .i64 0,.int .i64 0,.slice none 0 0,.int .i64 most,.int .i64 0,.slice none 0 0,.slice none 0 0,.bool false,.slice none 0 0,.slice none 0 0,.pointer none,.pointer none,.pointer none,.slice none 0 0,.bool false,.string ⟨#[]⟩,.int .i64 0,.int .i64 width,v,.int .i64 0,.bool false,.slice none 0 0,.slice none 0 0]
def SQ(most width:Int)(v:Value):Nat->Value:=fun i=>(Bt most width v).getD i undef
theorem oF(most width:Int)(v:Value):O5 (SQ most width v)=List.replicate 27 (.slice none 0 0):=rfl
theorem R9(F:Nat->Prop)(w:World)(most width:Int)(v:Value):XE F w (O5 (SQ most width v)) (List.replicate 27 []):=by
 rw[oF];refine⟨rfl,fun i hi=>?_⟩;rw[Xr]at hi;rw[UQ (by rw[Xr];exact hi),jI (by rw[Xr];exact hi),List.getElem_replicate,List.getElem_replicate];exact XH.nil _ _
theorem oG{F G:Nat->Prop}{w:World}{B:Nat}{most width:Int}{v:Value}(hFG:∀k,F k->G k)(hG:∀k,G k->k<w.heap.size)(hb:QD w B (Bt most width v).toArray 112)(hB:¬F B)(hGB:G B)
  (hv:XH F w v (List.replicate width.toNat 32)):HF F G w B (SQ most width v) (SS.new most width):=
 {
  fg:=hFG
  lt:=hG
  d:={
   text:=Ul.nil _ _,pos:=rfl,mode:=rfl,lr:=rfl
   regs:=R9 F w most width v
   fk:=rfl,fa:=rfl,p0:=rfl,p1:=rfl,p2:=rfl,p3:=rfl,p4:=rfl
   Qh:=⟨⟨[],Ag.nil _ _,⟨rfl,fun i hi=>by simp[SS.new]at hi⟩⟩,rfl,rfl,XH.nil _ _,XH.nil _ _,rfl⟩
   MK:=rfl,AA:=rfl,holder:=rfl,past:=aY.nil _ _,fut:=rfl,first:=Ul.nil _ _,last:=rfl,ask:=XH.nil _ _,older:=rfl,pend:=rfl,off:=rfl,width:=rfl,row:=hv,rat:=rfl,over:=rfl}
  m:={
   blk:=hb,nB:=hB,gB:=hGB,now:=rfl,told:=⟨[],ZB.nil _ _ _,xk.nil _ _⟩,Xb:=fun k hk=>by simp[SQ,Bt,Value.ownBlock]at hk
   XK:=Xv _ _ _ _,Ya:=fun k hk=>by simp[SQ,Bt,Value.ownBlock]at hk}}
def QYz(most width:Int)(w:World)(e:Ending)(w':World):Prop:=
 Below w.heap.size w w'/\((¬(1<=most/\most<=50/\2<=width/\width<=120)/\e=.returned (.tuple #[.pointer none,.int .i64 1]))\/
  ((1<=most/\most<=50/\2<=width/\width<=120)/\∃B F,e=.returned (.tuple #[.pointer (some ⟨B,0,none⟩),.int .i64 0])/\Zw F (fun k=>w.heap.size<=k/\k<w'.heap.size) w' B (SS.new most width)))
theorem nL(most width:Int)(w:World):Calls Tryz.prog 25 #[.int .i64 most,.int .i64 width] w (QYz most width w):=by
 by_cases hm:most<1\/50<most
 ·have hno:¬(1<=most/\most<=50/\2<=width/\width<=120):=by omega
  have Yr:=QQ hno;clear hno;by_cases h1:most<1
  ·clear hm
   exact QAV
  ·have h2:50<most:=by omega
   clear hm;exact QAV
 ·have h1:¬most<1:=by omega
  have h2:¬50<most:=by omega
  clear hm;by_cases hw:width<2\/120<width
  ·have Yr:=QQ (show¬(1<=most/\most<=50/\2<=width/\width<=120) by omega)
   have HT:=QQ (Bv width w hw);clear hw;go_enter Tryz.func25,Tryz.ntmps25
   go_wp2_with fail
   refine HT.out.mono ?_;rintro e w2 ⟨rfl,hb2⟩;go_wp2;go_ret2
   exact⟨QR.alloc hb2,.inl ⟨Yr.out,rfl⟩⟩
  ·obtain⟨k,rfl⟩:=Qg (show 0<=width by omega)
   have QUT:=QQ (show(1<=most/\most<=50/\2<=(k:Int)/\(k:Int)<=120) by omega);have HT:=QQ (Pg k w (by omega) (by omega));clear hw;go_enter Tryz.func25,Tryz.ntmps25
   go_wp2_with fail
   refine HT.out.mono ?_;rintro e w2 ⟨v,rfl,o2,hb2⟩;obtain⟨a2,n2,c2,rfl⟩:=o2.form;have HO:=QQ o2;have HB2:=QQ hb2;clear o2 hb2;go_wp2;go_ret2
   have hb2:=HB2.out;have hz:=hb2.size;have hb4:Below w.heap.size w ((w2.alloc (.cells #[.slice a2 n2 c2,.int .i64 0] 39)).alloc (.cells (Bt most k (.slice a2 n2 c2)).toArray 112)):=QR.alloc (QR.alloc hb2);have hs:XH (fun k=>w.heap.size<=k/\k<w2.heap.size) w2 (.slice a2 n2 c2) (List.replicate k 32):=HO.out.xB.lt;have hs4:=(hs.below (QC w2 (.cells #[.slice a2 n2 c2,.int .i64 0] 39))).below (QC _ (.cells (Bt most k (.slice a2 n2 c2)).toArray 112));have hB:=QD.new (w2.alloc (.cells #[.slice a2 n2 c2,.int .i64 0] 39)) (Bt most k (.slice a2 n2 c2)).toArray 112;have hsz:(w2.alloc (.cells #[.slice a2 n2 c2,.int .i64 0] 39)).heap.size=w2.heap.size+1:=QJ _ _;have QZ1:((w2.alloc (.cells #[.slice a2 n2 c2,.int .i64 0] 39)).alloc (.cells (Bt most k (.slice a2 n2 c2)).toArray 112)).heap.size=w2.heap.size+1+1:=by rw[QJ,hsz]
   have hfin:QYz most k w (.returned (.tuple #[.pointer (some ⟨(w2.alloc (.cells #[.slice a2 n2 c2,.int .i64 0] 39)).heap.size,0,none⟩),.int .i64 0])) ((w2.alloc (.cells #[.slice a2 n2 c2,.int .i64 0] 39)).alloc (.cells (Bt most k (.slice a2 n2 c2)).toArray 112)):=
    ⟨hb4,.inr ⟨QUT.out,_,(fun k=>w.heap.size<=k/\k<w2.heap.size),rfl,_,oG (fun j hj=>⟨hj.1,by rw[QZ1];omega⟩) (fun j hj=>hj.2) hB (fun e=>by rw[hsz]at e;omega) ⟨by rw[hsz];omega,by rw[QZ1,hsz];omega⟩ (by rw[Qs];exact hs4)⟩⟩
   rw[hsz]at hfin;exact hfin
theorem Vz.QZP{F G:Nat->Prop}{w:World}{B:Nat}{f:Nat->Value}{S:SS}(h:Vz F G w B f S):∀k,Ob w f k->G k:=by
 rintro k (hk|hk|⟨C,hC,hk⟩)
 ·exact(h.Xb k hk).2
 ·exact(h.Ya k hk).2
 ·have hn:=h.now
  cases ho:S.now with
  | none=>
   exact Qvr
  | some p=>
   rw[ho]at hn;obtain⟨C',tv,h1,h2,h3,h4,h5,h6⟩:=hn;rw[hC]at h1;simp only[Value.pointer.injEq,Qv,Xz,and_true]at h1;subst h1;rcases hk with rfl|⟨Pe,h7,h8⟩
   ·exact h3
   ·rw[show w.cell? ⟨C,5,none⟩=some tv from h4.cell 5]at h7
    simp only[Qv]at h7;subst h7;exact(h6 k h8).2.1
theorem HF.other{F G:Nat->Prop}{w w':World}{B:Nat}{f:Nat->Value}{S:SS}(h:HF F G w B f S)(hs:∀k,G k->w'.heap[k]? =w.heap[k]?)(hz:w.heap.size<=w'.heap.size):HF F G w' B f S:=by
 have hF:Same F w w':=fun k hk=>hs k (h.fg k hk)
 refine⟨h.fg,fun k hk=>QG (h.lt k hk) hz,h.d.keep hF.YZ hF.blk (fun _ h=>h),h.m.move (fun _ h=>h) hF.YZ fun k hk=>hs k ?_⟩;rcases hk with rfl|hk
 ·exact h.m.gB
 ·exact h.m.QZP k hk
theorem Ey(w:World)(ty:TypeId)(v:Value)(es:List V2)(base c2:Nat)(a2:Option Addr)(hown:ZB 45 base w v es)(hl:es.length<=4398046511104):
  (Builtin.append_ #[25,25] ty #[v,.slice a2 0 c2]).run Tryz.prog w=.ok v w:=by
 obtain⟨i0,hi,hz0,hz1,hz2⟩:=ZF CE;have hu:=Tryz.underlying25;rcases hown.2 with⟨rfl,h0⟩|⟨g,cap,cur,rfl,hb,hg,hn,hm,hs,ht⟩
 ·cases a2<;>simp[Builtin.append_,XP hu,sizeOf,typeInfo,hi,Builtin.lenOf,Builtin.firstCells,loadCells,loadCellsFrom,storeCells]
 ·cases a2<;>simp[Builtin.append_,XP hu,sizeOf,typeInfo,hi,Builtin.lenOf,Builtin.firstCells,loadCells,loadCellsFrom,storeCells,hn]
theorem QX7{ops:Array Oper}{rest:List Oper}{o:Oper}{a:Act}{Q:Exit->Act->World->Prop}{w:World}(hgd:o.guard=none)(s x:Operand)
  (ho:o.op=.call {callee:=.builtin .append,args:=#[s,x],argTypes:=#[25,25]})
  (base:Nat) (v:Value) (es us:List V2) (ad:Option Addr) (m c:Nat) (hs:a.eval s=v) (hx:a.eval x=.slice ad m c)
  (hown:ZB 45 base w v es) (hy:Zb w ad us) (hok:∀u∈us,V2.ok u) (hm:us.length=m) (h0:ad=none->m=0) (hl:es.length+m<=4398046511104) (hbase:base<=w.heap.size)
  (h:∀v' w',ZB 45 base w' v' (es++us)->w.grownBy w' v.ownBlock->(v'.ownBlock=v.ownBlock\/v'.ownBlock=some w.heap.size)->wpList Tryz.prog ops Q rest (a.put o.dst v') w'):
  wpList Tryz.prog ops Q (o::rest) a w:=by
 rcases Zx m with hz|hz
 ·subst hz
  obtain rfl:us=[]:=QH hm;refine Lib.wpList_append_run w hgd s x _ _ ho v (.slice ad 0 c) hs hx v w (Ey w _ v es base c ad hown (by omega)) ?_;exact h v w (by simpa using hown) ⟨rfl,rfl,rfl,QU _,fun _ _ _=>rfl⟩ (.inl rfl)
 ·rcases ad with _|ad
  ·have:=h0 rfl;omega
  ·exact oV (T:=45) (ST:=25) Tryz.underlying25 CE rfl (by decide) hgd s x ho base v es us ad m c hs hx hown hy hok hm hl hbase hz h
def Strs(w:World)(a:Option Addr)(T:List ByteArray):Prop:=T=[]\/∃b o,a=some ⟨b,o,none⟩/\∀i (h:i<T.length),w.cell? ⟨b,o+i,none⟩=some (.string T[i])
def JC(T:List ByteArray):Nat:=(T.map ByteArray.size).sum
noncomputable def UG(W:World):List ByteArray->SS->List (Int×List Int)->List Int->Option (SS×List (Int×List Int)×List Int)
 | [],S,l,m=>some (S,l,m)
 | b::T,S,l,m=>if(S.feed W b).2=0 then UG W T (S.feed W b).1 (l++(S.feed W b).1.told) (m++(S.feed W b).1.XK)else none
theorem FJ{W:World}{N:Nat}{most:Int}:∀(T:List ByteArray) {used:Nat} {S:SS} {l:List (Int×List Int)} {m:List Int} {S':SS} {l':List (Int×List Int)} {m':List Int},zK N used most S l m->used+JC T<=N->UG W T S l m=some (S',l',m')->zK N (used+JC T) most S' l' m'
 | [],used,S,l,m,S',l',m',h,hN,e=>by
  simp only[UG,Qv,YQ]at e;obtain⟨rfl,rfl,rfl⟩:=e;exact h
 | b::T,used,S,l,m,S',l',m',h,hN,e=>by
  have hs:JC (b::T)=b.size+JC T:=rfl;rw[hs]at hN ⊢;unfold UG at e;by_cases hz:(S.feed W b).2=0
  ·rw[if_pos hz]at e
   have:=FJ T (h.step (W:=W) b (by omega) hz) (by omega) e
   rwa[Nat.add_assoc]at this
  ·rw[if_neg hz]at e;cases e
structure yx (w0 w:World) (B:Nat) (G F:Nat->Prop) (f:Nat->Value) (S:SS) (v1 v2:Value) (l:List (Int×List Int)) (m:List Int):Prop where
 hf:HF F G w B f S
 ev:∃us,ZB 45 w0.heap.size w v1 us/\xk F w us l
 sg:Own 3 w0.heap.size w v2 m
 n1:∀k,v1.ownBlock=some k->¬G k
 n2:∀k,v2.ownBlock=some k->¬G k
 gl:∀k,G k->w0.heap.size<=k
 XW:Below w0.heap.size w0 w
def QVG(W:World)(most width:Int)(T:List ByteArray)(w:World)(e:Ending)(w':World):Prop:=
 Below w.heap.size w w'/\((e=.returned (.tuple #[.pointer none,.slice none 0 0,.slice none 0 0,.bool false])/\((1<=most/\most<=50/\2<=width/\width<=120)->UG W T (SS.new most width) [] []=none))\/
  ((1<=most/\most<=50/\2<=width/\width<=120)/\∃B G F f S v1 v2 l m,UG W T (SS.new most width) [] []=some (S,l,m)/\e=.returned (.tuple #[.pointer (some ⟨B,0,none⟩),v1,v2,.bool true])/\yx w w' B G F f S v1 v2 l m))
theorem xk.ok{F:Nat->Prop}{w:World}{us:List V2}{es:List (Int×List Int)}(h:xk F w us es):∀u∈us,V2.ok u:=fun u hu=>by
 obtain⟨i,hi,e⟩:=Zi.1 hu;obtain⟨h1,h2⟩:=h.2 i (by rw[<-h.1];exact hi);rw[zy hi,e]at h1 h2;obtain⟨a,n,c,h3⟩:=h2.form;exact⟨by rw[h1];rfl,by rw[h3];rfl⟩
theorem xk.append{F:Nat->Prop}{w:World}{us vs:List V2}{es fs:List (Int×List Int)}(h:xk F w us es)(g:xk F w vs fs):xk F w (us++vs) (es++fs):=by
 refine⟨by simp[h.1,g.1],fun i hi=>?_⟩;by_cases hlt:i<es.length
 ·rw[jY (by rw[h.1];exact hlt),List.getElem_append_left hlt]
  exact h.2 i hlt
 ·obtain⟨k,rfl⟩:∃k,i=es.length+k:=⟨i-es.length,by omega⟩
  have h1:WO (us++vs) (es.length+k)=WO vs k:=by rw[<-h.1];exact zx
  rw[h1,List.getElem_append_right (by omega)];simp only[Nat.add_sub_cancel_left];exact g.2 k (by rw[QE]at hi;omega)
theorem Own.blk{e:TypeId}{base:Nat}{w:World}{v:Value}{xs:List Int}(h:Own e base w v xs){k:Nat}(hk:v.ownBlock=some k):∃cur,QD w k cur e:=by
 rcases h.2 with⟨h0,_⟩|⟨g,cap,cur,h0,hb',hgg,rest⟩
 ·rw[h0]at hk;simp[Value.ownBlock]at hk
 ·rw[h0]at hk
  simp only[Value.ownBlock,Qv]at hk;subst hk;exact⟨cur,hgg⟩
theorem yx.feed{w0 w w6:World}{B:Nat}{G F F6:Nat->Prop}{f f6:Nat->Value}{S S6:SS}{v1 v2:Value}{l:List (Int×List Int)}{m:List Int}(h:yx w0 w B G F f S v1 v2 l m)(hA:At F G w F6 w6 B f6 S6):
  yx w0 w6 B (Gx G w w6) F6 f6 S6 v1 v2 l m:=by
 obtain⟨us,h1,h2⟩:=h.ev;have hz:=hA.step.size;have hb:∀k,k<w.heap.size->¬G k->w6.heap[k]? =w.heap[k]?:=hA.step.block;refine⟨hA.hf,⟨us,h1.moved fun k hk=>hb k (h1.lt k hk) (h.n1 k hk),h2.keep hA.same.YZ hA.sub⟩,h.sg.moved fun k hk=>hb k (h.sg.yH k hk) (h.n2 k hk),fun k hk e=>?_,fun k hk e=>?_,fun k hk=>?_,⟨hA.step.os.trans h.XW.os,hA.step.tape.trans h.XW.tape,hA.step.output.trans h.XW.output,QL h.XW.size hz,fun k hk=>?_⟩⟩
 ·rcases e with e|e
  ·exact h.n1 k hk e
  ·have:=h1.lt k hk;omega
 ·rcases e with e|e
  ·exact h.n2 k hk e
  ·have:=h.sg.yH k hk;omega
 ·rcases hk with hk|hk
  ·exact h.gl k hk
  ·have:=h.XW.size;omega
 ·rw[hb k (QG hk h.XW.size) (fun e=>by have:=h.gl k e;omega)]
  exact h.XW.block k hk
theorem yx.evs{w0 w w7:World}{B:Nat}{G F:Nat->Prop}{f:Nat->Value}{S:SS}{v1 v2 v7:Value}{l fs:List (Int×List Int)}{m:List Int}{us vs:List V2}(h:yx w0 w B G F f S v1 v2 l m)(hu:ZB 45 w0.heap.size w v1 us)(hl:xk F w us l)(hf:xk F w vs fs)
  (o:ZB 45 w0.heap.size w7 v7 (us++vs)) (hg:w.grownBy w7 v1.ownBlock) (hat:v7.ownBlock=v1.ownBlock\/v7.ownBlock=some w.heap.size):yx w0 w7 B G F f S v7 v2 (l++fs) m:=by
 have hG:∀k,G k->w7.heap[k]? =w.heap[k]?:=fun k hk=>hg.block k (h.hf.lt k hk) (fun e=>h.n1 k e.symm hk)
 have hF:Same F w w7:=fun k hk=>hG k (h.hf.fg k hk)
 refine⟨h.hf.other hG hg.size,⟨us++vs,o,(hl.append hf).keep hF.YZ (fun _ h=>h)⟩,h.sg.moved fun k hk=>hg.block k (h.sg.yH k hk) (fun e=>?_),fun k hk e=>?_,h.n2,h.gl,h.XW.grown hg h.XW.size fun k hk=>hu.row k hk⟩
 ·obtain⟨cur,hc⟩:=h.sg.blk hk
  exact hu.ZA hc (by decide) e
 ·rcases hat with q|q
  ·rw[q]at hk;exact h.n1 k hk e
  ·rw[q]at hk
   simp only[Qv]at hk;have:=h.hf.lt k e;omega
theorem yx.sgs{w0 w w8:World}{B:Nat}{G F:Nat->Prop}{f:Nat->Value}{S:SS}{v1 v2 v8:Value}{l:List (Int×List Int)}{m ms:List Int}(h:yx w0 w B G F f S v1 v2 l m)
  (o:Own 3 w0.heap.size w8 v8 (m++ms)) (hg:w.grownBy w8 v2.ownBlock) (hat:v8.ownBlock=v2.ownBlock\/v8.ownBlock=some w.heap.size):yx w0 w8 B G F f S v1 v8 l (m++ms):=by
 have hG:∀k,G k->w8.heap[k]? =w.heap[k]?:=fun k hk=>hg.block k (h.hf.lt k hk) (fun e=>h.n2 k e.symm hk)
 have hF:Same F w w8:=fun k hk=>hG k (h.hf.fg k hk)
 obtain⟨us,h1,h2⟩:=h.ev;refine⟨h.hf.other hG hg.size,⟨us,h1.moved fun k hk=>hg.block k (h1.lt k hk) (fun e=>?_),h2.keep hF.YZ (fun _ h=>h)⟩,o,h.n1,fun k hk e=>?_,h.gl,h.XW.grown hg h.XW.size fun k hk=>h.sg.row k hk⟩
 ·obtain⟨cur,hc⟩:=h.sg.blk e.symm
  exact h1.ZA hc (by decide) hk.symm
 ·rcases hat with q|q
  ·rw[q]at hk;exact h.n2 k hk e
  ·rw[q]at hk
   simp only[Qv]at hk;have:=h.hf.lt k e;omega
theorem Mr{T:List ByteArray}{j:Nat}(hj:j<T.length):JC (T.take (j+1))=JC (T.take j)+T[j].size:=by
 unfold JC;rw[Qo hj,List.map_append,List.sum_append,List.map_cons,List.map_nil,List.sum_cons,List.sum_nil,Zp]
theorem dZ{T:List ByteArray}(j:Nat):JC (T.take j)<=JC T:=by
 have:JC T=JC (T.take j)+JC (T.drop j):=by
  unfold JC;rw[<-List.sum_append,<-List.map_append,List.take_append_drop]
 omega
theorem bT(W:World)(most width:Int)(ta:Option Addr)(tn tc N:Nat)(T:List ByteArray)(w:World)(hT:Strs w ta T)(hn:T.length=tn)(hN:JC T<=N)(hNb:N<=1048576)(htn:tn<=1048576):
  Calls Tryz.prog 13 #[.int .i64 most,.int .i64 width,.slice ta tn tc] w (QVG W most width T w):=by
 have HT:=QQ hT;have HN:=QQ hn;have HS:=QQ hN;clear hT hn hN;go_enter Tryz.func13,Tryz.ntmps13
 go_wp2_with fail
 refine(nL most width w).mono ?_;rintro e w2 ⟨hb2,⟨hbad,rfl⟩|⟨hgood,B,F,rfl,f,hH⟩⟩
 ·have HBAD:=QQ hbad;have HB:=QQ hb2
  clear hbad hb2;go_wp2;refine QV (v:=.tuple #[.pointer none,.slice none 0 0,.slice none 0 0,.bool false]) (by simp[results,Tryz.results13,go_sem]) rfl ?_;exact⟨HB.out,.inl ⟨rfl,fun h=>absurd h HBAD.out⟩⟩
 ·have HG:=QQ hgood;have HB:=QQ hb2
  have hR0:yx w w2 B (fun k=>w.heap.size<=k/\k<w2.heap.size) F f (SS.new most width) (.slice none 0 0) (.slice none 0 0) [] []:=
   ⟨hH,⟨[],ZB.nil _ _ _,xk.nil _ _⟩,Xv _ _ _ _,fun k hk=>by simp[Value.ownBlock]at hk,fun k hk=>by simp[Value.ownBlock]at hk,fun k hk=>hk.1,hb2⟩
  have YD:=QQ hR0;clear hgood hb2 hR0 hH;go_wp2
  go_loopw [33,12,13] (fun x y1 y2 wr=>∃(j:Nat) (G F:Nat->Prop) (f:Nat->Value) (S:SS) (l:List (Int×List Int)) (m:List Int),x=.int .i64 (j:Int)/\j<=tn/\yx w wr B G F f S y1 y2 l m/\zK N (JC (T.take j)) most S l m/\UG W T (SS.new most width) [] []=UG W (T.drop j) S l m) (fun x _ _ _=>tn-(intOf x).toNat)
  case atStart=>exact⟨0,_,_,_,_,_,_,rfl,Qe _,YD.out,zK.new HG.out,rfl⟩
  case round=>
   obtain⟨j,G,F,f,S,l,m,rfl,hj,hR,hI,Nr⟩:=hrel;by_cases hlt:j<tn
   ·as_aux_lemma=>
    have hi0:(0:Int)<=(j:Int):=by omega
    have hin:(j:Int)<(tn:Int):=by omega
    have hjt:j<T.length:=by rw[HN.out];exact hlt
    obtain⟨b1,o1,rfl,cv⟩:∃b o,ta=some ⟨b,o,none⟩/\wr.cell? ⟨b,o+j,none⟩=some (.string T[j]):=by
     rcases HT.out with h|⟨b,o,h1,h2⟩
     ·rw[h]at hjt;simp at hjt
     ·exact⟨b,o,h1,Qk hR.XW _ _ (h2 j hjt)⟩
    have hdr:T.drop j=T[j]::T.drop (j+1):=List.drop_eq_getElem_cons hjt;have htk:=Mr hjt;have hle:=dZ (T:=T) (j+1);generalize T[j]=tj at *;obtain⟨K,hI1,hI2,AL,bJ⟩:=hI.inv;have hsn:=HS.out;have HFD:=QQ (Lu W F G B K S tj wr ⟨f,hR.hf⟩ hI1 hI.pend (by omega));obtain⟨us,hu,MZ⟩:=hR.ev;obtain⟨ya,yn,yc,rfl⟩:=hu.form;obtain⟨za,zn,zc,rfl⟩:=hR.sg.form;have HR:=QQ hR;have HI:=QQ hI;have PU:=QQ Nr;have HDR:=QQ hdr;have HTK:=QQ htk;have hle2:JC (T.take j)+tj.size<=N:=by omega
    have Ol:=QQ hle2;clear hR hI Nr hdr htk hle hI1 hI2 AL bJ hsn hu MZ us hle2;go_wp2_with fail
    refine HFD.out.mono ?_;rintro e w6 ⟨F6,f6,UF,⟨hz,rfl⟩|⟨hnz,rfl⟩⟩
    ·have IV:=HR.out.feed UF
     have hI6:=HI.out.step (W:=W) tj Ol.out hz;obtain⟨us,hu,MZ⟩:=IV.ev;obtain⟨vs,hv,hvl⟩:=UF.hf.m.told;have yQ:=UF.hf.m.XK;obtain⟨pa,pn,pc,h56⟩:=hv.form;obtain⟨sa,sn,sc,h57⟩:=yQ.form;rw[h56]at hv;rw[h57]at yQ;rw[h56,h57];obtain⟨p1,p2,p3,p4,p5⟩:=hv.lC.get;obtain⟨s1,s2,s3,s4,s5⟩:=yQ.sl.get;obtain⟨K6,i1,i2,i3,i4⟩:=hI6.inv;have hK6:K6<=N:=by have:=Ol.out;omega
     have hmul:K6*(N+2)<=1048576*1048578:=Nat.mul_le_mul (by omega) (by omega);have hle1:us.length+pn<=4398046511104:=by
      rw[MZ.1,<-p1,hvl.1];rw[QE]at i3;omega
     have hle2:m.length+sn<=17592186044416:=by
      rw[QE,s1]at i4;omega
     have hb6:=IV.XW.size;have S9:UG W T (SS.new most width) [] []=UG W (T.drop (j+1)) (S.feed W tj).1 (l++(S.feed W tj).1.told) (m++(S.feed W tj).1.XK):=by
      rw[PU.out,HDR.out]
      show(if(S.feed W tj).2=0 then _ else _)=_
      rw[if_pos hz]
     rw[<-HTK.out]at hI6;have HR6:=QQ IV;have HI6:=QQ hI6;have HU:=QQ hu;have DN:=QQ MZ;have Oe:=QQ hvl;have HP1:=QQ p1;have HP4:=QQ p4;have HP5:=QQ p5;have DR:=QQ s1;have HS4:=QQ s4;have F8:=QQ s5;have HF6:=QQ S9;have vI:=QQ hle1;have HL2:=QQ hle2;have HVI:=QQ yQ;clear UF IV hI6 hu MZ hv hvl yQ h56 h57 p1 p2 p3 p4 p5 s1 s2 s3 s4 s5 i1 i2 i3 i4 hK6 hmul hle1 hle2 S9 hz;go_wp2_with (first|(at_builtin;refine QX7 rfl _ _ rfl w.heap.size (.slice ya yn yc) us vs pa pn pc rfl rfl HU.out HP4.out Oe.out.ok HP1.out HP5.out vI.out hb6 ?_;intro v7 w7 o7 hg7 QKd;have kF:=HR6.out.evs HU.out DN.out Oe.out o7 hg7 QKd;have HR7:=QQ kF;have qU:=kF.XW.size;have hints:Ints w7 sa (S.feed W tj).1.XK:=(by have kZ:Own 3 0 w7 (.slice sa sn sc) (S.feed W tj).1.XK:=HVI.out.moved (fun k hk=>hg7.block k (HVI.out.yH k hk) (fun e=>by obtain⟨cur,hc⟩:=HVI.out.blk hk;exact HU.out.ZA hc (by decide) e));exact kZ.get.2.1);have HIN:=QQ hints;clear kF hints;obtain⟨a7,n7,c7,rfl⟩:=o7.form)|(at_builtin;refine aZ rfl _ _ rfl w.heap.size (.slice za zn zc) m (S.feed W tj).1.XK sa sn sc rfl rfl HR7.out.sg HIN.out DR.out F8.out HL2.out qU ?_;intro v8 w8 o8 bZ fV;have HR8:=QQ (HR7.out.sgs o8 bZ fV);clear bZ fV;obtain⟨a8,n8,c8,rfl⟩:=o8.form))
     exact⟨⟨j+1,_,_,_,_,_,_,by go_num,by omega,HR8.out,HI6.out,HF6.out⟩,by simp[intOf];omega⟩
    ·have Qzx:((S.feed W tj).2 !=0)=true:=by simpa using hnz
     have IV:=HR.out.feed UF;have S9:UG W T (SS.new most width) [] []=none:=by
      rw[PU.out,HDR.out]
      show(if(S.feed W tj).2=0 then _ else _)=_
      rw[if_neg hnz]
     have aI:=QQ IV.XW;have HF6:=QQ S9;clear UF IV S9 hnz;generalize(S.feed W tj).2=er at *;go_wp2;refine QV (v:=.tuple #[.pointer none,.slice none 0 0,.slice none 0 0,.bool false]) (by simp[results,Tryz.results13,go_sem]) rfl ?_;exact⟨aI.out,.inl ⟨rfl,fun _=>HF6.out⟩⟩
   ·as_aux_lemma=>
    obtain rfl:j=tn:=by omega
    have hdr:T.drop j=[]:=List.drop_eq_nil_of_le (by rw[HN.out];exact QU _);have HR:=QQ hR;have PU:=QQ (show UG W T (SS.new most width) [] []=some (S,l,m) by rw[Nr,hdr];rfl);clear hR hI Nr hdr hlt;obtain⟨us,hu,-⟩:=HR.out.ev;obtain⟨ya,yn,yc,rfl⟩:=hu.form;obtain⟨za,zn,zc,rfl⟩:=HR.out.sg.form;clear hu us;go_wp2;refine QV (v:=.tuple #[.pointer (some ⟨B,0,none⟩),.slice ya yn yc,.slice za zn zc,.bool true]) (by simp[results,Tryz.results13,go_sem]) rfl ?_;exact⟨HR.out.XW,.inr ⟨HG.out,B,G,F,f,S,_,_,l,m,PU.out,rfl,HR.out⟩⟩
def WN:List Value:=[.slice none 0 0,.int .i64 0,.int .i64 0,.int .i64 0,.int .i64 0,.int .i64 0,.int .i64 0,.int .i64 0,.int .i64 0,.int .i64 0]++Q9++[.int .i64 0,.slice none 0 0,.int .i64 0,.bool false,.slice none 0 0,.int .i64 0,.int .i64 0]
theorem Ur:WN.length=44:=rfl
abbrev Xx:Obj:=.cells (ZT WN) 41
theorem uV(w:World):(Instr.alloc 41 true (.tuple #[])).run Tryz.prog w=.ok (.pointer (some ⟨w.heap.size,0,none⟩)) (w.alloc Xx):=by kernel_rfl
theorem WZ:(Tryz.prog.info? 41).map (·.size)=some 44:=by kernel_rfl
def Va(v:Value)(S:SS)(n:Nat)(r:Value):List Value:=[v,.int .i64 S.pos,.int .i64 S.mode,.int .i64 S.part.a,.int .i64 S.part.b,.int .i64 S.part.c,.int .i64 S.part.d,.int .i64 S.part.e,.int .i64 S.fk,.int .i64 S.fa]++Q9++[.int .i64 (n:Int),.slice none 0 0,.int .i64 0,.bool S.over,r,.int .i64 S.rat,.int .i64 S.off]
theorem NN(v:Value)(S:SS)(n:Nat)(r:Value):(Va v S n r).length=44:=rfl
theorem Fq(a:Option Addr)(n c:Nat)(p md x0 x1 x2 x3 x4 fk fa:Int)(l:Int)(ov:Bool)(ra:Option Addr)(rn rc:Nat)(rat off:Int)(w:World):
  (Instr.build 41 #[(0,.agg #[.slice a n c,.int .i64 p]),(1,.int .i64 md),(2,.agg #[.int .i64 x0,.int .i64 x1,.int .i64 x2,.int .i64 x3,.int .i64 x4]),(3,.agg #[.int .i64 fk,.int .i64 fa]),(5,.int .i64 l),(8,.bool ov),(9,.agg #[.slice ra rn rc,.int .i64 rat]),(10,.int .i64 off)]).run Tryz.prog w
   =.ok (.agg (ZT ([.slice a n c,.int .i64 p,.int .i64 md,.int .i64 x0,.int .i64 x1,.int .i64 x2,.int .i64 x3,.int .i64 x4,.int .i64 fk,.int .i64 fa]++Q9++[.int .i64 l,.slice none 0 0,.int .i64 0,.bool ov,.slice ra rn rc,.int .i64 rat,.int .i64 off]))) w:=by kernel_rfl
theorem Ih(a:Option Addr)(n c:Nat)(S:SS)(l:Nat)(ra:Option Addr)(rn rc:Nat)(w:World):
  (Instr.build 41 #[(0,.agg #[.slice a n c,.int .i64 S.pos]),(1,.int .i64 S.mode),(2,.agg #[.int .i64 S.part.a,.int .i64 S.part.b,.int .i64 S.part.c,.int .i64 S.part.d,.int .i64 S.part.e]),(3,.agg #[.int .i64 S.fk,.int .i64 S.fa]),(5,.int .i64 (l:Int)),(8,.bool S.over),(9,.agg #[.slice ra rn rc,.int .i64 S.rat]),(10,.int .i64 S.off)]).run Tryz.prog w
   =.ok (.agg (ZT (Va (.slice a n c) S l (.slice ra rn rc)))) w:=Fq ..
theorem KM{w:World}{R:Nat}(h:w.heap.size=R):ZY (w.alloc Xx) R WN 41:=by subst h;exact ZY.new w WN _
theorem ZY.Bu{w:World}{B:Nat}(h:ZY w B WN 41):w.there B 0 44:=fun j hj=>⟨by rw[Zu,h.cell (by rw[Ur];exact hj)];rfl,h.free _⟩
theorem zP(a:Option Addr)(n c:Nat)(S:SS)(l:Nat)(ra:Option Addr)(rn rc:Nat):∀v∈Va (.slice a n c) S l (.slice ra rn rc),v.oneCell'=true:=fun v hv=>by
 simp[Va,Q9]at hv;rcases hv with h|h|h|h|h|h|h|h|h|h|h|h|h|h|h|h|h|h<;>first|(rw[h];rfl)|(rw[h.2];rfl)
theorem jm{ops:Array Oper}{rest:List Oper}{op:Oper}{a:Act}{w:World}{Q:Exit->Act->World->Prop}{B:Nat}(hB:ZY w B WN 41)(hgd:op.guard=none)(x y:Operand)(ho:op.op=.store 41 x y)
  (hx:a.eval x=.pointer (some ⟨B,0,none⟩)) (us:List Value) (hy:a.eval y=.agg (ZT us)) (hl:us.length=44) (h1:∀v∈us,v.oneCell'=true)
  (h:wpList Tryz.prog ops Q rest (a.put op.dst undef) (w.setCells B 0 us)):wpList Tryz.prog ops Q (op::rest) a w:=by
 refine wpList_store_mid hgd 41 x y ho B 0 (ZT us) hx hy ?_ (by rw[XM,hl];exact WZ) (Xd h1) h;rw[XM,hl];exact hB.Bu
def Ll(S:SS)(v:Value):List Value:=[v,.int .i64 S.pos,.int .i64 S.mode,.int .i64 S.part.a,.int .i64 S.part.b,.int .i64 S.part.c,.int .i64 S.part.d,.int .i64 S.part.e,.int .i64 S.fk,.int .i64 S.fa]
def oh(S:SS)(r lv:Value)(n:Nat)(wh:Int):List Value:=[.int .i64 (n:Int),lv,.int .i64 wh,.bool S.over,r,.int .i64 S.rat,.int .i64 S.off]
def xg(S:SS)(v r lv:Value)(rr:List Value)(n:Nat)(wh:Int):List Value:=Ll S v++rr++oh S r lv n wh
section
variable {S:SS} {v r lv:Value} {rr:List Value} {n:Nat} {wh:Int}
theorem KF(hr:rr.length=27):(xg S v r lv rr n wh).length=44:=by simp[xg,Ll,oh,hr]
theorem eZ(hr:rr.length=27){j:Nat}(hj:j<27)(x:Value):(xg S v r lv rr n wh).set (10+j) x=xg S v r lv (rr.set j x) n wh:=by
 unfold xg;rw[List.set_append,if_pos (by simp[Ll,hr];omega),List.set_append,if_neg (by simp[Ll])];simp[Ll]
theorem og(hr:rr.length=27)(x:Value):(xg S v r lv rr n wh).set 38 x=xg S v r x rr n wh:=by
 unfold xg;rw[List.set_append,if_neg (by simp[Ll,hr])];simp[Ll,oh,hr]
theorem oO(hr:rr.length=27)(x:Int):(xg S v r lv rr n wh).set 39 (.int .i64 x)=xg S v r lv rr n x:=by
 unfold xg;rw[List.set_append,if_neg (by simp[Ll,hr])];simp[Ll,oh,hr]
theorem yI(hr:rr.length=27):vx (xg S v r lv rr n wh) 38=lv:=by
 unfold vx xg;rw[QN,Q6 (by simp[Ll,hr])];simp[Ll,oh,hr]
end
structure DL (S:SS) (w1 wr:World) (R:Nat) (v r lv:Value) (rr vs:List Value) (j1 j2 n:Nat) (wh:Int):Prop where
 lo:w1.heap.size<=R
 blk:ZY wr R (xg S v r lv rr n wh) 41
 t:Own 3 w1.heap.size wr v S.text
 ro:Own 3 w1.heap.size wr r S.row
 lr:rr.length=27
 rg:∀i,i<j1->Own 3 w1.heap.size wr (vx rr i) (rx S.regs i)
 lv:Zk 26 w1.heap.size wr lv vs
 ll:vs.length=j2
 le:∀i,i<j2->Own 3 w1.heap.size wr (vx vs i) (rx S.Qh.ls i)
 XW:Below w1.heap.size w1 wr
section
variable {S:SS} {w1 wr w':World} {R:Nat} {v r lv:Value} {rr vs:List Value} {j1 j2 n:Nat} {wh:Int}
theorem DL.below(h:DL S w1 wr R v r lv rr vs j1 j2 n wh)(hb:Below wr.heap.size wr w'):DL S w1 w' R v r lv rr vs j1 j2 n wh:=
 {h with blk:=h.blk.Xu hb,t:=h.t.kept hb,ro:=h.ro.kept hb,rg:=fun i hi=>(h.rg i hi).kept hb,lv:=h.lv.kept hb,le:=fun i hi=>(h.le i hi).kept hb,XW:=h.XW.trans (hb.mono h.XW.size)}
theorem Own.qE{w:World}{base B i:Nat}{u v:Value}{us:List Value}{xs:List Int}(h:Own 3 base w v xs)(hB:ZY w B us 41):Own 3 base (w.setCell ⟨B,i,none⟩ u) v xs:=h.other (a:=⟨B,i,none⟩) (h.ZA (show QD w B (ZT us) 41 from hB) (by decide)) u
theorem Zk.qE{w:World}{base B i:Nat}{u v:Value}{us vs:List Value}(h:Zk 26 base w v vs)(hB:ZY w B us 41):Zk 26 base (w.setCell ⟨B,i,none⟩ u) v vs:=h.other (a:=⟨B,i,none⟩) (h.ZA (show QD w B (ZT us) 41 from hB) (by decide)) u
theorem DL.reg(h:DL S w1 wr R v r lv rr vs j1 j2 n wh)(hj:j1<27){x:Value}(o:Own 3 w1.heap.size wr x (rx S.regs j1)):
  DL S w1 (wr.setCell ⟨R,10+j1,none⟩ x) R v r lv (rr.set j1 x) vs (j1+1) j2 n wh:=
 {
  lo:=h.lo
  blk:=by rw[<-eZ h.lr hj];exact h.blk.set _ _
  t:=h.t.qE h.blk,ro:=h.ro.qE h.blk,lr:=by rw[Zm];exact h.lr
  rg:=fun i hi=>by
   by_cases e:j1=i
   ·subst e;rw[Z9 (by rw[h.lr];exact hj)];exact o.qE h.blk
   ·rw[Qu e];exact(h.rg i (by omega)).qE h.blk
  lv:=h.lv.qE h.blk,ll:=h.ll,le:=fun i hi=>(h.le i hi).qE h.blk,XW:=h.XW.setCell h.lo _}
theorem Own.ltN{e e':TypeId}{base base':Nat}{w w':World}{v lv:Value}{vs:List Value}{xs:List Int}(h:Own e base w v xs)(hv:Zk e' base' w lv vs)(he:e'≠e)(hg:w.grownBy w' lv.ownBlock):Own e base w' v xs:=by
 refine h.moved fun k hk=>hg.block k (h.yH k hk) fun e2=>?_
 rcases h.2 with⟨h0,_⟩|⟨g,cap,cur,rfl,hb',hgg,rest⟩
 ·rw[h0]at hk;simp[Value.ownBlock]at hk
 ·simp only[Value.ownBlock,Qv]at hk
  subst hk;exact hv.ZA (show QD w g cur _ from hgg) he e2
theorem DL.line(h:DL S w1 wr R v r lv rr vs j1 j2 n wh){x lv':Value}(o:Own 3 w1.heap.size wr x (rx S.Qh.ls j2))(hv:Zk 26 w1.heap.size w' lv' (vs++[x]))(hg:wr.grownBy w' lv.ownBlock):
  DL S w1 (w'.setCell ⟨R,38,none⟩ lv') R v r lv' rr (vs++[x]) j1 (j2+1) n wh:=by
 have hB:ZY w' R (xg S v r lv rr n wh) 41:=h.blk.grown hg (h.lv.ZA h.blk (by decide));have hq:∀{x:Value} {xs:List Int},Own 3 w1.heap.size wr x xs->Own 3 w1.heap.size (w'.setCell ⟨R,38,none⟩ lv') x xs:=fun q=>(q.ltN h.lv (by decide) hg).qE hB
 exact {
  lo:=h.lo
  blk:=by rw[<-og (lv:=lv) h.lr];exact hB.set _ _
  t:=hq h.t,ro:=hq h.ro,lr:=h.lr,rg:=fun i hi=>hq (h.rg i hi)
  lv:=hv.qE hB,ll:=by rw[QE,h.ll];rfl
  le:=fun i hi=>by
   by_cases e:i=j2
   ·subst e
    have:=h.ll;have e2:vx (vs++[x]) i=x:=by unfold vx;rw[QN,Q6 (by omega)];simp[h.ll]
    rw[e2];exact hq o
   ·have e2:vx (vs++[x]) i=vx vs i:=by unfold vx;rw[QN,ZP (by have:=h.ll;omega),QN]
    rw[e2];exact hq (h.le i (by omega))
  XW:=(h.XW.grown hg h.XW.size fun k hk=>h.lv.row k hk).setCell h.lo _}
theorem DL.QZk(h:DL S w1 wr R v r lv rr vs j1 j2 n wh)(x:Int):DL S w1 (wr.setCell ⟨R,39,none⟩ (.int .i64 x)) R v r lv rr vs j1 j2 n x:=
 {h with blk:=by rw[<-oO (wh:=wh) h.lr];exact h.blk.set _ _,t:=h.t.qE h.blk,ro:=h.ro.qE h.blk,rg:=fun i hi=>(h.rg i hi).qE h.blk,lv:=h.lv.qE h.blk,le:=fun i hi=>(h.le i hi).qE h.blk,XW:=h.XW.setCell h.lo _}
end
structure nQ (P:Nat->Prop) (w:World) (S:SS) (v r lv:Value) (rr:List Value):Prop where
 t:XH P w v S.text
 ro:XH P w r S.row
 lr:rr.length=27
 rg:∀i,i<27->XH P w (vx rr i) (rx S.regs i)
 ls:∃vs,Ag P w lv vs/\XE P w vs S.Qh.ls
theorem nQ.keep{P Q:Nat->Prop}{w w':World}{S:SS}{v r lv:Value}{rr:List Value}(h:nQ P w S v r lv rr)(hc:ZZ P w w')(hi:∀k,P k->Q k):nQ Q w' S v r lv rr:=by
 obtain⟨vs,h1,h2⟩:=h.ls;exact⟨(h.t.keep hc).imp hi,(h.ro.keep hc).imp hi,h.lr,fun i hj=>((h.rg i hj).keep hc).imp hi,⟨vs,(h1.keep hc).imp hi,h2.imp fun v xs g=>(g.keep hc).imp hi⟩⟩
theorem DL.fin{S:SS}{w1 wr:World}{R:Nat}{v r lv:Value}{rr vs:List Value}{n:Nat}{wh:Int}(h:DL S w1 wr R v r lv rr vs 27 S.Qh.ls.length n wh):nQ (fun k=>w1.heap.size<=k) wr S v r lv rr:=
 ⟨h.t.xB,h.ro.xB,h.lr,fun i hi=>(h.rg i hi).xB,⟨vs,h.lv.vsp,h.ll,fun i hi=>(h.le i hi).xB⟩⟩
def Dz(S:SS)(w:World)(e:Ending)(w':World):Prop:=∃v r lv rr,e=.returned (.agg (ZT (xg S v r lv rr S.past.length S.Qh.QM)))/\nQ (fun k=>w.heap.size<=k) w' S v r lv rr/\Below w.heap.size w w'
theorem lkQ{S:SS}{w1 w8:World}{v r:Value}{n R:Nat}(hR:ZY w8 R WN 41)(hlo:w1.heap.size<=R)(o5:Own 3 w1.heap.size w8 v S.text)(o8:Own 3 w1.heap.size w8 r S.row)(JR:Below w1.heap.size w1 w8):
  DL S w1 (w8.setCells R 0 (Va v S n r)) R v r (.slice none 0 0) Q9 [] 0 0 n 0:=by
 have h2:=hR.setCells 0 (Va v S n r);rw[UK (by rw[Ur,NN])]at h2;have hk:∀k,k≠R->(w8.setCells R 0 (Va v S n r)).heap[k]? =w8.heap[k]?:=fun k hk=>(Xq _ _ 0).1 k hk
 have hne:∀{x:Value} {xs:List Int},Own 3 w1.heap.size w8 x xs->∀k,x.ownBlock=some k->k≠R:=fun q k e1 e2=>q.ZA hR (by decide) (by rw[e1,e2])
 exact⟨hlo,h2,o5.moved fun k e=>hk k (hne o5 k e),o8.moved fun k e=>hk k (hne o8 k e),rfl,fun i hi=>by omega,Zk.nil _ _ _,rfl,fun i hi=>by omega,below_setCells hlo _ 0 JR⟩
theorem UH{o:Oper}{e:Operand->Value}(x0 x1 x2 x3 x5 x8 x9 PG:Operand)(ho:o.op=.build 41 #[(0,x0),(1,x1),(2,x2),(3,x3),(5,x5),(8,x8),(9,x9),(10,PG)])
  (a0:Option Addr) (n c:Nat) (S:SS) (l:Nat) (ra:Option Addr) (rn rc:Nat) (h0:e x0=.agg #[.slice a0 n c,.int .i64 S.pos]) (h1:e x1=.int .i64 S.mode) (h2:e x2=.agg #[.int .i64 S.part.a,.int .i64 S.part.b,.int .i64 S.part.c,.int .i64 S.part.d,.int .i64 S.part.e]) (h3:e x3=.agg #[.int .i64 S.fk,.int .i64 S.fa])
  (h5:e x5=.int .i64 (l:Int)) (h8:e x8=.bool S.over) (h9:e x9=.agg #[.slice ra rn rc,.int .i64 S.rat]) (h10:e PG=.int .i64 S.off) (w:World):(execOp e o).run Tryz.prog w=.ok (.value (.agg (ZT (Va (.slice a0 n c) S l (.slice ra rn rc))))) w:=by
 have hm:(#[(0,x0),(1,x1),(2,x2),(3,x3),(5,x5),(8,x8),(9,x9),(10,PG)]:Array (Nat×Operand)).map (fun(i,x)=>(i,e x))=#[(0,.agg #[.slice a0 n c,.int .i64 S.pos]),(1,.int .i64 S.mode),(2,.agg #[.int .i64 S.part.a,.int .i64 S.part.b,.int .i64 S.part.c,.int .i64 S.part.d,.int .i64 S.part.e]),(3,.agg #[.int .i64 S.fk,.int .i64 S.fa]),(5,.int .i64 (l:Int)),(8,.bool S.over),(9,.agg #[.slice ra rn rc,.int .i64 S.rat]),(10,.int .i64 S.off)]:=by
  simp[h0,h1,h2,h3,h5,h8,h9,h10]
 unfold execOp;simp only[ho,hm,Sem.run_bind,Ih a0 n c S l ra rn rc w,XT];rfl
theorem Ux{o:Oper}{a:Act}{w:World}{K:Act->World->Prop}{Q:Exit->Act->World->Prop}(ho:o.op=.alloc 41)(h:K (a.put o.dst (.pointer (some ⟨w.heap.size,0,none⟩))) (w.alloc Xx)):o.wp Tryz.prog a w K Q:=by
 unfold Oper.wp execOp;simp only[ho,Sem.run_bind,uV,XT];exact h
theorem Uz{o:Oper}{a:Act}{w:World}{K:Act->World->Prop}{Q:Exit->Act->World->Prop}(x y:Operand)(ho:o.op=.store 41 x y)
  (B:Nat) (hx:a.eval x=.pointer (some ⟨B,0,none⟩)) (us:List Value) (hy:a.eval y=.agg (ZT us)) (ht:w.there B 0 44) (hl2:us.length=44) (h1:∀v∈us,v.oneCell'=true)
  (h:K (a.put o.dst undef) (w.setCells B 0 us)):o.wp Tryz.prog a w K Q:=
 wp_store_mid 41 x y ho B 0 (ZT us) hx hy (by rw[XM,hl2];exact ht) (by rw[XM,hl2];exact WZ) (Xd h1) h
theorem jL(vs:List Value)(hx:vs.length=27)(k:Nat)(hk:k<27)(w:World):
  (Instr.index 36 (.agg (ZT vs)) (.int .i64 (k:Int))).run Tryz.prog w=.ok (vx vs k) w:=by
 obtain⟨i0,hi0,hz0,hz1,hz2⟩:=ZF qb;have hagg:∀w,(isAgg 26).run Tryz.prog w=.ok false w:=by
  intro w;unfold isAgg;rw[Sem.run_bind,XP Tryz.underlying26 w];simp[go_sem]
 have hl:k<vs.length:=by omega
 simp[Instr.index,ZT,XP Yb,asIntOf,sizeOf,typeInfo,hi0,hz1,go_sem,hagg,Qr hl,UQ hl];omega
theorem Rx{ops:Array Oper}{rest:List Oper}{op:Oper}{a:Act}{w:World}{Q:Exit->Act->World->Prop}(hgd:op.guard=none)(x:Operand)(ho:op.op=.load 36 x)
  (B o:Nat) (hx:a.eval x=.pointer (some ⟨B,o,none⟩)) (vs:List Value) (hB:w.rangeAt B o vs) (hl:vs.length=27)
  (h:wpList Tryz.prog ops Q rest (a.put op.dst (.agg (ZT vs))) w):wpList Tryz.prog ops Q (op::rest) a w:=
 wpList_load_mid hgd 36 x ho B o hx vs _ hB Yb rfl (by rw[hl];exact YU) h
theorem D7:(Tryz.prog.underlying 41).map TypeDesc.isRow=some true:=by kernel_rfl
theorem jU:∃d,Tryz.prog.underlying 41=some d/\d.isRow=true:=by
 have h:=D7;cases hu:Tryz.prog.underlying 41 with
 | none=>rw[hu]at h;cases h
 | some d=>rw[hu]at h;exact⟨d,rfl,by simpa using h⟩
theorem NM{ops:Array Oper}{rest:List Oper}{op:Oper}{a:Act}{w:World}{Q:Exit->Act->World->Prop}(hgd:op.guard=none)(x:Operand)(ho:op.op=.load 41 x)
  (B:Nat) (hx:a.eval x=.pointer (some ⟨B,0,none⟩)) (vs:List Value) (e:TypeId) (hB:ZY w B vs e) (hl:vs.length=44)
  (h:wpList Tryz.prog ops Q rest (a.put op.dst (.agg (ZT vs))) w):wpList Tryz.prog ops Q (op::rest) a w:=by
 obtain⟨d,hu,hd⟩:=jU;exact wpList_load_mid hgd 41 x ho B 0 hx vs d (VS hB) hu hd (by rw[hl];exact WZ) h
theorem CX{w:World}{B:Nat}{vs:List Value}{e:TypeId}(hB:ZY w B vs e)(hl:vs.length=44):(loadVar 41 ⟨B,0,none⟩).run Tryz.prog w=.ok (.agg (ZT vs)) w:=by
 obtain⟨d,hu,hd⟩:=jU;exact run_loadVar_mid w B 0 41 vs d (VS hB) hu hd (by rw[hl];exact WZ)
theorem eX{S:SS}{v r lv:Value}{rr:List Value}{n:Nat}{wh:Int}(h1:v.oneCell'=true)(h2:r.oneCell'=true)(h3:lv.oneCell'=true)(h4:∀x∈rr,x.oneCell'=true):∀x∈xg S v r lv rr n wh,x.oneCell'=true:=fun x hx=>by
 unfold xg at hx;simp only[Zz]at hx;rcases hx with(hx|hx)|hx
 ·simp only[Ll,QB,Qj,or_false]at hx
  rcases hx with h|h|h|h|h|h|h|h|h|h<;>(rw[h];first|rfl|assumption)
 ·exact h4 x hx
 ·simp only[oh,QB,Qj,or_false]at hx
  rcases hx with h|h|h|h|h|h|h<;>(rw[h];first|rfl|assumption)
theorem nQ.one{P:Nat->Prop}{w:World}{S:SS}{v r lv:Value}{rr:List Value}{n:Nat}{wh:Int}(h:nQ P w S v r lv rr):∀x∈xg S v r lv rr n wh,x.oneCell'=true:=by
 obtain⟨vs,⟨a,k,c,e,-⟩,-⟩:=h.ls;refine eX h.t.one h.ro.one (by rw[e];rfl) fun x hx=>?_
 obtain⟨i,hi,e⟩:=Zi.1 hx;rw[<-e,<-UQ hi];exact(h.rg i (by rw[<-h.lr];exact hi)).one
theorem Sr{h:Hi}(he:qK h=0):h.ls.length<=50/\∀i,i<h.ls.length->(rx h.ls i).length<=200:=by
 unfold qK at he;by_cases h1:h.most<1\/50<h.most\/h.most<h.ls.length\/h.QM<0\/(h.ls.length:Int)<h.QM
 ·rw[if_pos h1]at he;cases he
 ·rw[if_neg h1]at he
  refine⟨by omega,fun i hi=>?_⟩;by_cases h2:(h.ls.any JU || JU h.Qm || JU h.pat)=true
  ·rw[if_pos h2]at he;cases he
  ·have h3:¬JU (rx h.ls i)=true:=fun e=>h2 (by
    have:h.ls.any JU=true:=List.any_eq_true.2 ⟨_,Gn hi,e⟩;rw[this];rfl)
   simpa[JU]using h3
abbrev LkS(B:Nat)(S:SS)(pv rv:Value)(w':World):Prop:=
 w'.cell? ⟨B,2,none⟩=some (.int .i64 S.mode)/\w'.cell? ⟨B,30,none⟩=some (.int .i64 S.fk)/\w'.cell? ⟨B,31,none⟩=some (.int .i64 S.fa)/\w'.cell? ⟨B,32,none⟩=some (.int .i64 S.part.a)/\w'.cell? ⟨B,33,none⟩=some (.int .i64 S.part.b)/\w'.cell? ⟨B,34,none⟩=some (.int .i64 S.part.c)/\w'.cell? ⟨B,35,none⟩=some (.int .i64 S.part.d)/\w'.cell? ⟨B,36,none⟩=some (.int .i64 S.part.e)/\w'.cell? ⟨B,43,none⟩=some pv/\w'.cell? ⟨B,51,none⟩=some (.int .i64 S.off)/\w'.cell? ⟨B,53,none⟩=some rv/\w'.cell? ⟨B,54,none⟩=some (.int .i64 S.rat)/\w'.cell? ⟨B,55,none⟩=some (.bool S.over)
theorem Vb{B:Nat}{S:SS}{pv rv:Value}{w1 wb:World}(hB:B<w1.heap.size)(h:LkS B S pv rv w1.drew)(hb:Below w1.heap.size w1 wb):LkS B S pv rv wb:=by
 obtain⟨h1,h2,h3,h4,h5,h6,h7,h8,h9,h10,h11,h12,PZ⟩:=h;exact⟨by rw[hb.cell hB];exact h1,by rw[hb.cell hB];exact h2,by rw[hb.cell hB];exact h3,by rw[hb.cell hB];exact h4,by rw[hb.cell hB];exact h5,by rw[hb.cell hB];exact h6,by rw[hb.cell hB];exact h7,by rw[hb.cell hB];exact h8,by rw[hb.cell hB];exact h9,by rw[hb.cell hB];exact h10,by rw[hb.cell hB];exact h11,by rw[hb.cell hB];exact h12,by rw[hb.cell hB];exact PZ⟩
theorem bM(F G:Nat->Prop)(B K:Nat)(S:SS)(w:World)(h:Zw F G w B S)(hI:Qt K S)(hw:S.row.length<=4096):
  Calls Tryz.prog 14 #[.pointer (some ⟨B,0,none⟩)] w (Dz S w):=by
 obtain⟨f,hf⟩:=h;have hb1:=QC w Xx;have hZ1:=KM (w:=w) rfl;have hA1:=(At.begin hf).Xw hb1;have hBl:=hf.yH;have HI:=QQ hI;clear hI hf;go_enter Tryz.func14,Tryz.ntmps14
 go_upto_region 1 with fail
 have hz1:(w.alloc Xx).heap.size=w.heap.size+1:=QJ _ _;obtain⟨w1,hW1⟩:∃w1,(w.alloc (.cells #[.slice none 0 0,.int .i64 0,.int .i64 0,.int .i64 0,.int .i64 0,.int .i64 0,.int .i64 0,.int .i64 0,.int .i64 0,.int .i64 0,.slice none 0 0,.slice none 0 0,.slice none 0 0,.slice none 0 0,.slice none 0 0,.slice none 0 0,.slice none 0 0,.slice none 0 0,.slice none 0 0,.slice none 0 0,.slice none 0 0,.slice none 0 0,.slice none 0 0,.slice none 0 0,.slice none 0 0,.slice none 0 0,.slice none 0 0,.slice none 0 0,.slice none 0 0,.slice none 0 0,.slice none 0 0,.slice none 0 0,.slice none 0 0,.slice none 0 0,.slice none 0 0,.slice none 0 0,.slice none 0 0,.int .i64 0,.slice none 0 0,.int .i64 0,.bool false,.slice none 0 0,.int .i64 0,.int .i64 0] 41))=w1:=⟨_,rfl⟩;have hW2:w.alloc Xx=w1:=hW1;rw[hW1];rw[hW2]at hb1 hZ1 hA1 hz1;have HW1:=QQ hW1;have HZ1:=QQ hz1;clear hW1 hW2 hz1;have hdr:w1.drew.heap.size=w1.heap.size:=rfl;have hB1:B<w1.heap.size:=hA1.hf.yH;obtain⟨us,hps,hsn⟩:=hA1.hf.d.past.get;have kQ:=hps;obtain⟨a43,n43,k43,e43,-⟩:=hps;rw[e43]at kQ;have hn43:n43=S.past.length:=kQ.get.1.symm.trans hsn.1;obtain⟨a53,n53,k53,e53⟩:∃a n k,f 53=.slice a n k:=by obtain⟨a,n,k,e,-⟩:=hA1.hf.d.row.sl;exact⟨a,n,k,e⟩
 have hrow:=hA1.hf.d.row;rw[e53]at hrow;have c2:=hA1.hf.cell 2;have Jl:=hA1.hf.cell 30;have c31:=hA1.hf.cell 31;have c32:=hA1.hf.cell 32;have JA:=hA1.hf.cell 33;have c34:=hA1.hf.cell 34;have qW:=hA1.hf.cell 35;have mM:=hA1.hf.cell 36;have mI:=hA1.hf.cell 43;have c51:=hA1.hf.cell 51;have c53:=hA1.hf.cell 53;have mH:=hA1.hf.cell 54;have mG:=hA1.hf.cell 55;rw[hA1.hf.d.mode]at c2;rw[hA1.hf.d.fk]at Jl;rw[hA1.hf.d.fa]at c31;rw[hA1.hf.d.p0]at c32;rw[hA1.hf.d.p1]at JA;rw[hA1.hf.d.p2]at c34;rw[hA1.hf.d.p3]at qW;rw[hA1.hf.d.p4]at mM;rw[e43]at mI;rw[hA1.hf.d.off]at c51;rw[e53]at c53;rw[hA1.hf.d.rat]at mH;rw[hA1.hf.d.over]at mG;have HA1:=QQ hA1;have HRW:=QQ hrow;have yV:=QQ (fun(w':World) (hb:Below w1.heap.size w1 w')=>A9 _ _ B S w' ⟨f,(HA1.out.Xw hb).hf⟩ (by have:=HI.out.tl;omega));have nY:=QQ (fun(w':World) (hb:Below w1.heap.size w1 w')=>Ql a53 n53 k53 S.row w' (hrow.get.2.2.2.1.below hb) hrow.get.1 (by have:=hrow.get.1;omega) hrow.get.2.2.2.2);have HN:=QQ hn43;clear hA1 hrow hsn kQ e43 e53 hn43;have hal:=uV;have hS1:LkS B S (.slice a43 n43 k43) (.slice a53 n53 k53) w1.drew:=⟨c2,Jl,c31,c32,JA,c34,qW,mM,mI,c51,c53,mH,mG⟩
 go_cut [3] (fun v3 wx=>∃R v r,v3=.pointer (some ⟨R,0,none⟩)/\DL S w1 wx R v r (.slice none 0 0) Q9 [] 0 0 n43 0)
 case first=>
  refine wp_region_held_drew (S:=(fun w'=>w'.cell? ⟨B,2,none⟩=some (.int .i64 S.mode)/\w'.cell? ⟨B,30,none⟩=some (.int .i64 S.fk)/\w'.cell? ⟨B,31,none⟩=some (.int .i64 S.fa)/\w'.cell? ⟨B,32,none⟩=some (.int .i64 S.part.a)/\w'.cell? ⟨B,33,none⟩=some (.int .i64 S.part.b)/\w'.cell? ⟨B,34,none⟩=some (.int .i64 S.part.c)/\w'.cell? ⟨B,35,none⟩=some (.int .i64 S.part.d)/\w'.cell? ⟨B,36,none⟩=some (.int .i64 S.part.e)/\w'.cell? ⟨B,43,none⟩=some (.slice a43 n43 k43)/\w'.cell? ⟨B,51,none⟩=some (.int .i64 S.off)/\w'.cell? ⟨B,53,none⟩=some (.slice a53 n53 k53)/\w'.cell? ⟨B,54,none⟩=some (.int .i64 S.rat)/\w'.cell? ⟨B,55,none⟩=some (.bool S.over))) (by kernel_rfl) hS1 ?_;intro hSd;refine QF 0 ⟨some 8,.move (.tmp 0),_,_,_,_⟩ ((.pointer (some ⟨B,0,none⟩))) ?_;simp only[Act.put,QZ,QX,QY];refine QF 2 ⟨some 10,.move (.tmp 0),_,_,_,_⟩ ((.pointer (some ⟨B,0,none⟩))) ?_;simp only[Act.put,QZ,QX,QY];refine QF 3 ⟨some 11,.nilCheck (.tmp 10),_,_,_,_⟩ ((.pointer (some ⟨B,0,none⟩))) ?_;simp only[Act.put,QZ,QX,QY];refine QF 4 ⟨some 12,.fieldAddr _ (.tmp 11) 1,_,_,_,_⟩ ((.pointer (some ⟨B,2,none⟩))) ?_;simp only[Act.put,QZ,QX,QY];refine QF 5 ⟨some 13,.load _ (.tmp 12),_,_,_,_⟩ ((.int .i64 S.mode)) ?_;simp only[Act.put,QZ,QX,QY];refine QF 6 ⟨some 14,.move (.tmp 0),_,_,_,_⟩ ((.pointer (some ⟨B,0,none⟩))) ?_;simp only[Act.put,QZ,QX,QY];refine QF 7 ⟨some 15,.nilCheck (.tmp 14),_,_,_,_⟩ ((.pointer (some ⟨B,0,none⟩))) ?_;simp only[Act.put,QZ,QX,QY];refine QF 8 ⟨some 16,.fieldAddr _ (.tmp 15) 4,_,_,_,_⟩ ((.pointer (some ⟨B,32,none⟩))) ?_;simp only[Act.put,QZ,QX,QY];refine QF 9 ⟨some 17,.load _ (.tmp 16),_,_,_,_⟩ ((.agg #[.int .i64 S.part.a,.int .i64 S.part.b,.int .i64 S.part.c,.int .i64 S.part.d,.int .i64 S.part.e])) ?_;simp only[Act.put,QZ,QX,QY];refine QF 10 ⟨some 18,.move (.tmp 0),_,_,_,_⟩ ((.pointer (some ⟨B,0,none⟩))) ?_;simp only[Act.put,QZ,QX,QY];refine QF 11 ⟨some 19,.nilCheck (.tmp 18),_,_,_,_⟩ ((.pointer (some ⟨B,0,none⟩))) ?_;simp only[Act.put,QZ,QX,QY];refine QF 12 ⟨some 20,.fieldAddr _ (.tmp 19) 3,_,_,_,_⟩ ((.pointer (some ⟨B,30,none⟩))) ?_;simp only[Act.put,QZ,QX,QY];refine QF 13 ⟨some 21,.load _ (.tmp 20),_,_,_,_⟩ ((.agg #[.int .i64 S.fk,.int .i64 S.fa])) ?_;simp only[Act.put,QZ,QX,QY];refine QF 14 ⟨some 22,.move (.tmp 0),_,_,_,_⟩ ((.pointer (some ⟨B,0,none⟩))) ?_;simp only[Act.put,QZ,QX,QY];refine QF 15 ⟨some 23,.nilCheck (.tmp 22),_,_,_,_⟩ ((.pointer (some ⟨B,0,none⟩))) ?_;simp only[Act.put,QZ,QX,QY];refine QF 16 ⟨some 24,.fieldAddr _ (.tmp 23) 6,_,_,_,_⟩ ((.pointer (some ⟨B,43,none⟩))) ?_;simp only[Act.put,QZ,QX,QY];refine QF 17 ⟨some 25,.fieldAddr _ (.tmp 24) 0,_,_,_,_⟩ ((.pointer (some ⟨B,43,none⟩))) ?_;simp only[Act.put,QZ,QX,QY];refine QF 18 ⟨some 26,.load _ (.tmp 25),_,_,_,_⟩ ((.slice a43 n43 k43)) ?_;simp only[Act.put,QZ,QX,QY];refine QF 19 ⟨some 27,_,_,_,_,_⟩ ((.int .i64 (n43:Int))) ?_;simp only[Act.put,QZ,QX,QY];refine QF 20 ⟨some 28,.move (.tmp 0),_,_,_,_⟩ ((.pointer (some ⟨B,0,none⟩))) ?_;simp only[Act.put,QZ,QX,QY];refine QF 21 ⟨some 29,.nilCheck (.tmp 28),_,_,_,_⟩ ((.pointer (some ⟨B,0,none⟩))) ?_;simp only[Act.put,QZ,QX,QY];refine QF 22 ⟨some 30,.fieldAddr _ (.tmp 29) 16,_,_,_,_⟩ ((.pointer (some ⟨B,55,none⟩))) ?_;simp only[Act.put,QZ,QX,QY];refine QF 23 ⟨some 31,.load _ (.tmp 30),_,_,_,_⟩ ((.bool S.over)) ?_;simp only[Act.put,QZ,QX,QY];refine QF 24 ⟨some 32,.move (.tmp 0),_,_,_,_⟩ ((.pointer (some ⟨B,0,none⟩))) ?_;simp only[Act.put,QZ,QX,QY];refine QF 25 ⟨some 33,.nilCheck (.tmp 32),_,_,_,_⟩ ((.pointer (some ⟨B,0,none⟩))) ?_;simp only[Act.put,QZ,QX,QY];refine QF 26 ⟨some 34,.fieldAddr _ (.tmp 33) 15,_,_,_,_⟩ ((.pointer (some ⟨B,53,none⟩))) ?_;simp only[Act.put,QZ,QX,QY];refine QF 27 ⟨some 35,.fieldAddr _ (.tmp 34) 0,_,_,_,_⟩ ((.pointer (some ⟨B,53,none⟩))) ?_;simp only[Act.put,QZ,QX,QY];refine QF 28 ⟨some 36,.load _ (.tmp 35),_,_,_,_⟩ ((.slice a53 n53 k53)) ?_;simp only[Act.put,QZ,QX,QY];refine QF 30 ⟨some 38,.move (.tmp 0),_,_,_,_⟩ ((.pointer (some ⟨B,0,none⟩))) ?_;simp only[Act.put,QZ,QX,QY];refine QF 31 ⟨some 39,.nilCheck (.tmp 38),_,_,_,_⟩ ((.pointer (some ⟨B,0,none⟩))) ?_
  simp only[Act.put,QZ,QX,QY];refine QF 32 ⟨some 40,.fieldAddr _ (.tmp 39) 15,_,_,_,_⟩ ((.pointer (some ⟨B,53,none⟩))) ?_;simp only[Act.put,QZ,QX,QY];refine QF 33 ⟨some 41,.fieldAddr _ (.tmp 40) 1,_,_,_,_⟩ ((.pointer (some ⟨B,54,none⟩))) ?_;simp only[Act.put,QZ,QX,QY];refine QF 34 ⟨some 42,.load _ (.tmp 41),_,_,_,_⟩ ((.int .i64 S.rat)) ?_;simp only[Act.put,QZ,QX,QY];refine QF 36 ⟨some 44,.move (.tmp 0),_,_,_,_⟩ ((.pointer (some ⟨B,0,none⟩))) ?_;simp only[Act.put,QZ,QX,QY];refine QF 37 ⟨some 45,.nilCheck (.tmp 44),_,_,_,_⟩ ((.pointer (some ⟨B,0,none⟩))) ?_;simp only[Act.put,QZ,QX,QY];refine QF 38 ⟨some 46,.fieldAddr _ (.tmp 45) 13,_,_,_,_⟩ ((.pointer (some ⟨B,51,none⟩))) ?_;simp only[Act.put,QZ,QX,QY];refine QF 39 ⟨some 47,.load _ (.tmp 46),_,_,_,_⟩ ((.int .i64 S.off)) ?_;simp only[Act.put,QZ,QX,QY];have Jt:Below w1.heap.size w1 w1.drew:=(Qx _ _).drew;refine QO (rs:=[1,41]) (by kernel_rfl) (by simp) ?_;refine QA (o:=⟨some 9,_,_,_,_,_⟩) rfl (fun K hK=>?_) ?_
  ·
   go_simp;refine(yV.out _ Jt).mono ?_;rintro e w5 ⟨v5,rfl,o5,hb5⟩;obtain⟨a5,n5,k5,rfl⟩:=o5.form;have Fb:=o5.mono Jt.size;replace Jt:=Jt.trans (hb5.mono Jt.size);dsimp only;refine hK.out _ _ (Vb hB1 hS1 Jt) (fun hHeld=>?_);clear hK K;refine QO (rs:=[29,41]) (by kernel_rfl) (by simp) ?_;refine QA (o:=⟨some 37,_,_,_,_,_⟩) rfl (fun K hK=>?_) ?_
   ·
    go_simp;refine(nY.out _ Jt).mono ?_;rintro e w8 ⟨v8,rfl,o8,ZU⟩;obtain⟨a8,n8,k8,rfl⟩:=o8.form;have lG:=o8.mono Jt.size;replace Fb:=Fb.kept ZU;replace Jt:=Jt.trans (ZU.mono Jt.size);dsimp only;refine hK.out _ _ (Vb hB1 hS1 Jt) (fun hHeld=>?_);clear hK K;refine QF 35 ⟨some 43,_,_,_,_,_⟩ ((.agg #[.slice a8 n8 k8,.int .i64 S.rat])) ?_;simp only[Act.put,QZ,QX,QY];obtain⟨rs,hrs⟩:∃rs,rs=Va (.slice a5 n5 k5) S n43 (.slice a8 n8 k8):=⟨_,rfl⟩;have DT:=QQ hrs;clear hrs;refine wpAnyH_take (i:=40) (oi:=⟨some 48,_,_,_,_,_⟩) (v:=(.agg (ZT rs))) rfl (by kernel_rfl) (by kernel_rfl) (by kernel_rfl) (fun _ _ _ h=>h) (Or.inl ⟨by rfl,fun w hSw=>by rw[DT.out];exact UH _ _ _ _ _ _ _ _ rfl a5 n5 k5 S n43 a8 n8 k8 rfl rfl rfl rfl rfl rfl rfl rfl w⟩) (by assumption) ?_;simp only[Act.put,QZ,QX,QY];refine QO (rs:=[41]) (by kernel_rfl) (by simp) ?_;refine QA (o:=⟨some 3,_,_,_,_,_⟩) rfl (fun K hK=>?_) QI;rw[if_pos (by rfl)];refine Ux rfl ?_;have Ci:=KM (w:=w8) rfl;have kE:=Jt.size;replace Fb:=Fb.kept (QC w8 Xx);replace lG:=lG.kept (QC w8 Xx);replace Jt:=Jt.trans ((QC w8 Xx).mono Jt.size);obtain⟨wa,xw⟩:∃wa,wa=w8.alloc Xx:=⟨_,rfl⟩;obtain⟨R,hRR⟩:∃R,R=w8.heap.size:=⟨_,rfl⟩;rw[<-xw,<-hRR]at Ci;rw[<-hRR]at kE;rw[<-xw]at Jt;rw[<-xw]at Fb;rw[<-xw]at lG;rw[<-xw,<-hRR];clear xw hRR;simp only[Act.put,QZ,QX,QY];refine hK.out _ _ (Vb hB1 hS1 Jt) (fun hHeld=>?_);clear hK K;refine QO (rs:=[42]) (by kernel_rfl) (by simp) ?_;refine QA (o:=⟨none,_,_,_,_,_⟩) rfl (fun K hK=>?_) QI;rw[if_pos (by rfl)];refine Uz _ _ rfl R rfl rs rfl Ci.Bu (by rw[DT.out];rfl) (by rw[DT.out];exact zP _ _ _ _ _ _ _ _) ?_;simp only[Act.put,QZ,QX,QY];refine hK.out _ _ (Vb hB1 hS1 (below_setCells kE _ 0 Jt)) (fun hHeld=>?_);clear hK K;refine XO (by kernel_rfl) ?_ _;go_wp2;go_meet;exact⟨_,_,_,rfl,by rw[DT.out];exact lkQ Ci kE Fb lG Jt⟩
   refine QA (o:=⟨some 3,_,_,_,_,_⟩) rfl (fun K hK=>?_) QI;rw[if_pos (by rfl)];refine Ux rfl ?_;have Ci:=KM (w:=w5) rfl;have kE:=Jt.size;replace Fb:=Fb.kept (QC w5 Xx);replace Jt:=Jt.trans ((QC w5 Xx).mono Jt.size);obtain⟨wa,xw⟩:∃wa,wa=w5.alloc Xx:=⟨_,rfl⟩;obtain⟨R,hRR⟩:∃R,R=w5.heap.size:=⟨_,rfl⟩;rw[<-xw,<-hRR]at Ci;rw[<-hRR]at kE;rw[<-xw]at Jt;rw[<-xw]at Fb;rw[<-xw,<-hRR];clear xw hRR;simp only[Act.put,QZ,QX,QY];exact Qke
  refine QA (o:=⟨some 3,_,_,_,_,_⟩) rfl (fun K hK=>?_) QI;rw[if_pos (by rfl)];refine Ux rfl ?_;have Ci:=KM (w:=w1.drew) rfl;have kE:=Jt.size;replace Jt:=Jt.trans ((QC w1.drew Xx).mono Jt.size);obtain⟨wa,xw⟩:∃wa,wa=w1.drew.alloc Xx:=⟨_,rfl⟩;obtain⟨R,hRR⟩:∃R,R=w1.drew.heap.size:=⟨_,rfl⟩;rw[<-xw,<-hRR]at Ci;rw[<-hRR]at kE;rw[<-xw]at Jt;rw[<-xw,<-hRR];clear xw hRR;simp only[Act.put,QZ,QX,QY];refine hK.out _ _ (Vb hB1 hS1 Jt) (fun hHeld=>?_);clear hK K;refine QO (rs:=[1]) (by kernel_rfl) (by simp) ?_;refine QA (o:=⟨some 9,_,_,_,_,_⟩) rfl (fun K hK=>?_) QI;go_simp;refine(yV.out _ Jt).mono ?_;rintro e w5 ⟨v5,rfl,o5,hb5⟩;obtain⟨a5,n5,k5,rfl⟩:=o5.form;have Fb:=o5.mono Jt.size;replace Ci:=Ci.Xu hb5;replace Jt:=Jt.trans (hb5.mono Jt.size);dsimp only;exact Qke
 obtain⟨R,v,r,rfl,hM0⟩:=hcut;clear c2 Jl c31 c32 JA c34 qW mM mI c51 c53 mH mG hS1 hal;have tV:=HA1.out.hf.cell 37;have tK:=HA1.out.hf.cell 39;rw[HA1.out.hf.d.AA]at tK;obtain⟨hv,QKM,rJ⟩:=HA1.out.hf.d.Qh.ls;obtain⟨a37,n37,k37,e37,rY,-,-,lS,-,-⟩:=QKM;rw[e37]at tV;have hll:S.Qh.ls.length=n37:=by rw[<-rJ.1];exact rY
 obtain⟨QKu,l7⟩:=Sr HI.out.hi;have HVV:=QQ lS;have QYN:=QQ rY;have Dy:=QQ rJ.lists;have Kt:=QQ hll;have HQ:=QQ l7;have rX:n37<=50:=by omega
 clear lS rY rJ hll e37 QKu l7;obtain⟨gv,hgv⟩:∃gv,gv=O5 f:=⟨_,rfl⟩;have hgl:gv.length=27:=by rw[hgv];rfl
 have HGR:=QQ (fun(w':World) (hb:Below w1.heap.size w1 w')=>(show∀i,i<27->Sl w' (vx gv i) (rx S.regs i)from fun i hi=>by rw[hgv];exact((HA1.out.Xw hb).hf.d.regs.2 i (by rw[HI.out.rl];exact hi)).sl));have hrg:=(HA1.out.Xw hM0.XW).hf.range;rw[<-hgv]at hrg;have HGL:=QQ hgl;have HM0:=QQ hM0;have QVj:=QQ tK;clear hM0 hgv hgl tK;go_wp2_with ((with_reducible show wpList _ _ _ (⟨_,Op.load 36 _,_,_,_,_⟩::_) _ _);refine Rx rfl _ rfl B 3 rfl gv hrg HGL.out ?_)
 clear hrg
 go_loopw [53] (fun i wr=>∃(j:Nat) (rr:List Value),i=.int .i64 (j:Int)/\j<=27/\DL S w1 wr R v r (.slice none 0 0) rr [] j 0 n43 0) (fun i _=>27-(intOf i).toNat)
 case atStart=>exact⟨0,Q9,rfl,Qe _,HM0.out⟩
 case round=>
  obtain⟨j,rr,rfl,hj,hM⟩:=hrel;by_cases hlt:j<27
  ·as_aux_lemma=>
   obtain⟨aj,nj,cj,eP,hl,-,-,hi,h0⟩:=(HGR.out _ hM.XW) j hlt;have hix:=fun w=>jL gv HGL.out j hlt w
   simp only[eP]at hix;have hsm:(rx S.regs j).length<=200:=HI.out.rs j hlt;have CLJ:=QQ (Ql aj nj cj (rx S.regs j) wr hi hl (by omega) h0);have H2:=QQ hM;have i0:(0:Int)<=(j:Int):=by omega
   have i1:(j:Int)<27:=by omega
   clear hi hl h0 hsm hM eP;go_wp2_with (go_at_call 43;go_loud (refine(CLJ.out).mono ?_;rintro e Lx ⟨v10,rfl,ai,Jj⟩;obtain⟨a10,n10,c10,rfl⟩:=ai.form;have Tj:=H2.out.below Jj;have c37:=Tj.blk.cell (i:=10+j) (by rw[KF Tj.lr];omega);have f37:=Tj.blk.free (10+j);have H10:=QQ (Tj.reg hlt (ai.mono H2.out.XW.size));clear Tj))
   exact⟨⟨j+1,_,by go_num,by omega,H10.out⟩,by simp[intOf];omega⟩
  ·obtain rfl:j=27:=by omega
   have y37:=(hM.XW.cell hB1).trans tV;have HM:=QQ hM;clear hM tV hlt HGR;go_wp2
   go_loopw [69] (fun i wr=>∃(k:Nat) (ra:Option Addr) (rn rc:Nat) (us:List Value),i=.int .i64 (k:Int)/\k<=n37/\DL S w1 wr R v r (.slice ra rn rc) rr us 27 k n43 0) (fun i _=>n37-(intOf i).toNat)
   case atStart=>exact⟨0,none,0,0,[],rfl,Qe _,HM.out⟩
   case round=>
    clear y37;obtain⟨k,ra,rn,rc,us,rfl,hk,hM⟩:=hrel;by_cases hlt:k<n37
    ·as_aux_lemma=>
     obtain⟨b1,o1,rfl,hc⟩:=(HVV.out.below hM.XW).at (k:=k) (by rw[QYN.out];exact hlt);have e1:=hc k (by rw[QYN.out];exact hlt);obtain⟨xa,xn,xc,x1,x2,x3,x4,x5,x6⟩:=(Dy.out.below hM.XW).sl k (by rw[Kt.out];exact hlt);rw[x1]at e1;have X0:xn<=17592186044416:=by have:=HQ.out k (by rw[Kt.out];exact hlt);omega
     have iy:=QQ x2;have HX6:=QQ x6;have HU:=QQ (show us.length+1<=4398046511104 by rw[hM.ll];omega);have c38:=hM.blk.cell (i:=38) (by rw[KF hM.lr];omega);rw[yI hM.lr]at c38;have H2:=QQ (hM.below (Qx _ _).drew);have hlr:=hM.lr;have HLR:=QQ hlr;have i0:(0:Int)<=(k:Int):=by omega
     have i1:(k:Int)<(n37:Int):=by omega
     have x5':=x5.drew;clear hc x1 x2 x6 x5 hM hlr;have Oe:=QQ (show∀(u:World) (x:Option Addr) (n c:Nat),Y6 (u.alloc (.cells #[.slice x n c] 26)) (some ⟨u.heap.size,0,none⟩) [.slice x n c]from fun u x n c=>YJ u [.slice x n c] _);have DR:=QQ (show∀(x:Option Addr) (n c:Nat),FD [.slice x n c]from fun x n c i hi=>by
      obtain rfl:i=0:=by simp at hi;omega
      exact⟨x,n,c,rfl⟩)
     go_wp2
     go_region_law (first|(go_simp;go_at_call 43;refine(Ql xa xn xc _ _ x5' iy.out X0 HX6.out).mono ?_;rintro e w2 ⟨v2,rfl,jf,hb2⟩;obtain⟨a2,n2,c2,rfl⟩:=jf.form;have hM2:=H2.out.below hb2;have d38:=hM2.blk.cell (i:=38) (by rw[KF HLR.out];omega);rw[yI HLR.out]at d38;have hM3:=hM2.below (QC w2 (.cells #[.slice a2 n2 c2] 26));have QUB:=hM3.blk.cell (i:=38) (by rw[KF HLR.out];omega);rw[yI HLR.out]at QUB;have H3:=QQ hM3;have O3:=QQ ((jf.mono H2.out.XW.size).alloc (.cells #[.slice a2 n2 c2] 26));clear hM2 hM3)|(refine WQ (by rfl) _ _ rfl w1.heap.size (.slice ra rn rc) us [.slice a2 n2 c2] _ 1 1 rfl rfl H3.out.lv (Oe.out _ _ _ _) (DR.out _ _ _) rfl HU.out H3.out.XW.size ?_;intro v9 w9 o9 hg9;obtain⟨a9,n9,c9,rfl⟩:=o9.form;have Kk:=H3.out.blk.grown hg9 (H3.out.lv.ZA H3.out.blk (by decide));have e38:=Kk.cell (i:=38) (by rw[KF HLR.out];omega);have g38:=Kk.free 38;have H9:=QQ (H3.out.line O3.out o9 hg9);clear Kk))
     all_goals
      go_wp2;go_roundw
      case rel=>
       refine⟨_,_,_,_,_,_,_,_,_,_,_,_,_,⟨k+1,a9,n9,c9,_,?_,by omega,H9.out⟩,rfl⟩
       go_num
      case measure=>simp[intOf];omega
    ·as_aux_lemma=>
     obtain rfl:k=n37:=by omega
     have y39:=(hM.XW.cell hB1).trans QVj.out;have c39:=hM.blk.cell (i:=39) (by rw[KF hM.lr];omega);have f39:=hM.blk.free 39;have hM2:=hM.QZk S.Qh.QM;have hZ:=(hZ1.below hM.XW hZ1.lt).other (a:=⟨R,39,none⟩) (by have:=hM.lo;have:=hZ1.lt;show w.heap.size≠R;omega) (.int .i64 S.Qh.QM);have hbw:=hM.XW.setCell (p:=⟨R,39,none⟩) hM.lo (.int .i64 S.Qh.QM);have hlr:=hM.lr;rw[<-Kt.out]at hM2;have hF:=hM2.fin;have hbL:=hM2.blk;have hone:=hF.one (n:=n43) (wh:=S.Qh.QM);have hlen:=KF (S:=S) (v:=v) (r:=r) (lv:=.slice ra rn rc) (n:=n43) (wh:=S.Qh.QM) hlr;obtain⟨rs,hrs⟩:∃rs,rs=xg S v r (.slice ra rn rc) rr n43 S.Qh.QM:=⟨_,rfl⟩;rw[<-hrs]at hbL hone hlen;have zt:=hZ.setCells 0 rs;rw[UK (by rw[Ur,hlen])]at zt;have YN:Below w.heap.size w ((wr.setCell ⟨R,39,none⟩ (.int .i64 S.Qh.QM)).setCells w.heap.size 0 rs):=below_setCells (QU _) rs 0 (hb1.trans (hbw.mono hb1.size));have hF9:=(hF.keep (w':=(wr.setCell ⟨R,39,none⟩ (.int .i64 S.Qh.QM)).setCells w.heap.size 0 rs) (Same.YZ (F:=fun k=>w1.heap.size<=k) fun q hq=>(Xq rs _ 0).1 q (by have:=hZ1.lt;omega)) (fun q hq=>hq)).keep (ZZ.refl _ _) (Q:=fun q=>w.heap.size<=q) (fun q hq=>by have:=hZ1.lt;omega);have DT:=QQ hrs;have HF9:=QQ hF9;have HB9:=QQ YN;have HZ9:=QQ zt;clear hM hM2 hF hrs hF9 YN zt hbw hb1 hZ1;go_wp2_with (first|((with_reducible show wpList _ _ _ (⟨_,Op.load 41 _,_,_,_,_⟩::_) _ _);refine NM rfl _ rfl R rfl rs _ hbL hlen ?_)|((with_reducible show wpList _ _ _ (⟨none,Op.store 41 _ _,_,_,_,_⟩::_) _ _);refine jm hZ rfl _ _ rfl rfl rs rfl hlen hone ?_;generalize(wr.setCell ⟨R,39,none⟩ (.int .i64 S.Qh.QM)).setCells w.heap.size 0 rs=w9 at *))
     exact QV (AX Tryz.results14 rfl (CX HZ9.out hlen)) rfl ⟨v,r,_,rr,by rw[DT.out,HN.out],HF9.out,HB9.out⟩
def zZ(w0 w:World)(B:Nat)(S:SS)(G:Nat->Prop):Prop:=∃F f,HF F G w B f S/\(∀k,G k->w0.heap.size<=k)/\Below w0.heap.size w0 w
theorem zZ.below{w0 w w':World}{B:Nat}{S:SS}{G:Nat->Prop}(h:zZ w0 w B S G)(hb:Below w.heap.size w w'):zZ w0 w' B S G:=by
 obtain⟨F,f,h1,h2,h3⟩:=h;exact⟨F,f,h1.other (fun k hk=>hb.block k (h1.lt k hk)) hb.size,h2,h3.trans (hb.mono h3.size)⟩
theorem zZ.XW{w0 w:World}{B:Nat}{S:SS}{G:Nat->Prop}(h:zZ w0 w B S G):Below w0.heap.size w0 w:=by
 obtain⟨F,f,h1,h2,h3⟩:=h;exact h3
def LvF(W w0:World)(B:Nat)(S:SS)(G:Nat->Prop)(b:ByteArray)(w:World)(e:Ending)(w':World):Prop:=
 zZ w0 w' B (S.feed W b).1 (Gx G w w')/\Step G w w'/\
  (((S.feed W b).2=0/\∃a n c us a2 n2 c2,e=.returned (.tuple #[.slice a n c,.slice a2 n2 c2,.int .i64 0])/\us.length=n/\Zb w' a us/\xk (Gx G w w') w' us (S.feed W b).1.told/\(S.feed W b).1.XK.length=n2/\Ints w' a2 (S.feed W b).1.XK)\/
   ((S.feed W b).2≠0/\e=.returned (.tuple #[.slice none 0 0,.slice none 0 0,.int .i64 (S.feed W b).2])))
theorem Li(W w0 w:World)(B K:Nat)(S:SS)(G:Nat->Prop)(b:ByteArray)(h:zZ w0 w B S G)(hI:Qt K S)(hP:DV S.pend)(hK:K<=268435456):
  Calls Tryz.prog 18 #[.pointer (some ⟨B,0,none⟩),.string b] w (LvF W w0 B S G b w):=by
 obtain⟨F,f,h1,h2,h3⟩:=h;refine(Lu W F G B K S b w ⟨f,h1⟩ hI hP hK).mono ?_;rintro e w' ⟨F',f',hA,hr⟩;have hz:=hA.step.size;refine⟨⟨F',f',hA.hf,fun k hk=>?_,⟨hA.step.os.trans h3.os,hA.step.tape.trans h3.tape,hA.step.output.trans h3.output,QL h3.size hz,fun k hk=>?_⟩⟩,hA.step,?_⟩
 ·rcases hk with hk|hk
  ·exact h2 k hk
  ·have:=h3.size;omega
 ·rw[hA.step.block k (QG hk h3.size) (fun e=>by have:=h2 k e;omega)]
  exact h3.block k hk
 ·rcases hr with⟨h0,he⟩|hr
  ·obtain⟨us,ho,hev⟩:=hA.hf.m.told
   have yQ:=hA.hf.m.XK;obtain⟨a,n,c,e1⟩:=ho.form;obtain⟨a2,n2,c2,e2⟩:=yQ.form;rw[e1]at ho;rw[e2]at yQ;rw[e1,e2]at he;obtain⟨p1,-,-,p4,-⟩:=ho.lC.get;obtain⟨s1,-,-,s4,-⟩:=yQ.sl.get;exact .inl ⟨h0,a,n,c,us,a2,n2,c2,he,p1,p4,hev.keep (ZZ.refl _ _) hA.hf.fg,s1,s4⟩
  ·exact .inr hr
theorem yG(w0 w:World)(B K:Nat)(S:SS)(G:Nat->Prop)(h:zZ w0 w B S G)(hI:Qt K S):
  Calls Tryz.prog 14 #[.pointer (some ⟨B,0,none⟩)] w (Dz S w):=by
 obtain⟨F,f,h1,h2,h3⟩:=h;exact bM F G B K S w ⟨f,h1⟩ hI (by have:=hI.rw_;have:=hI.wd;omega)
def LvN(W:World)(N:Nat)(most width:Int)(T:List ByteArray)(w:World)(e:Ending)(w':World):Prop:=
 (Below w.heap.size w w'/\e=.returned (.tuple #[.pointer none,.slice none 0 0,.slice none 0 0,.bool false])/\((1<=most/\most<=50/\2<=width/\width<=120)->UG W T (SS.new most width) [] []=none))\/
  ((1<=most/\most<=50/\2<=width/\width<=120)/\∃B G S l m a n c us a2 n2 c2,UG W T (SS.new most width) [] []=some (S,l,m)/\e=.returned (.tuple #[.pointer (some ⟨B,0,none⟩),.slice a n c,.slice a2 n2 c2,.bool true])/\zZ w w' B S G/\zK N (JC T) most S l m/\
   us.length=n/\Zb w' a us/\xk G w' us l/\m.length=n2/\Ints w' a2 m/\n<=4398046511104/\S.width=width)
theorem IA{W:World}{N used:Nat}{most:Int}{S:SS}{l:List (Int×List Int)}{m:List Int}(h:zK N used most S l m)(b:ByteArray)(hN:used+b.size<=N)(he:(S.feed W b).2=0):(S.feed W b).1.width=S.width:=by
 obtain⟨ho,hb,e⟩:=Aa he;obtain⟨K,hI,hK,-,-⟩:=h.inv;have hcnt:=Ej (S.pend++b);rw[ByteArray.size_append]at hcnt;rw[e];generalize(JS (S.pend++b)).out=L at *;have hI0:Qt K ({S with pend:=Aj (JS (S.pend++b)).ah,told:=[],XK:=[]}:SS):={hI with};exact(yL (W:=W) L hI0 ho N (by omega)).width
theorem kM{W:World}{N:Nat}{most:Int}:∀(T:List ByteArray) {used:Nat} {S:SS} {l:List (Int×List Int)} {m:List Int} {S':SS} {l':List (Int×List Int)} {m':List Int},zK N used most S l m->used+JC T<=N->UG W T S l m=some (S',l',m')->S'.width=S.width
 | [],used,S,l,m,S',l',m',h,hN,e=>by
  simp only[UG,Qv,YQ]at e;obtain⟨rfl,rfl,rfl⟩:=e;rfl
 | b::T,used,S,l,m,S',l',m',h,hN,e=>by
  have hs:JC (b::T)=b.size+JC T:=rfl;rw[hs]at hN;unfold UG at e;by_cases hz:(S.feed W b).2=0
  ·rw[if_pos hz]at e
   exact(kM T (h.step (W:=W) b (by omega) hz) (by omega) e).trans (IA h b (by omega) hz)
  ·rw[if_neg hz]at e;cases e
theorem Sz(W:World)(most width:Int)(ta:Option Addr)(tn tc N:Nat)(T:List ByteArray)(w:World)(hT:Strs w ta T)(hn:T.length=tn)(hN:JC T<=N)(hNb:N<=1048576)(htn:tn<=1048576):
  Calls Tryz.prog 13 #[.int .i64 most,.int .i64 width,.slice ta tn tc] w (LvN W N most width T w):=by
 refine(bT W most width ta tn tc N T w hT hn hN hNb htn).mono ?_;rintro e w' ⟨hb,⟨h1,h2⟩|⟨hg,B,G,F,f,S,v1,v2,l,m,hf,he,hR⟩⟩
 ·exact .inl ⟨hb,h1,h2⟩
 ·have hI:=FJ T (zK.new (N:=N) hg) (by omega) hf
  have hwd:=kM T (zK.new (N:=N) hg) (by omega) hf;rw[Zu]at hI;obtain⟨us,ho,hev⟩:=hR.ev;have hsg:=hR.sg;obtain⟨a,n,c,rfl⟩:=ho.form;obtain⟨a2,n2,c2,rfl⟩:=hsg.form;obtain⟨p1,-,-,p4,-⟩:=ho.lC.get;obtain⟨s1,-,-,s4,-⟩:=hsg.sl.get;obtain⟨K,-,hK,hl,-⟩:=hI.inv;have hmul:K*(N+2)<=1048576*1048578:=Nat.mul_le_mul (by omega) (by omega);refine .inr ⟨hg,B,G,S,l,m,a,n,c,us,a2,n2,c2,hf,he,⟨F,f,hR.hf,hR.gl,hR.XW⟩,hI,p1,p4,hev.keep (ZZ.refl _ _) hR.hf.fg,s1,s4,?_,hwd⟩;rw[<-p1,hev.1];omega
theorem Mo(c:Int)(h0:0<=c)(h1:c<=255)(w:World):Calls Tryz.prog 78 #[.int .i64 c,.int .u8 c] w fun e w'=>e=.returned (.bool true)/\w=w':=by
 go_enter Tryz.func78,Tryz.ntmps78
 exact QvI
theorem bf(a:Option Addr)(b n ca cb:Nat)(xs:List Int)(w:World)(ha:Ints w a xs)(hn:xs.length=n)(hb:∀j,j<n->w.cell? ⟨b,j,none⟩=some (.int .u8 (ix xs j)))(hr:∀j,j<n->0<=ix xs j/\ix xs j<=255)(hx:n<=4096):
  Calls Tryz.prog 77 #[.slice a n ca,.slice (some ⟨b,0,none⟩) n cb,.func (.func 78) #[] #[]] w fun e w'=>e=.returned (.bool true)/\∃n,w'=w.drewN n:=by
 have HA:=QQ ha;have HN:=QQ hn;have HB:=QQ hb;have HR:=QQ hr;clear ha hn hb hr;go_enter Tryz.func77,Tryz.ntmps77
 go_wp2
 go_loopw [17] (fun i wr=>∃k:Nat,i=.int .i64 (k:Int)/\k<=n/\∃n,wr=w.drewN n) (fun i _=>n-(intOf i).toNat)
 case atStart=>exact⟨0,rfl,Qe _,0,rfl⟩
 case round=>
  obtain⟨k,rfl,hk,m,rfl⟩:=hrel;by_cases hlt:k<n
  ·have e2:=HB.out k hlt
   obtain⟨r0,r1⟩:=HR.out k hlt;obtain⟨b1,o1,rfl,e0⟩:=HA.out.at (k:=k) (by rw[HN.out];exact hlt);have e1:=e0 k (by rw[HN.out];exact hlt);clear e0;go_wp2_with ((go_at_call 78);refine(Mo _ r0 r1 _).mono ?_;rintro e w2 ⟨rfl,rfl⟩)
   go_roundw
   case rel=>exact⟨k+1,by go_num,by omega,_,rfl⟩
   case measure=>simp[intOf];omega
  ·go_wp2
   go_ret;exact⟨rfl,m,rfl⟩
def bL(s:ByteArray):List Int:=(List.range s.size).map (bt s)
theorem aQ(s:ByteArray):(bL s).length=s.size:=by simp[bL]
theorem mh(s:ByteArray){j:Nat}(hj:j<s.size):ix (bL s) j=bt s j:=by
 rw[Xt (by rw[aQ];exact hj)];simp[bL]
theorem jV(a:Option Addr)(n c:Nat)(xs:List Int)(s:ByteArray)(w:World)(ha:Ints w a xs)(hn:xs.length=n)(he:xs=bL s)(hs:s.size<=4096):
  Calls Tryz.prog 41 #[.slice a n c,.string s] w fun e w'=>e=.returned (.bool true)/\Below w.heap.size w w':=by
 have hcv:=Lib.run_convert_string_bytes (P:=Tryz.prog) w 9 156 5 s Tryz.underlying9 Tryz.underlying156 Tryz.underlying5;have hb:=Fj w 5 s;have hsn:s.size=n:=by rw[<-hn,he,aQ]
 have HC:=QQ (show∀j,j<n->(Lib.bytesWorld w 5 s).cell? ⟨w.heap.size,j,none⟩=some (.int .u8 (ix xs j))from fun j hj=>by rw[he,mh s (by omega)];exact Lib.bytesWorld_cell w 5 s j (by omega));have HR:=QQ (show∀j,j<n->0<=ix xs j/\ix xs j<=255 from fun j hj=>by rw[he,mh s (by omega)];exact KQ s j);have HA:=QQ (ha.below hb);have HN:=QQ hn;have hs4:n<=4096:=by omega
 subst hsn;clear ha hn he;go_enter Tryz.func41,Tryz.ntmps41
 go_wp2_with ((go_at_call 77);refine(bf _ _ _ _ _ xs _ HA.out HN.out HC.out HR.out hs4).mono ?_;rintro e w2 ⟨rfl,nd,rfl⟩)
 go_ret;exact⟨rfl,below_drewN hb nd⟩
theorem XH.ints{P:Nat->Prop}{w:World}{a:Option Addr}{n c:Nat}{xs:List Int}(h:XH P w (.slice a n c) xs):Ints w a xs:=h.get.2.2.2.1
theorem QZC{rr:List Value}(h:rr.length=27):∃x0 x1 x2 x3 x4 x5 x6 x7 x8 x9 PG nu x12 x13 x14 x15 x16 x17 x18 x19 x20 x21 PE PD x24 x25 Pv,rr=[x0,x1,x2,x3,x4,x5,x6,x7,x8,x9,PG,nu,x12,x13,x14,x15,x16,x17,x18,x19,x20,x21,PE,PD,x24,x25,Pv]:=by
 obtain⟨x0,rr,rfl⟩:∃y t,rr=y::t:=by
  exact Qkh
 obtain⟨x1,rr,rfl⟩:∃y t,rr=y::t:=by
  exact Qkh
 obtain⟨x2,rr,rfl⟩:∃y t,rr=y::t:=by
  exact Qkh
 obtain⟨x3,rr,rfl⟩:∃y t,rr=y::t:=by
  exact Qkh
 obtain⟨x4,rr,rfl⟩:∃y t,rr=y::t:=by
  exact Qkh
 obtain⟨x5,rr,rfl⟩:∃y t,rr=y::t:=by
  exact Qkh
 obtain⟨x6,rr,rfl⟩:∃y t,rr=y::t:=by
  exact Qkh
 obtain⟨x7,rr,rfl⟩:∃y t,rr=y::t:=by
  exact Qkh
 obtain⟨x8,rr,rfl⟩:∃y t,rr=y::t:=by
  exact Qkh
 obtain⟨x9,rr,rfl⟩:∃y t,rr=y::t:=by
  exact Qkh
 obtain⟨PG,rr,rfl⟩:∃y t,rr=y::t:=by
  exact Qkh
 obtain⟨nu,rr,rfl⟩:∃y t,rr=y::t:=by
  exact Qkh
 obtain⟨x12,rr,rfl⟩:∃y t,rr=y::t:=by
  exact Qkh
 obtain⟨x13,rr,rfl⟩:∃y t,rr=y::t:=by
  exact Qkh
 obtain⟨x14,rr,rfl⟩:∃y t,rr=y::t:=by
  exact Qkh
 obtain⟨x15,rr,rfl⟩:∃y t,rr=y::t:=by
  exact Qkh
 obtain⟨x16,rr,rfl⟩:∃y t,rr=y::t:=by
  exact Qkh
 obtain⟨x17,rr,rfl⟩:∃y t,rr=y::t:=by
  exact Qkh
 obtain⟨x18,rr,rfl⟩:∃y t,rr=y::t:=by
  exact Qkh
 obtain⟨x19,rr,rfl⟩:∃y t,rr=y::t:=by
  exact Qkh
 obtain⟨x20,rr,rfl⟩:∃y t,rr=y::t:=by
  exact Qkh
 obtain⟨x21,rr,rfl⟩:∃y t,rr=y::t:=by
  exact Qkh
 obtain⟨PE,rr,rfl⟩:∃y t,rr=y::t:=by
  exact Qkh
 obtain⟨PD,rr,rfl⟩:∃y t,rr=y::t:=by
  exact Qkh
 obtain⟨x24,rr,rfl⟩:∃y t,rr=y::t:=by
  exact Qkh
 obtain⟨x25,rr,rfl⟩:∃y t,rr=y::t:=by
  exact Qkh
 obtain⟨Pv,rr,rfl⟩:∃y t,rr=y::t:=by
  exact Qkh
 obtain rfl:rr=[]:=QH (by simpa using h);exact⟨x0,x1,x2,x3,x4,x5,x6,x7,x8,x9,PG,nu,x12,x13,x14,x15,x16,x17,x18,x19,x20,x21,PE,PD,x24,x25,Pv,rfl⟩
section
variable {S:SS} {v r lv:Value} {rr:List Value} {n:Nat} {wh:Int}
theorem Ak(hr:rr.length=27)(w:World):(Instr.field 41 (.agg (ZT (xg S v r lv rr n wh))) 0).run Tryz.prog w=.ok (.agg #[v,.int .i64 S.pos]) w:=by
 exact Qv0
theorem NR(hr:rr.length=27)(w:World):(Instr.field 41 (.agg (ZT (xg S v r lv rr n wh))) 6).run Tryz.prog w=.ok lv w:=by
 exact Qv0
end
theorem xE(a:Option Addr)(n c:Nat)(v:Value)(w:World):(Instr.field 30 (.agg #[.slice a n c,v]) 0).run Tryz.prog w=.ok (.slice a n c) w:=by kernel_rfl
theorem TH(W:World)(b:ByteArray)(S:SS)(l:List (Int×List Int))(m:List Int)(h:(S.feed W b).2=0):UG W [b] S l m=some ((S.feed W b).1,l++(S.feed W b).1.told,m++(S.feed W b).1.XK):=by
 unfold UG;rw[if_pos h];rfl
theorem Oy(W:World)(b:ByteArray)(S S1:SS)(h:(S.feed W b).2=0)(h1:(S.feed W b).1=S1)(h2:S1.told=[]):UG W [b] S [] []=some (S1,[],S1.XK):=by
 rw[TH W b S [] [] h,h1,h2];rfl
theorem LA:JC [bD]=9:=by kernel_rfl
theorem EK:iO.size=1:=by kernel_rfl
theorem EJ:iN.size=2:=by kernel_rfl
theorem mP:[99,100]=bL ⟨#[99,100]⟩:=by kernel_rfl
theorem gG:[97,98,32,99,100]=bL ⟨#[97,98,32,99,100]⟩:=by kernel_rfl
theorem Da(W:World):∃S1 S2 S3:SS,(∃XK,UG W [bD] (SS.new 5 10) [] []=some (S1,[],XK))/\S1.text=[99,100]/\(S1.feed W iO).2=0/\(S1.feed W iO).1=S2/\S2.told=[]/\S2.text=[97,98,32,99,100]/\
  (S2.feed W iN).2=0/\(S2.feed W iN).1=S3/\S3.told=[(2,[99,100])]/\S3.Qh.ls.length=1:=by
 have h1:=nG W;have h2:=nE W;have h3:=nD W;have e1:((SS.new 5 10).feed W bD).1=iT W:=by unfold iT;rfl
 have e2:((iT W).feed W iO).1=iR W:=by unfold iR;rfl
 have e3:((iR W).feed W iN).1=wS3 W:=by unfold wS3;rfl
 generalize wS3 W=S3 at *;generalize iR W=S2 at *;generalize iT W=S1 at *;obtain⟨g1,g2,g3⟩:=h1;obtain⟨g4,g5,g6⟩:=h2;obtain⟨g7,g8,g9⟩:=h3;exact⟨S1,S2,S3,⟨S1.XK,Oy W bD _ S1 g1 e1 g2⟩,g3,g4,e2,g5,g6,g7,e3,g8,g9⟩
theorem Pn(w:World)(s:ByteArray):Strs (w.alloc (.cells #[.string s] 9)) (some ⟨w.heap.size,0,none⟩) [s]:=by
 refine .inr ⟨w.heap.size,0,rfl,fun i hi=>?_⟩;obtain rfl:i=0:=by simp at hi;omega
 exact(QD.new w #[.string s] 9).cell 0
theorem Dz.hid{S:SS}{w w':World}{e:Ending}(h:Dz S w e w'):∃rs v r lv rr,e=.returned (.agg (ZT rs))/\rs=xg S v r lv rr S.past.length S.Qh.QM/\nQ (fun k=>w.heap.size<=k) w' S v r lv rr/\Below w.heap.size w w':=by
 obtain⟨v,r,lv,rr,h1,h2,h3⟩:=h;exact⟨_,v,r,lv,rr,h1,rfl,h2,h3⟩
theorem Mm(w:World):Calls Tryz.prog 12 #[] w fun e w'=>e=.returned (.bool true)/\Below w.heap.size w w':=by
 have hb0:=QC w (.cells #[.string bD] 9);have hS:=Pn w bD;have hFD:=QQ (Sz w 5 10 (some ⟨w.heap.size,0,none⟩) 1 1 12 [bD] _ hS rfl (by rw[LA];omega) (by omega) (by omega));have HB0:=QQ hb0;obtain⟨S1,S2,S3,⟨QqB,hf1⟩,ht1,hz2,hS2,hd2,ht2,hz3,hS3,hd3,hl3⟩:=Da w;clear hS hb0;have HP:=QQ (show _/\_/\_/\_/\_/\_/\_/\_/\_ from⟨ht1,hz2,hS2,hd2,ht2,hz3,hS3,hd3,hl3⟩);have HF1:=QQ hf1;clear hf1 ht1 hz2 hS2 hd2 ht2 hz3 hS3 hd3 hl3;go_enter Tryz.func12,Tryz.ntmps12
 go_wp2_with fail
 refine hFD.out.mono ?_;rintro e w1 (⟨hb1,rfl,hno⟩|⟨hg,B,G,S,l,m,a,n,c,us,a2,n2,c2,hf,rfl,hL,hI,p1,p4,hev,s1,s4,hn4,hwd⟩)
 ·have:=hno ⟨by omega,by omega,by omega,by omega⟩
  rw[HF1.out]at this;cases this
 have e1:=hf.symm.trans HF1.out;simp only[Qv,YQ]at e1;obtain⟨rfl,rfl,rfl⟩:=e1;obtain rfl:n=0:=by rw[<-p1,hev.1];rfl
 rw[LA]at hI;have hI2:=hI.step (W:=w) iO (by rw[EK];omega) HP.out.2.1;rw[EK,HP.out.2.2.1,HP.out.2.2.2.1]at hI2;have AL:=hI2.step (W:=w) iN (by rw[EJ];omega) HP.out.2.2.2.2.2.1;rw[EJ,HP.out.2.2.2.2.2.2.1]at AL;obtain⟨K,hK,hKl,-,-⟩:=hI.inv;obtain⟨K2,hK2,QK4,-,-⟩:=hI2.inv;obtain⟨K3,hK3,QK3,-,-⟩:=AL.inv;have HP1:=QQ hI.pend;have HP2:=QQ hI2.pend;have HK:=QQ hK;have Dj:=QQ hK2;have HK3:=QQ hK3;have hq1:K<=268435456:=by omega
 have hq2:K2<=268435456:=by omega
 have iC:=QQ (yG _ w1 B K _ G hL hK);have HL:=QQ hL;clear hf p1 p4 hev s1 s4 hL hI hI2 AL hK hK2 hK3 hKl QK4 QK3 hn4 hg hwd HF1;go_wp2_with fail
 refine iC.out.mono ?_;intro e w2 h2;obtain⟨rs,v,r,lv,rr,rfl,hrs,hR2,hb2⟩:=h2.hid;obtain⟨a3,n3,c3,rfl⟩:=hR2.t.form;have hfl:∀w,(Instr.field 41 (.agg (ZT rs)) 0).run Tryz.prog w=.ok (.agg #[.slice a3 n3 c3,.int .i64 S.pos]) w:=fun w=>by rw[hrs];exact Ak hR2.lr w
 have hln:=fun w=>xE a3 n3 c3 (.int .i64 S.pos) w
 have Fs:=QQ (jV a3 n3 c3 S.text ⟨#[99,100]⟩ w2 hR2.t.ints hR2.t.get.1 (HP.out.1.trans mP) (by decide));have HL2:=QQ (HL.out.below hb2);clear h2 hrs hR2 hb2 iC;go_wp2_with fail
 refine Fs.out.mono ?_;rintro e w3 ⟨rfl,hb3⟩;have hL3:=HL2.out.below hb3;have FO:=QQ (Li w _ w3 B K S G iO hL3 HK.out HP1.out hq1);clear hfl hln hb3 hL3 Fs;go_wp2_with fail
 refine FO.out.mono ?_;rintro e w4 ⟨hL4,-,⟨-,a,n,c,us,a2,n2,c2,rfl,p1,p4,hev,-,-⟩|⟨hnz,-⟩⟩
 case inr=>exact absurd HP.out.2.1 hnz
 rw[HP.out.2.2.1]at hL4 hev;obtain rfl:n=0:=by rw[<-p1,hev.1,HP.out.2.2.2.1];rfl
 have iC:=QQ (yG _ w4 B K2 _ _ hL4 Dj.out);have HL4:=QQ hL4;clear p1 p4 hev hL4 FO;go_wp2_with fail
 refine iC.out.mono ?_;intro e w5 h5;obtain⟨rs5,v5,r5,lv5,rr5,rfl,hrs,hR2,hb2⟩:=h5.hid;obtain⟨a5,n5,c5,rfl⟩:=hR2.t.form;have hfl:∀w,(Instr.field 41 (.agg (ZT rs5)) 0).run Tryz.prog w=.ok (.agg #[.slice a5 n5 c5,.int .i64 S2.pos]) w:=fun w=>by rw[hrs];exact Ak hR2.lr w
 have hln:=fun w=>xE a5 n5 c5 (.int .i64 S2.pos) w
 have Fs:=QQ (jV a5 n5 c5 S2.text ⟨#[97,98,32,99,100]⟩ w5 hR2.t.ints hR2.t.get.1 (HP.out.2.2.2.2.1.trans gG) (by decide));have HL5:=QQ (HL4.out.below hb2);clear h5 hrs hR2 hb2 iC;go_wp2_with fail
 refine Fs.out.mono ?_;rintro e w6 ⟨rfl,hb3⟩;have hL6:=HL5.out.below hb3;have HF3:=QQ (Li w _ w6 B K2 S2 _ iN hL6 Dj.out HP2.out hq2);clear hfl hln hb3 hL6 Fs;go_wp2_with fail
 refine HF3.out.mono ?_;rintro e w7 ⟨hL7,-,⟨-,a7,n7,c7,us7,a8,n8,c8,rfl,p1,p4,hev,-,-⟩|⟨hnz,-⟩⟩
 case inr=>exact absurd HP.out.2.2.2.2.2.1 hnz
 rw[HP.out.2.2.2.2.2.2.1]at hL7 hev;rw[HP.out.2.2.2.2.2.2.2.1]at hev;obtain rfl:n7=1:=by rw[<-p1,hev.1];rfl
 obtain⟨b7,o7,rfl,mX⟩:=p4.at (k:=0) (by omega);obtain⟨y0,y1⟩:=mX 0 (by omega);obtain⟨z0,z1⟩:=hev.2 0 (by simp);obtain⟨a9,n9,c9,z2⟩:=z1.form;rw[z0]at y0;rw[z2]at y1 z1;simp only[List.getElem_cons_zero,Nat.zero_mul,Zp,Zu]at y0 y1 z1;have Fs:=QQ (jV a9 n9 c9 [99,100] ⟨#[99,100]⟩ w7 z1.ints z1.get.1 mP (by decide));have HL7:=QQ hL7;clear p1 p4 hev hL7 HF3 mX z0 z1 z2;go_wp2_with fail
 refine Fs.out.mono ?_;rintro e w8 ⟨rfl,hb3⟩;have hL8:=HL7.out.below hb3;have iC:=QQ (yG _ w8 B K3 _ _ hL8 HK3.out);have HL8:=QQ hL8;clear hb3 hL8 Fs y0 y1;go_wp2_with fail
 refine iC.out.mono ?_;intro e w9 h9;obtain⟨rs9,v9,r9,lv9,rr9,rfl,hrs,hR2,hb2⟩:=h9.hid;obtain⟨vs9,⟨a6,n6,c6,rfl,hv1,-⟩,hv2⟩:=hR2.ls;obtain rfl:n6=1:=by rw[<-hv1,hv2.1];exact HP.out.2.2.2.2.2.2.2.2
 have hfl:∀w,(Instr.field 41 (.agg (ZT rs9)) 6).run Tryz.prog w=.ok (.slice a6 1 c6) w:=fun w=>by rw[hrs];exact NR hR2.lr w
 have HL9:=QQ (HL8.out.below hb2);clear h9 hrs hR2 hb2 hv1 hv2;go_wp2;go_ret;exact⟨rfl,HB0.out.trans (HL9.out.XW.mono HB0.out.size)⟩
theorem bn(k:Int)(a:Option Addr)(n c:Nat)(hn:n<=200)(w:World):
  Calls Tryz.prog 16 #[.agg #[.int .i64 k,.slice a n c]] w (fun e w'=>e=.returned (.bool false)/\Below w.heap.size w w'):=by
 have hb:=QC w (.cells #[.int .i64 k,.slice a n c] 45);have hb0:=Qx w.heap.size w;obtain⟨l0,l1,-,-⟩:=(QD.new w #[.int .i64 k,.slice a n c] 45).two;have hlt:¬(200:Int)<(n:Int):=by omega
 go_enter Tryz.func16,Tryz.ntmps16
 go_wp2;go_ret;first|exact⟨rfl,hb⟩|exact⟨rfl,hb0⟩
theorem Ph(la:Option Addr)(ln lc:Nat)(us:List V2)(l:List (Int×List Int))(F:Nat->Prop)(w:World)(hP:Zb w la us)(hE:xk F w us l)(hn:us.length=ln)(hx:ln<=4398046511104)(hl:∀e∈l,e.2.length<=200):
  Calls Tryz.prog 44 #[.slice la ln lc,.func (.func 16) #[] #[]] w fun e w'=>e=.returned (.int .i64 (-1))/\Below w.heap.size w w':=by
 have HP:=QQ hP;have HE:=QQ hE;have HN:=QQ hn;have HL:=QQ hl;clear hP hE hn hl;go_enter Tryz.func44,Tryz.ntmps44
 go_wp2
 go_loopw [8] (fun i wr=>∃k:Nat,i=.int .i64 (k:Int)/\k<=ln/\Below w.heap.size w wr) (fun i _=>ln-(intOf i).toNat)
 case atStart=>exact⟨0,rfl,by omega,Qx _ _⟩
 case round=>
  obtain⟨k,rfl,hk,hbel⟩:=hrel;by_cases hlt:k<ln
  ·have hjv:k<us.length:=by rw[HN.out];exact hlt
   have hjl:k<l.length:=by rw[<-HE.out.1];exact hjv
   obtain⟨b1,o1,rfl,hc⟩:=HP.out.at hjv;obtain⟨c0,c1⟩:=hc k hjv;obtain⟨e0,e1⟩:=HE.out.2 k hjl;obtain⟨a1,n1,k1,e2⟩:=e1.form;rw[e2]at e1 c1;rw[e0]at c0;have hn1:n1<=200:=by have:=HL.out _ (XF hjl);rw[e1.get.1]at this;exact this
   have d0:=(hbel.cell (Zv c0)).trans c0;have d1:=(hbel.cell (Zv c1)).trans c1;have d2:wr.cell? ⟨b1,o1+k*2+1,none⟩=some (.slice a1 n1 k1):=d1;have i0:(0:Int)<=(k:Int):=by omega
   have i1:(k:Int)<(ln:Int):=by omega
   have HC:=QQ (bn l[k].1 a1 n1 k1 hn1 wr);have HBE:=QQ hbel;have hbs:=hbel.size;clear hc c0 c1 e0 e1 e2 hbel hn1;go_wp2_with (go_at_call 16;go_loud (refine(HC.out).mono ?_;rintro e w3 ⟨rfl,hb3⟩))
   exact⟨⟨k+1,by go_num,by omega,HBE.out.trans (hb3.mono hbs)⟩,by simp[intOf];omega⟩
  ·have hno:¬(k:Int)<(ln:Int):=by omega
   exact QAW
theorem Dw(la:Option Addr)(ln lc:Nat)(us:List V2)(l:List (Int×List Int))(F:Nat->Prop)(w:World)(hP:Zb w la us)(hE:xk F w us l)(hn:us.length=ln)(hx:ln<=4398046511104)(hl:∀e∈l,e.2.length<=200):
  Calls Tryz.prog 15 #[.slice la ln lc,.func (.func 16) #[] #[]] w fun e w'=>e=.returned (.bool false)/\Below w.heap.size w w':=by
 have HI:=QQ (Ph la ln lc us l F w hP hE hn hx hl);clear hP hE hn hl;go_enter Tryz.func15,Tryz.ntmps15
 go_wp2_with (go_at_call 44;go_loud (refine(HI.out).mono ?_;rintro e w3 ⟨rfl,hb3⟩))
 go_ret;exact⟨rfl,hb3⟩
theorem Strs.below{w w':World}{a:Option Addr}{T:List ByteArray}(h:Strs w a T)(hb:Below w.heap.size w w'):Strs w' a T:=by
 rcases h with h|⟨b,o,h1,h2⟩
 ·exact .inl h
 ·exact .inr ⟨b,o,h1,fun i hi=>Qk hb _ _ (h2 i hi)⟩
theorem fJ{h:Hi}(he:qK h=0):(h.ls.length:Int)<=h.most:=by
 unfold qK at he;by_cases h1:h.most<1\/50<h.most\/h.most<h.ls.length\/h.QM<0\/(h.ls.length:Int)<h.QM
 ·rw[if_pos h1]at he;cases he
 ·omega
theorem Hq{w9:World}{R:Nat}{S:SS}{v r lv:Value}{rr:List Value}{n:Nat}{wh:Int}{rs:List Value}(h:ZY w9 R rs 41)(he:rs=xg S v r lv rr n wh)(hr:rr.length=27):
  w9.cell? ⟨R,0,none⟩=some v/\w9.cell? ⟨R,1,none⟩=some (.int .i64 S.pos)/\w9.cell? ⟨R,2,none⟩=some (.int .i64 S.mode)/\w9.cell? ⟨R,3,none⟩=some (.int .i64 S.part.a)/\w9.cell? ⟨R,4,none⟩=some (.int .i64 S.part.b)/\w9.cell? ⟨R,5,none⟩=some (.int .i64 S.part.c)/\w9.cell? ⟨R,6,none⟩=some (.int .i64 S.part.d)/\w9.cell? ⟨R,7,none⟩=some (.int .i64 S.part.e)/\w9.cell? ⟨R,37,none⟩=some (.int .i64 (n:Int))/\w9.cell? ⟨R,38,none⟩=some lv:=by
 subst he;have hl:=KF (S:=S) (v:=v) (r:=r) (lv:=lv) (n:=n) (wh:=wh) hr;refine⟨h.cell (i:=0) (by omega),h.cell (i:=1) (by omega),h.cell (i:=2) (by omega),h.cell (i:=3) (by omega),h.cell (i:=4) (by omega),h.cell (i:=5) (by omega),h.cell (i:=6) (by omega),h.cell (i:=7) (by omega),?_,?_⟩
 ·rw[h.cell (i:=37) (by omega)]
  unfold vx xg;rw[QN,Q6 (by simp[Ll,hr])];simp[Ll,oh,hr]
 ·rw[h.cell (i:=38) (by omega),yI hr]
theorem jW(a:Option Addr)(n c:Nat)(T:List ByteArray)(most width:Int)(w:World)(hT:Strs w a T)(hn:T.length=n)(hN:JC T+n<=1048576):
  Calls Tryz.prog 3 #[.int .i64 most,.int .i64 width,.slice a n c] w fun e w'=>e=.returned (.bool true)/\Below w.heap.size w w':=by
 have HW:=QQ (Mm w);have HFD:=QQ (fun(w1:World) (hb:Below w.heap.size w w1)=>Sz w most width a n c (JC T) T w1 (hT.below hb) hn (QU _) (by omega) (by omega));clear hT hn hN;go_enter Tryz.func3,Tryz.ntmps3
 go_wp2_with fail
 refine HW.out.mono ?_;rintro e w1 ⟨rfl,hb1⟩;go_wp2_with fail
 refine(HFD.out _ hb1).mono ?_;rintro e w2 (⟨hb2,rfl,-⟩|⟨hg,B,G,S,l,m,a1,n1,c1,us,a2,n2,c2,hf,rfl,hL,hI,p1,p4,hev,s1,s4,hn4,hwd⟩)
 ·go_wp2
  go_ret;exact⟨rfl,hb1.trans (hb2.mono hb1.size)⟩
 ·obtain⟨K,hK,-,-,-⟩:=hI.inv
  have iC:=QQ (yG _ w2 B K _ G hL hK);have HB2:=QQ (show Below w.heap.size w w2 from hb1.trans (hL.XW.mono hb1.size));have HEV:=QQ (fun(w':World) (hb:Below w2.heap.size w2 w')=>Dw a1 n1 c1 us l G w' (p4.keep (fun _ _ h=>Qk hb _ _ h)) (hev.keep (ZZ.below G hb) (fun _ h=>h)) p1 hn4 hI.lens);have HI:=QQ hI;have HK:=QQ hK;clear hf hL hI p1 p4 hev s1 s4 hn4 hwd hg hK hb1;go_wp2_with fail
  refine iC.out.mono ?_;intro e w5 h5;obtain⟨rs,v,r,lv,rr,rfl,hrs,Jv,hb5⟩:=h5.hid;obtain⟨a3,n3,c3,rfl⟩:=Jv.t.form;have hq1:=Jv.t.get.1;obtain⟨vs,hvs,hvl⟩:=Jv.ls;obtain⟨a4,n4,c4,rfl,hq2,-⟩:=hvs;have hq3:=hvl.1;have hlr:=Jv.lr;have hlen:rs.length=44:=by rw[hrs];exact KF hlr
  have hone:∀x∈rs,x.oneCell'=true:=by rw[hrs];exact Jv.one
  have zt:=(KM (w:=w5) rfl).setCells 0 rs;rw[UK (by rw[Ur,hlen])]at zt;have YN:Below w5.heap.size w5 ((w5.alloc Xx).setCells w5.heap.size 0 rs):=below_setCells (QU _) rs 0 (QC w5 Xx);obtain⟨y0,y1,y2,y3,y4,y5,y6,y7,y37,y38⟩:=Hq zt hrs hlr;have hbb:=hb5.trans (YN.mono hb5.size);have aI:=QQ hbb;have k0:=HK.out.tl;have k1:=HK.out.p0;have k2:=HK.out.p1;have k3:=HK.out.pc;have k4:=HK.out.md;have k5:=fJ HK.out.hi;have k6:=HK.out.pl;rw[HI.out.most]at k5;have KPT:=QQ HK.out.pt;have HLEN:=QQ hlen;have QU2:=QQ hone;have q0:(n3:Int)<=200:=by omega
  have q1:(n4:Int)<=most:=by omega
  have q2:(S.past.length:Int)<=30:=by omega
  have q3:S.pos<=(n3:Int):=by omega
  have q4:S.mode=0\/S.mode=3->S.pos<=max 0 ((n3:Int)-1):=by rw[hq1]at k3;exact k3
  clear hb5 zt YN hbb hvl hq1 hq2 hq3 hlr hlen hone Jv h5 hrs k0 k2 k3 k5 k6;go_upto_region 7 with((with_reducible show wpList _ _ _ (⟨none,Op.store 41 _ _,_,_,_,_⟩::_) _ _);refine jm (w:=w5.alloc Xx) (B:=w5.heap.size) (KM rfl) rfl _ _ rfl rfl rs rfl HLEN.out QU2.out ?_;generalize(w5.alloc Xx).setCells w5.heap.size 0 rs=w9 at *)
  have HQ4:=QQ q4;clear q4;dsimp only[Act.put]
  go_cut [12] (fun v wx=>∃q0:Int,v=.int .i64 q0/\max 0 ((n3:Int)-1)<=q0/\w9=wx)
  case first=>
   rcases Zx n3 with hz|hz
   ·subst hz
    go_wp2
    all_goals
     go_meet;exact⟨_,rfl,by omega,rfl⟩
   ·go_wp2
    all_goals
     go_meet;exact⟨_,rfl,by first|omega|(go_num;omega)|(simp;omega),rfl⟩
  obtain⟨q0,rfl,hq0,rfl⟩:=hcut;go_upto_region 8 with fail
  go_cut [42] (fun v wx=>∃b,v=.bool b/\(b=false->S.mode=0\/S.mode=3)/\w9=wx)
  case first=>
   rcases k4 with e|e|e|e
   all_goals
    rw[e]at y2;go_wp2;go_meet;exact⟨_,rfl,by simp[e],rfl⟩
  obtain⟨b,rfl,hbm,rfl⟩:=hcut;have HBM:=QQ hbm;clear hbm k4;have KC:=QQ (fun(w':World)=>Zt S.part.a S.part.b S.part.c S.part.d S.part.e w');cases b with
  | true=>
   exact QuU
  | false=>
   have q5:S.pos<=q0:=by have:=HQ4.out (HBM.out rfl);omega
   clear q3;exact QuU
end Go.Proofs.YtmdcencmiopmmaaGreat
namespace Go.Proofs.YtmdcencmiopmmaaGreat
open Go.ChangeShapes Go.WideShapes Go.ChangeAt Go.RowKit
theorem OD{H:Type}{d:DataW H}{l:List (DataW H)}(h:d∈l):Rows.uptoBulk d<=Rows.uptoBulkAll l:=by
 induction l with
 | nil=>cases h
 | cons x r ih=>
  simp only[Rows.uptoBulkAll];cases QB.1 h with
  | inl e=>subst e;omega
  | inr e=>have:=ih e;omega
theorem FW{H:Type}(bytes:List UInt8):Rows.uptoBulk (DataW.lit (H:=H) (.string bytes))=bytes.length+1:=by simp[Rows.uptoBulk]
theorem Ie{H:Type}{l:List (DataW H)}(hk:Rows.uptoSmall H l=true):Rows.uptoBulkAll l<=1048576:=of_decide_eq_true hk
theorem uJ{H:Type}{l:List (DataW H)}(hk:Rows.uptoSmall H l=true){d:DataW H}(h:d∈l):Rows.uptoBulk d<=1048576:=
 QL (OD h) (Ie hk)
theorem Strs.ou{w:World}{x:Addr}{zs:List ByteArray}{n:Nat}(hc:∀i,i<zs.length->w.cell? (x.add i)=some (.string (zs.getD i ByteArray.empty)))(hn:n<=zs.length):Strs w (some x) (zs.take n):=by
 rcases Zx n with rfl|h0
 ·exact .inl (by simp)
 ·obtain⟨b,o,sp⟩:=x
  have hspot:sp=none:=by simpa[Addr.add]using World.cell?_spot (hc 0 (by omega))
  subst hspot;refine .inr ⟨b,o,rfl,fun i hi=>?_⟩;have hl:i<zs.length:=by simp at hi;omega
  have hadd:(⟨b,o,none⟩:Addr).add i=⟨b,o+i,none⟩:=by unfold Addr.add;split<;>simp_all
  rw[<-hadd,hc i hl];simp[hl]
theorem Ab{H:Type}:∀(ss:List ByteArray),JC ss+ss.length<=Rows.uptoBulkAll (strs (H:=H) ss)
 | []=>by simp[JC,strs,Rows.uptoBulkAll]
 | s::r=>by
  have h:=Ab (H:=H) r;have e:strs (H:=H) (s::r)=.lit (.string s.data.toList)::strs r:=rfl;rw[e];simp only[Rows.uptoBulkAll,FW];have h1:JC (s::r)=s.size+JC r:=rfl;have h2:s.data.toList.length=s.size:=by rw[Array.length_toList];rfl
  simp only[ZK];omega
theorem Bo{H:Type}{enc:TypeId×Value->H}{W:World}{a:Option Addr}{n c:Nat}{d:DataW H}{p:List MemPlace}
  (h:DataW.Trod enc Tryz.prog W 0 (fun _=>true) true 22 (.slice a n c) d p):
  ∃T,Strs W a T/\T.length=n/\JC T+n<=Rows.uptoBulk d:=by
 obtain⟨fuel,hf⟩:=h;rcases open_strings Tryz.underlying22 Tryz.underlying9 (by kernel_rfl) hf with⟨hcs,_⟩|⟨x,l,c',ss,hcs,_,hl,hm,hz,hx,hcell,hsz⟩
 ·simp[Value.cells]at hcs
  obtain⟨rfl,rfl,rfl⟩:=hcs;exact⟨[],.inl rfl,rfl,Qe _⟩
 ·simp[Value.cells]at hcs
  obtain⟨rfl,rfl,rfl⟩:=hcs;simp only[if_true]at hz;have hlen:(ss.take n).length=n:=by simp;omega
  refine⟨ss.take n,Strs.ou hcell (by omega),hlen,?_⟩;obtain⟨rfl,-⟩:=Prod.mk.inj hx;have:=Ab (H:=H) (ss.take n);rw[hlen]at this;refine QL this ?_;simp only[Rows.uptoBulk];omega
end Go.Proofs.YtmdcencmiopmmaaGreat
namespace Go.Proofs.YtmdcencmiopmmaaGreat
open Go
theorem zb{P:Program}{m:Machine}{w:World}{t:Trace}(h:aloneAtReturn P m w t):leavingAtReturn P m w t:=
 ⟨h.2.1,⟨fun g hg=>⟨0,show g.status=.finished by have:=List.all_eq_true.1 h.1.1 g hg;simpa using this⟩,h.1.2⟩,h.2.2⟩
theorem VB{p:Pinned}{s:OpenSpec}{c:OpenClaim}(f:FuncId)(fn:Func)
  (hn:c.program=p.name) (hs:c.sum=p.sum) (hsp:c.spec=s.name)
  (hstart:c.start=.entering) (hout:c.outside=[]) (hin:c.inits=[]) (hun:c.under=none) (hi4:c.initsInPlace=[]/\c.initsUnfollowed=false/\c.initsRecurse=false/\c.initsNamed=[]/\c.initsPassed=[]) (hnb:c.noBlocks=false) (hlv:c.leaving=true) (hfo:c.followed=none) (hnar:c.narrowed=s.cond.isSome) (hstill:c.still=false)
  (hfn:p.checked.prog.funcNamed c.func=some f) (hf:p.checked.prog.funcs[f]? =some fn)
  (closed:joinedFacts p.checked.prog f fn s.bare c=true)
  (hinst:fn.isInstance p.checked.prog c.origin c.targs) (hwrap:fn.isWrapper p.checked.prog c.wrapper c.mainSum)
  (h:∀os:Os,os.Started->∀(H:Type) (enc:TypeId×Value->H),(∀a b,enc a=enc b->a=b)->∀F:Stop.Interp,
   ReturnsInHanded c.assume p.checked os f .any (c.pre enc p.checked.prog fn s) ((s.at F).post enc p.checked.prog fn c.apart c.fresh c.handsOn c.again)):c.holds p s:=by
 simp only[joinedFacts,Bool.and_eq_true,beq_iff_eq,Array.all_eq_true_iff_forall_mem,List.all_eq_true,Zq]at closed;obtain⟨⟨⟨⟨⟨⟨⟨⟨⟨⟨⟨⟨⟨⟨⟨⟨⟨⟨⟨⟨⟨⟨⟨⟨⟨⟨⟨⟨⟨⟨⟨k1,k2⟩,k3⟩,k4⟩,k5⟩,k6⟩,k7⟩,k8⟩,k9⟩,k10⟩,k11⟩,k12⟩,k13⟩,k14⟩,k15⟩,k16⟩,k17⟩,k17b⟩,k18⟩,k19⟩,k20⟩,k21⟩,k22⟩,k23⟩,k23b⟩,k24⟩,k24b⟩,k24c⟩,k25⟩,k26⟩,k27⟩,k28⟩:=closed;have hq:∀os:Os,Stop.quiet p.checked.prog os:=fun os k hk=>by rw[k9]at hk;cases hk
 refine⟨k1,hn,hs,hsp,k2,k3,by unfold OpenClaim.startFits;rw[hstart];exact k24,by unfold OpenClaim.startTold;rw[hstart];exact⟨hin,hun,hi4⟩,f,fn,hfn,hf,⟨k4,k19⟩,(fun hb=>by rw[hnb]at hb;cases hb),by unfold OpenClaim.namedList;rw[hfo];exact k5,hinst,hwrap,
  k6.trans k7.symm,⟨k8.trans k9.symm,by unfold Program.envWorded;rw[k9];rfl,k23b⟩,k10,k11,k12,k13,k14,⟨k15,k27,k28⟩,⟨k16,k20⟩,⟨k17,k21,k25,k26⟩,⟨k22,k24b,k24c,k17b⟩,(by rw[hout,hnar];cases hsh:c.shortTexts with|none=>simp|some _=>rw[hsh]at k23;cases k23),fun n hn'=>varReadable_some (k18 n hn'),
  ⟨_,by unfold OpenClaim.world;rw[hout,hstart];exact WideRow.started_initial,hq _⟩,[],by unfold OpenClaim.lists;rw[hfo],fun os st _ H enc inj=>?_⟩
 have st':os.Started:=by unfold OpenClaim.world at st;rw[hout,hstart]at st;exact st
 rw[OpenClaim.post_not_still hstill];unfold OpenClaim.form;rw[hstart,k6];intro F;have e1:c.okInput=Input.okWide:=by unfold OpenClaim.okInput;rw[hnb]
 have e2:c.atReturn p.checked.prog=leavingAtReturn p.checked.prog:=by unfold OpenClaim.atReturn;rw[hlv]
 have e3:c.always p.checked.prog []=nothingAlways:=by unfold OpenClaim.always;rw[hfo]
 have e4:s.post enc p.checked.prog fn F c.outside c.apart c.fresh c.handsOn c.again=(s.at F).post enc p.checked.prog fn c.apart c.fresh c.handsOn c.again:=by rw[hout];rfl
 rw[e1,e2,e3];show ReturnsInOpen _ _ _ _ _ _ _ _ (s.post enc p.checked.prog fn F c.outside c.apart c.fresh c.handsOn c.again) _ _;rw[e4];exact ReturnsInOpen.mono (fun _ _ _ q=>zb q) (fun _ x=>x) (h os st' H enc inj F k24)
end Go.Proofs.YtmdcencmiopmmaaGreat
