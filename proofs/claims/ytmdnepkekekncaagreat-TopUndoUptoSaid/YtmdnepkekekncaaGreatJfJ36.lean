/- joined, no condition of its own. -/
import Derived.Test.YtmdnepkekekncaaGreatJfJ35
set_option linter.unusedVariables false
set_option linter.unusedSimpArgs false
set_option maxRecDepth 100000
set_option maxHeartbeats 12000000
namespace Go.Proofs.YtmdnepkekekncaaGreat
open Go.RowKit
theorem QQf(I:In)(hI:Je I)(fk fa:Int)(cm:C5)(hc0:0<=cm.a)(hc1:cm.a<=999):
  Calls Tryz.prog 127 #[.agg #[.slice I.a I.n I.c,.int .i64 (I.k:Int)],.agg (Xo I.vs),.agg #[.int .i64 fk,.int .i64 fa],.agg #[.int .i64 cm.a,.int .i64 cm.b,.int .i64 cm.c,.int .i64 cm.d,.int .i64 cm.e]] I.w0 (oU (Mi I cm fk fa).1 (Mi I cm fk fa).2 I.w0):=by
 have hlE:lnE I.n I.k=0:=by
  have:=hI.top;have:=hI.k1;unfold lnE;rw[if_neg QQ,if_neg QQ]
 have hlv:=hI.bH.lv;have HI:=Zy hI;have HD:=Zy (fun(w:World) (hb:Below I.w0.heap.size I.w0 w)=>QQh hI cm hb);have HT:=Zy (show I.t.length=I.n from hI.len);have htop:=hI.top;have HR:=Zy (fun(wx:World) (hb:Below I.w0.heap.size I.w0 wx)=>hI.ints.below hb);have HN0:=Zy hI.none;clear hI;have QVd:I.X.length=27:=HI.out.bH.lx;have HDR:=Zy (show Mi I cm fk fa=Mi I cm fk fa from rfl);obtain⟨w,a,n,c,t,k,vs,X⟩:=I;dsimp only at *;have hal:=EL;have hbl:=aL;have HE:=Zy hlE;clear hlE;have hbx:=QJm w #[.slice a n c,.int .i64 (k:Int)] #[.int .i64 fk,.int .i64 fa] #[.int .i64 cm.a,.int .i64 cm.b,.int .i64 cm.c,.int .i64 cm.d,.int .i64 cm.e] vs YW 42 48 46 39 204;dsimp only at hbx;rw[show Xo YW=#[.slice none 0 0,.int .i64 0,.slice none 0 0,.slice none 0 0,.slice none 0 0,.slice none 0 0,.slice none 0 0,.slice none 0 0,.slice none 0 0,.slice none 0 0,.slice none 0 0,.slice none 0 0,.slice none 0 0,.slice none 0 0,.slice none 0 0,.slice none 0 0,.slice none 0 0,.slice none 0 0,.slice none 0 0,.slice none 0 0,.slice none 0 0,.slice none 0 0,.slice none 0 0,.slice none 0 0,.slice none 0 0,.slice none 0 0,.slice none 0 0,.slice none 0 0,.slice none 0 0,.int .i64 0,.int .i64 0,.int .i64 0,.slice none 0 0]from rfl]at hbx;go_enter Tryz.func127,Tryz.ntmps127
 go_upto_region 1 with fail
 generalize(((((w.alloc (.cells #[.slice a n c,.int .i64 (k:Int)] 42)).alloc (.cells (Xo vs) 48)).alloc (.cells #[.int .i64 fk,.int .i64 fa] 46)).alloc (.cells #[.int .i64 cm.a,.int .i64 cm.b,.int .i64 cm.c,.int .i64 cm.d,.int .i64 cm.e] 39)).alloc (.cells #[.slice none 0 0,.int .i64 0,.slice none 0 0,.slice none 0 0,.slice none 0 0,.slice none 0 0,.slice none 0 0,.slice none 0 0,.slice none 0 0,.slice none 0 0,.slice none 0 0,.slice none 0 0,.slice none 0 0,.slice none 0 0,.slice none 0 0,.slice none 0 0,.slice none 0 0,.slice none 0 0,.slice none 0 0,.slice none 0 0,.slice none 0 0,.slice none 0 0,.slice none 0 0,.slice none 0 0,.slice none 0 0,.slice none 0 0,.slice none 0 0,.slice none 0 0,.slice none 0 0,.int .i64 0,.int .i64 0,.int .i64 0,.slice none 0 0] 204))=w5 at *;obtain⟨hLn,hRg,hFd,hCm,hZ,hbw,hsz⟩:=hbx;obtain⟨l0,l1,-,-⟩:=hLn.two;go_upto_region 7 with(first|(go_at_call 144;go_loud (refine(Oh a n c (k:Int) _).mono ?_;rintro e w8 ⟨rfl,XH⟩;rw[HE.out];have hZ8:=hZ.below XH hZ.lt;have Wi:=Zy (hbw.trans (XH.mono QQ));have JJ:=hCm.below XH hCm.lt;obtain⟨d0,d1,d2,d3,d4⟩:=Za.five JJ;have QJY:=hLn.below XH hLn.lt;obtain⟨p0,p1,-,-⟩:=Za.two QJY;have QWg:=Zy QJY;clear QJY;have QKQ:=Zy (hRg.below XH hRg.lt);have QWn:=Zy (hFd.below XH hFd.lt);have Rt:=Zy JJ;clear JJ XH))|(refine UA rfl _ rfl (w.heap.size+1) rfl vs _ QKQ.out hlv ?_)|((with_reducible show wpList _ _ _ (⟨_,Op.build _ _,_,_,_,_⟩::_) _ _);refine Ol rfl _ _ _ rfl a n c (k:Int) vs cm rfl rfl rfl hlv ?_))
 have h9:=HD.out w8 Wi.out;have QJX:=QWg.out.alloc (.cells (Xo (Va a n c (k:Int) vs cm)) 227);have QVh:=QKQ.out.alloc (.cells (Xo (Va a n c (k:Int) vs cm)) 227);have QJW:=QWn.out.alloc (.cells (Xo (Va a n c (k:Int) vs cm)) 227);have hC9:=Rt.out.alloc (.cells (Xo (Va a n c (k:Int) vs cm)) 227);have hZ9:=hZ8.alloc (.cells (Xo (Va a n c (k:Int) vs cm)) 227);have Jp:=Wi.out.alloc Wi.out.size (.cells (Xo (Va a n c (k:Int) vs cm)) 227);have bR:w.heap.size+4<w8.heap.size:=hZ8.lt;clear Wi QWg QKQ QWn Rt hZ8 HD d0 d1 d2 d3 d4 p0 p1 l0 l1 hLn hRg hFd hCm hZ hbw hsz HE hal;generalize(w8.alloc (.cells (Xo (Va a n c (k:Int) vs cm)) 227))=w9 at *;generalize w8.heap.size=P at *;obtain⟨p0,p1,-,-⟩:=Za.two QJX;obtain⟨q0,q1,-,-⟩:=Za.two QJW;have qd:=h9.lt;have CL:=Zy (fun(wx:World) (hb:Below w9.heap.size w9 wx)=>XY a n c t wx ((HR.out w9 Jp).below hb) HT.out QQ HN0.out);have H9:=Zy h9;have HB9:=Zy Jp;have HZ9:=Zy hZ9;have HC9:=Zy hC9;have HF9:=Zy QJW;have HG9:=Zy QVh;have HL9:=Zy QJX;clear h9 Jp hZ9 hC9 QJW QVh QJX
 go_cut [9] (fun v wx=>v=.int .i64 0/\(∃us,DI P wx us ⟨w,a,n,c,t,k,vs,X⟩ ⟨cm,t,k,WK,fk,fa,0,[]⟩)/\Yk P w9 wx)
 case first=>
  refine wp_region_held_drew (S:=(fun w'=>w'.cell? ⟨w.heap.size,0,none⟩=some (.slice a n c)/\w'.cell? ⟨w.heap.size,1,none⟩=some (.int .i64 (k:Int))/\w'.cell? ⟨w.heap.size+1+1,0,none⟩=some (.int .i64 fk)/\w'.cell? ⟨w.heap.size+1+1,1,none⟩=some (.int .i64 fa))) QX ⟨p0,p1,q0,q1⟩ ?_;intro hSd;refine Ze 0 ⟨some 34,.move (.tmp 11),_,_,_,_⟩ ((.pointer (some ⟨P,0,none⟩))) ?_;simp only[Act.put,Zj,Zk,Zv];refine Ze 1 ⟨some 35,.fieldAddr 42 (.tmp 4) 0,_,_,_,_⟩ ((.pointer (some ⟨w.heap.size,0,none⟩))) ?_;simp only[Act.put,Zj,Zk,Zv];refine Ze 2 ⟨some 36,.load 22 (.tmp 35),_,_,_,_⟩ ((.slice a n c)) ?_;simp only[Act.put,Zj,Zk,Zv];refine Ze 4 ⟨some 38,.fieldAddr 42 (.tmp 4) 1,_,_,_,_⟩ ((.pointer (some ⟨w.heap.size,1,none⟩))) ?_;simp only[Act.put,Zj,Zk,Zv];refine Ze 5 ⟨some 39,.load 3 (.tmp 38),_,_,_,_⟩ ((.int .i64 (k:Int))) ?_;simp only[Act.put,Zj,Zk,Zv];refine Ze 7 ⟨some 41,.load 46 (.tmp 6),_,_,_,_⟩ ((.agg #[.int .i64 fk,.int .i64 fa])) ?_;simp only[Act.put,Zj,Zk,Zv];refine Zn (rs:=[3]) QX QJ ?_;refine ZT (o:=⟨some 37,_,_,_,_,_⟩) rfl (fun K hK=>?_) Zh;go_simp;refine(CL.out _ (ZH _ _).drew).mono ?_;rintro e Hl ⟨v10,rfl,oC,KI⟩;obtain⟨a10,n10,c10,rfl⟩:=oC.form;obtain⟨rs,hrs⟩:∃rs,Fy (.slice a10 n10 c10) (k:Int) fk fa=rs:=⟨_,rfl⟩;have QVV:=gF (v:=.slice a10 n10 c10) rfl (k:Int) fk fa;have QVv:(Fy (.slice a10 n10 c10) (k:Int) fk fa).length=33:=rfl;have h10:=H9.out.to ((ZH _ _).drew.trans KI);have Qzf:Hl.there P 34 33:=fun j hj=>⟨by rw[h10.cell QQ];rfl,h10.free _⟩
  have H11:=Zy (h10.QX6 (s':=⟨cm,t,k,WK,fk,fa,0,[]⟩) _ (eT (oC.mono qd) cm k fk fa));rw[hrs]at QVV QVv H11;have pY:=(Yk.of (P:=P) ((ZH w9.heap.size w9).drew.trans KI));have pX:=pY.trans (Yk.setCells (o:=34) rs);have e0:=pY.cell QQ p0;have e1:=pY.cell QQ p1;have e2:=pY.cell QQ q0;have e3:=pY.cell QQ q1;have g0:=pX.cell QQ p0;have g1:=pX.cell QQ p1;have g2:=pX.cell QQ q0;have g3:=pX.cell QQ q1;have QKu:=Zy pX;have IY:=Zy hrs;clear pX pY h10 hrs;dsimp only;refine hK.out _ _ ⟨e0,e1,e2,e3⟩ (fun hHeld=>?_);clear hK K;refine Zn (rs:=[6]) QX QJ ?_;refine ZT (o:=⟨some 40,_,_,_,_,_⟩) rfl (fun K hK=>?_) Zh;go_simp;refine hK.out _ _ QI (fun hHeld=>?_);clear hK K;refine Zn (rs:=[8]) QX QJ ?_;refine ZT (o:=⟨some 42,_,_,_,_,_⟩) rfl (fun K hK=>?_) Zh;rw[if_pos QDu];refine Cu _ _ rfl a10 n10 c10 (k:Int) fk fa rfl rfl ?_;rw[IY.out];simp only[Act.put,Zj,Zk,Zv];refine hK.out _ _ QI (fun hHeld=>?_);clear hK K;refine Ze 9 ⟨some 43,.nilCheck (.tmp 34),_,_,_,_⟩ ((.pointer (some ⟨P,0,none⟩))) ?_;simp only[Act.put,Zj,Zk,Zv];refine Ze 10 ⟨some 44,.fieldAddr 227 (.tmp 43) 3,_,_,_,_⟩ ((.pointer (some ⟨P,34,none⟩))) ?_;simp only[Act.put,Zj,Zk,Zv];refine Zn (rs:=[11]) QX QJ ?_;refine ZT (o:=⟨none,_,_,_,_,_⟩) rfl (fun K hK=>?_) Zh;rw[if_pos QDu];refine ER _ _ rfl P 34 rfl rs rfl Qzf QVv QVV ?_;simp only[Act.put,Zj,Zk,Zv];refine hK.out _ _ ⟨g0,g1,g2,g3⟩ (fun hHeld=>?_);clear hK K;refine Y0 QX ?_ _;go_wp2;go_meet;exact⟨rfl,⟨_,H11.out⟩,QKu.out⟩
 obtain⟨rfl,⟨Hm,h1⟩,hA1⟩:=hcut;clear p0 p1;go_wp2
 go_loopw [45] (fun i wr=>∃j:Nat,i=.int .i64 (j:Int)/\j<=27/\(∃us,DI P wr us ⟨w,a,n,c,t,k,vs,X⟩ ⟨cm,t,k,X.take j++WK.drop j,fk,fa,0,[]⟩)/\Yk P w9 wr) (fun i _=>27-(intOf i).toNat)
 case atStart=>exact⟨0,rfl,QQ,⟨Hm,QEX⟩,hA1⟩
 case round=>
  obtain⟨j,rfl,hj,⟨us2,h2⟩,hA2⟩:=hrel;by_cases hlt:j<27
  ·obtain⟨aj,nj,cj,hvj,hl,-,-,hi,h0⟩:=(h2.rg HI.out).sl j hlt
   dsimp only at hvj;replace hl:(rx X j).length=nj:=hl;replace hi:Ints wr aj (rx X j):=hi;have r0:=hA2.cell (b:=w.heap.size+1) QQ (HG9.out.cell (i:=j) (by rw[hlv];exact hlt));rw[hvj]at r0;have hsm:(rx X j).length<=1048576:=HI.out.small j hlt;have CLJ:=Zy (XY aj nj cj (rx X j) wr.drew (hi.drewN 1) hl QQ h0);have c36:=h2.cell (i:=36+j) QQ;have f36:=h2.free (36+j);have H2:=Zy h2;have HA2:=Zy hA2;have hPr:=h2.lt;have hBr:w.heap.size+1<wr.heap.size:=Xb r0;clear hi hl h0 hsm h2 hA2 hvj;go_upto_region 11 with fail
   go_region_held3 (fun w'=>w'.cell? ⟨w.heap.size+1,j,none⟩=some (.slice aj nj cj)) (first|exact r0|(with_reducible assumption)|exact e0|exact g0) (first|(go_at_call 31;go_loud (refine(CLJ.out).mono ?_;rintro e Hl ⟨v10,rfl,oC,KI⟩;obtain⟨a10,n10,c10,rfl⟩:=oC.form;have h10:=H2.out.to ((ZH _ _).drew.trans KI);have pY:=Yk.of (P:=P) ((ZH wr.heap.size wr).drew.trans KI);have e0:=pY.cell QQ r0;have pX:=pY.trans (Yk.set (P:=P) (i:=36+j) (.slice a10 n10 c10));have g0:=pX.cell QQ r0;have c37:=h10.cell (i:=36+j) QQ;have f37:=h10.free (36+j);have H11:=Zy (h10.QX7 j hlt _ _ (oC.mono (Nat.succ_le_of_lt hPr)));have QKu:=Zy (HA2.out.trans pX);clear h10 pY pX)))
   all_goals
    go_wp2;go_roundw
    case rel=>exact⟨j+1,Qy,QQ,⟨_,by rw[<-Nv QVd hlt];exact H11.out⟩,QKu.out⟩
    case measure=>simp[intOf];omega
  ·obtain rfl:j=27:=by omega
   rw[NA QVd]at h2;have q2:=hA2.cell (b:=w.heap.size+2) QQ q0;obtain⟨d0,d1,d2,d3,d4⟩:=Za.five (hA2.blk (B:=w.heap.size+3) QQ HC9.out);have hZr:=hA2.blk (B:=w.heap.size+4) QQ HZ9.out;have HBr:=Zy (show Below w.heap.size w wr from h2.Xw);have H2:=Zy h2;have hna:¬(cm.a<0\/999<cm.a):=QQ;have HNA:=Zy hna;clear h2 hA2 q0 q1 hna d0 d1 d3 d4 HR CL HT;by_cases bP:fk=0\/zA fk=true
   ·have HF:=Zy bP
    have hds:fk=0\/fk=102\/fk=70\/fk=116\/fk=84:=by simpa[zA]using bP
    clear bP;by_cases hop:gu cm.c=true
    ·have MO:=Zy hop
     have hos:cm.c=0\/cm.c=100\/cm.c=99\/cm.c=121:=by simpa[gu]using hop
     clear hop;have CO:=mY P us2 ⟨w,a,n,c,t,k,vs,X⟩ HI.out ⟨cm,t,k,X,fk,fa,0,[]⟩ wr H2.out hc0 hc1 HF.out;obtain⟨r1,r2,hr⟩:∃r1 r2,Mh ⟨w,a,n,c,t,k,vs,X⟩ ⟨Ck cm,t,k,X,fk,fa,0,[]⟩=(r1,r2):=⟨_,_,rfl⟩;dsimp only at CO;rw[hr]at CO;have HCO:=Zy CO;have hdo:Mi ⟨w,a,n,c,t,k,vs,X⟩ cm fk fa=if r1≠0 then(r1,cK cm)else(0,r2):=by
      unfold Mi;rw[if_neg HNA.out,if_neg (fun h=>h HF.out),if_neg (by rw[MO.out];decide),hr]
     have nT:=Zy hdo;clear CO hr hdo;go_upto_block 2 with fail
     go_cut [62] (fun v wx=>v=.bool true/\wr=wx)
     case first=>
      rcases hds with rfl|rfl|rfl|rfl|rfl
      all_goals
       exact QGe
     obtain⟨rfl,rfl⟩:=hcut;clear hds q2;go_upto_block 3 with fail
     go_cut [71] (fun v wx=>v=.bool true/\wr=wx)
     case first=>
      rcases hos with e|e|e|e
      ·have x0:(cm.c==0)=true:=by rw[e];rfl
       have x1:(cm.c==100)=false:=QDz;have x2:(cm.c==99)=false:=QDz;exact QLw
      ·have x0:(cm.c==0)=false:=by rw[e];rfl
       have x1:(cm.c==100)=true:=QDz;have x2:(cm.c==99)=false:=QDz;exact QLw
      ·have x0:(cm.c==0)=false:=by rw[e];rfl
       have x1:(cm.c==100)=false:=QDz;have x2:(cm.c==99)=true:=QDz;exact QLw
      ·have x0:(cm.c==0)=false:=by rw[e];rfl
       have x1:(cm.c==100)=false:=QDz;have x2:(cm.c==99)=false:=QDz;have x3:(cm.c==121)=true:=QDz;clear e;exact QGe
     obtain⟨rfl,rfl⟩:=hcut;clear hos d2;by_cases hz:r1=0
     ·subst hz
      go_wp2_with (first|(go_at_call 145;go_loud (refine(HCO.out).mono ?_;rintro e w3 ⟨rfl,⟨us3,h3⟩,hA3⟩;have hZ3:=hA3.blk (B:=w.heap.size+4) QQ hZr;have HB3:=Zy (show Below w.heap.size w w3 from h3.Xw);have hl3:=Ag h3.lu;have hr3:=h3.res.left (Y9 w3 (w.heap.size+4) 0 (I7 us3)) QQ;have hg3:=h3.QYZ;have ho3:=h3.res.one;generalize I7 us3=rs at hl3 hr3 hg3 ho3;clear h3 hA3))|((with_reducible show wpList _ _ _ (⟨_,Op.load _ _,_,_,_,_⟩::_) _ _);refine fU rfl _ rfl P 34 rfl rs hg3 hl3 ?_)|((with_reducible show wpList _ _ _ (⟨none,Op.store _ _ _,_,_,_,_⟩::_) _ _);refine ze rfl _ _ rfl (w.heap.size+4) 0 rfl rs rfl YW _ hZ3 (ZB 33) hl3 ho3 ?_;have kz:=Wl hZ3 Jv HB3.out QQ rs hl3;generalize w3.setCells (w.heap.size+4) 0 rs=w9' at kz hr3 ⊢))
      rw[nT.out,if_neg QJ];exact ZC (J7 Tryz.results127 rfl (Vr kz.1 hl3)) rfl ⟨rs,rfl,hr3.mono QQ,kz.2⟩
     ·have nz:(r1 !=0)=true:=by simpa using hz
      have HZ:=Zy hz;clear hz;go_wp2_with (first|(go_at_call 145;go_loud (refine(HCO.out).mono ?_;rintro e w3 ⟨rfl,⟨us3,h3⟩,hA3⟩;have hZ3:=hA3.blk (B:=w.heap.size+4) QQ hZr;have HB3:=Zy (show Below w.heap.size w w3 from h3.Xw);clear h3 hA3))|((with_reducible show wpList _ _ _ (⟨none,Op.store _ _ _,_,_,_,_⟩::_) _ _);go_loud (refine ze rfl _ _ rfl (w.heap.size+4) 0 rfl YW rfl YW _ hZ3 (ZB 33) rfl xM ?_;have kz:=Wl hZ3 Jv HB3.out QQ YW rfl;generalize w3.setCells (w.heap.size+4) 0 YW=w9 at kz ⊢)))
      rw[nT.out,if_pos HZ.out];exact ZC (J7 Tryz.results127 rfl (Vr kz.1 Jv)) rfl ⟨YW,rfl,Ae _ _ _,kz.2⟩
    ·have hdo:Mi ⟨w,a,n,c,t,k,vs,X⟩ cm fk fa=(9,cK cm):=by
      unfold Mi;rw[if_neg HNA.out,if_neg (fun h=>h HF.out),if_pos (by simpa using hop)]
     have nT:=Zy hdo;have hos:¬(cm.c=0\/cm.c=100\/cm.c=99\/cm.c=121):=by simpa[gu]using hop
     have x0:(cm.c==0)=false:=QY;have x1:(cm.c==100)=false:=QY;have x2:(cm.c==99)=false:=QY;have x3:(cm.c==121)=false:=QY;clear hdo hop hos;go_upto_block 2 with fail
     go_cut [62] (fun v wx=>v=.bool true/\wr=wx)
     case first=>
      rcases hds with rfl|rfl|rfl|rfl|rfl
      all_goals
       exact QGe
     obtain⟨rfl,rfl⟩:=hcut;clear hds q2;exact QHQ
   ·have hdo:Mi ⟨w,a,n,c,t,k,vs,X⟩ cm fk fa=(1,cK cm):=by
     unfold Mi;rw[if_neg HNA.out,if_pos bP]
    have nT:=Zy hdo;have hds:¬(fk=0\/fk=102\/fk=70\/fk=116\/fk=84):=by simpa[zA]using bP
    have x0:(fk==0)=false:=QY;have x1:(fk==102)=false:=QY;have x2:(fk==70)=false:=QY;have x3:(fk==116)=false:=QY;have x4:(fk==84)=false:=QY;clear hdo bP hds;exact QHQ
theorem At.stB{F0 G0 F:Nat->Prop}{w0 w w':World}{B:Nat}{f f':Nat->Value}{S S':SS}(h:At F0 G0 w0 F w B f S)(hb:Vl w' B f')(hos:w'.os=w.os)(htp:w'.tape=w.tape)(hou:w'.output=w.output)(hsz:w'.heap.size=w.heap.size)
  (hs:∀k,k≠B->w'.heap[k]? =w.heap[k]?) (e47:f' 47=f 47) (e56:f' 56=f 56) (e57:f' 57=f 57) (hd:zF F w f' S') (hS:S'.now=S.now/\S'.told=S.told/\S'.Yv=S.Yv):At F0 G0 w0 F w' B f' S':=by
 have hM:=h.hf.m;have hne:=hM.WU;have hF:Same F w w':=fun k hk=>hs k (fun e=>hM.nB (e▸hk))
 have lG:Gx G0 w0 w'=Gx G0 w0 w:=by unfold Gx;rw[hsz]
 obtain⟨us,ho,he⟩:=hM.told;obtain⟨s1,s2,s3⟩:=hS;refine⟨⟨hos.trans h.step.os,htp.trans h.step.tape,hou.trans h.step.output,QD8,fun k hk hn=>?_⟩,fun k hk=>?_,h.sub,⟨?_,?_,?_,?_⟩⟩
 ·rw[hs k (fun e=>?_)]
  ·exact h.step.block k hk hn
  ·subst e
   exact QH2
 ·rw[hs k (h.neB k hk)];exact h.same k hk
 ·rw[lG];exact h.hf.fg
 ·rw[lG,hsz];exact h.hf.lt
 ·exact hd.keep hF.JB hF.blk (fun _ h=>h)
 ·rw[lG]
  exact {
   blk:=hb,nB:=hM.nB,gB:=hM.gB
   now:=by
    rw[e47,e57,s1];exact QH6
   told:=by
    rw[e56,s2];exact⟨us,ho.moved fun k hk=>hs k (hne k (.inl hk)),he.keep hF.JB (fun _ h=>h)⟩
   Yi:=by rw[e56];exact hM.Yi
   Yv:=by
    rw[e57,s3];exact hM.Yv.moved fun k hk=>hs k (hne k (.inr (.inl hk)))
   J3:=by rw[e57];exact hM.J3}
theorem At.QX4{F0 G0 F:Nat->Prop}{w0 w:World}{B:Nat}{f:Nat->Value}{S:SS}(c:C5)(h:At F0 G0 w0 F w B f S):
  At F0 G0 w0 F ((w.alloc (.cells #[.int .i64 c.a,.int .i64 c.b,.int .i64 c.c,.int .i64 c.d,.int .i64 c.e,.slice none 0 0] 162)).setCell ⟨B,47,none⟩ (.pointer (some ⟨w.heap.size,0,none⟩))) B (KC f 47 (.pointer (some ⟨w.heap.size,0,none⟩))) {S with now:=some (c,[])}:=by
 have hb:=ZR w (.cells #[.int .i64 c.a,.int .i64 c.b,.int .i64 c.c,.int .i64 c.d,.int .i64 c.e,.slice none 0 0] 162);have hC:=Za.new w #[.int .i64 c.a,.int .i64 c.b,.int .i64 c.c,.int .i64 c.d,.int .i64 c.e,.slice none 0 0] 162;have h1:=h.JA hb;have hsize:(w.alloc (.cells #[.int .i64 c.a,.int .i64 c.b,.int .i64 c.c,.int .i64 c.d,.int .i64 c.e,.slice none 0 0] 162)).heap.size=w.heap.size+1:=Zu _ _;have hstep:=h.step.size;have hnF:¬F w.heap.size:=fun e=>by have:=h.gp _ e;omega
 generalize(w.alloc (.cells #[.int .i64 c.a,.int .i64 c.b,.int .i64 c.c,.int .i64 c.d,.int .i64 c.e,.slice none 0 0] 162))=W at *;have hM:=h1.hf.m;have hne:=hM.WU;have hs:∀k,k≠B->(W.setCell ⟨B,47,none⟩ (.pointer (some ⟨w.heap.size,0,none⟩))).heap[k]? =W.heap[k]?:=fun k hk=>Zl _ _ _ _ hk
 have hsz:(W.setCell ⟨B,47,none⟩ (.pointer (some ⟨w.heap.size,0,none⟩))).heap.size=W.heap.size:=size_setCell _ _ _;have hBlt:=h.hf.lt _ h.hf.m.gB;obtain⟨us,ho,he⟩:=hM.told;have hd:zF F W (KC f 47 (.pointer (some ⟨w.heap.size,0,none⟩))) {S with now:=some (c,[])}:={h1.hf.d with};refine⟨⟨h1.step.os,h1.step.tape,h1.step.output,by rw[hsz];exact h1.step.size,fun k hk hn=>?_⟩,fun k hk=>?_,h1.sub,⟨?_,?_,hd.setCell hM.nB,?_⟩⟩
 ·rw[hs k (fun e=>?_)]
  ·exact h1.step.block k hk hn
  ·subst e
   exact QH2
 ·rw[hs k (h1.neB k hk)];exact h1.same k hk
 ·rw[Gx.setCell];exact h1.hf.fg
 ·rw[Gx.setCell,hsz];exact h1.hf.lt
 ·rw[Gx.setCell]
  exact {
   blk:=hM.blk.set 47 _,nB:=hM.nB,gB:=hM.gB
   now:=by
    rw[JE];exact⟨w.heap.size,.slice none 0 0,rfl,hnF,.inr ⟨hstep,QQ⟩,Za.moved hC (hs _ QQ),Yu _ _ _ _,fun k hk=>QEs⟩
   told:=⟨us,ho.moved fun k hk=>hs k (hne k (.inl hk)),he.keep (Xv.setCell hM.nB _) (fun _ h=>h)⟩
   Yi:=hM.Yi
   Yv:=hM.Yv.moved fun k hk=>hs k (hne k (.inr (.inl hk)))
   J3:=hM.J3}
theorem YO{B:Nat}(vs:List Value):∀(w:World) (o:Nat),(∀k,k≠B->(w.setCells B o vs).heap[k]? =w.heap[k]?)/\(w.setCells B o vs).os=w.os/\(w.setCells B o vs).tape=w.tape/\(w.setCells B o vs).output=w.output:=by
 induction vs with
 | nil=>intro w o;exact⟨fun _ _=>rfl,rfl,rfl,rfl⟩
 | cons v r ih=>
  intro w o;obtain⟨h1,h2,h3,h4⟩:=ih (w.setCell ⟨B,o,none⟩ v) (o+1);exact⟨fun k hk=>(h1 k hk).trans (Zl _ _ _ _ hk),h2,h3,h4⟩
def pO(f:Nat->Value)(vs:List Value):Nat->Value:=fun x=>if 3<=x/\x<30 then vx vs (x-3)else f x
theorem Vl.regs{w:World}{B:Nat}{f:Nat->Value}(h:Vl w B f)(vs:List Value)(hl:vs.length=27):Vl (w.setCells B 3 vs) B (pO f vs):=by
 have h1:=Za.setCells vs 3 h;have e:ow (AR f) 3 vs=AR (pO f vs):=by
  apply Array.ext_getElem?;intro i;by_cases hi:i<58
  ·rw[gq _ _ _ _ (by simp[AR];exact hi),FU _ hi,FU _ hi]
   unfold pO;by_cases hc:3<=i/\i<30
   ·rw[if_pos QQ,if_pos hc,VB QQ,Z8 QQ]
   ·rw[if_neg QQ,if_neg hc]
  ·rw[Array.getElem?_eq_none (by rw[FP];simp[AR];omega),Array.getElem?_eq_none (by simp[AR];omega)]
 rw[e]at h1;exact h1
theorem fK(f:Nat->Value)(vs:List Value)(hl:vs.length=27):bI (pO f vs)=vs:=by
 refine List.ext_getElem (by rw[hl];rfl) fun i h1 h2=>?_
 have hi:i<27:=by rw[<-hl];exact h2
 have:=VB h2;rw[<-this]
 match i,hi with
 | 0,_|1,_|2,_|3,_|4,_|5,_|6,_|7,_|8,_|9,_|10,_|11,_|12,_|13,_|14,_|15,_|16,_|17,_|18,_|19,_|20,_|21,_|22,_|23,_|24,_|25,_|26,_=>rfl
 | n+27,h=>exact absurd h QQ
theorem HF.range{F G:Nat->Prop}{w:World}{B:Nat}{f:Nat->Value}{S:SS}(h:HF F G w B f S):w.rangeAt B 3 (bI f):=fun j v hv=>by
 have hj:j<27:=by
  rcases Z9 j 27 with h|h
  ·exact h
  ·rw[List.getElem?_eq_none (by show 27<=j;exact h)]at hv;cases hv
 rw[h.m.blk.cell QQ];rw[<-hv]
 match j,hj with
 | 0,_|1,_|2,_|3,_|4,_|5,_|6,_|7,_|8,_|9,_|10,_|11,_|12,_|13,_|14,_|15,_|16,_|17,_|18,_|19,_|20,_|21,_|22,_|23,_|24,_|25,_|26,_=>rfl
 | n+27,h=>exact absurd h QQ
theorem HF.bH{F G:Nat->Prop}{w:World}{B:Nat}{f:Nat->Value}{S:SS}(h:HF F G w B f S):EN w (bI f) S.regs:=⟨rfl,h.d.lr,fun i hi=>(h.d.regs.2 i (by rw[h.d.lr];exact hi)).sl⟩
abbrev RdS(R:Nat)(rs:List Value)(oa:Option Addr)(on oc:Nat)(p fk fa md:Int)(yv:List Value)(w':World):Prop:=
 w'.rangeAt R 2 yv/\w'.cell? ⟨R,0,none⟩=some (.slice oa on oc)/\w'.cell? ⟨R,1,none⟩=some (.int .i64 p)/\w'.cell? ⟨R,29,none⟩=some (.int .i64 fk)/\w'.cell? ⟨R,30,none⟩=some (.int .i64 fa)/\w'.cell? ⟨R,31,none⟩=some (.int .i64 md)
theorem rdK{R B:Nat}{rs:List Value}{oa:Option Addr}{on oc:Nat}{p fk fa md:Int}{yv:List Value}{wa wb:World}(hRB:R≠B)(h:RdS R rs oa on oc p fk fa md yv wa)(hk:∀k,k≠B->wb.heap[k]? =wa.heap[k]?):RdS R rs oa on oc p fk fa md yv wb:=by
 have hc:∀i,wb.cell? ⟨R,i,none⟩=wa.cell? ⟨R,i,none⟩:=fun i=>by unfold World.cell?;rw[hk R hRB]
 obtain⟨h1,h2,h3,h4,h5,h6⟩:=h;exact⟨fun j v hv=>(hc _).trans (h1 j v hv),(hc _).trans h2,(hc _).trans h3,(hc _).trans h4,(hc _).trans h5,(hc _).trans h6⟩
def zL:Obj:=.cells (Xo YW) 204
theorem PQ(w:World):(Instr.alloc 204 true (.tuple #[])).run Tryz.prog w=.ok (.pointer (some ⟨w.heap.size,0,none⟩)) (w.alloc zL):=EL w
theorem vL{w:World}{R:Nat}(h:w.heap.size=R):XG (w.alloc zL) R YW 204:=by subst h;exact XG.new w YW _
theorem Dc{w:World}{R:Nat}(h:w.heap.size=R):XG (w.alloc (.cells #[.slice none 0 0,.int .i64 0,.slice none 0 0,.slice none 0 0,.slice none 0 0,.slice none 0 0,.slice none 0 0,.slice none 0 0,.slice none 0 0,.slice none 0 0,.slice none 0 0,.slice none 0 0,.slice none 0 0,.slice none 0 0,.slice none 0 0,.slice none 0 0,.slice none 0 0,.slice none 0 0,.slice none 0 0,.slice none 0 0,.slice none 0 0,.slice none 0 0,.slice none 0 0,.slice none 0 0,.slice none 0 0,.slice none 0 0,.slice none 0 0,.slice none 0 0,.slice none 0 0,.int .i64 0,.int .i64 0,.int .i64 0,.slice none 0 0] 204)) R YW 204:=vL h
theorem XG.J2{w:World}{B:Nat}{vs:List Value}{e:TypeId}(h:XG w B vs e):XG w.drew B vs e:=h
theorem XG.Yc{w w':World}{B:Nat}{vs:List Value}{e:TypeId}(hb:Below w.heap.size w w')(h:XG w B vs e):XG w' B vs e:=h.below hb h.lt
theorem XG.Nk{w:World}{B:Nat}(h:XG w B YW 204):w.there B 0 33:=fun j hj=>⟨by rw[XI,h.cell (by rw[Jv];exact hj)];rfl,h.free _⟩
theorem FQ{W:World}{R:Nat}{rs:List Value}(ht:W.there R 0 33)(hl:rs.length=33)(h1:∀v∈rs,v.oneCell'=true):(storeCells ⟨R,0,none⟩ (Xo rs).toList).run Tryz.prog W=.ok () (W.setCells R 0 rs):=by
 have:=run_storeCells_cells (P:=Tryz.prog) R 0 rs 0 W (fun j hj=>by have:=(ht j QQ).1;simpa using this) (fun j hj=>by have:=(ht j QQ).2;simpa using this) h1;simpa[Xo]using this
theorem dR{w:World}{rs:List Value}(hl:rs.length=33)(h1:∀v∈rs,v.oneCell'=true):(storeCells ⟨w.heap.size,0,none⟩ (Xo rs).toList).run Tryz.prog (w.alloc (.cells #[.slice none 0 0,.int .i64 0,.slice none 0 0,.slice none 0 0,.slice none 0 0,.slice none 0 0,.slice none 0 0,.slice none 0 0,.slice none 0 0,.slice none 0 0,.slice none 0 0,.slice none 0 0,.slice none 0 0,.slice none 0 0,.slice none 0 0,.slice none 0 0,.slice none 0 0,.slice none 0 0,.slice none 0 0,.slice none 0 0,.slice none 0 0,.slice none 0 0,.slice none 0 0,.slice none 0 0,.slice none 0 0,.slice none 0 0,.slice none 0 0,.slice none 0 0,.slice none 0 0,.int .i64 0,.int .i64 0,.int .i64 0,.slice none 0 0] 204))=.ok () ((w.alloc zL).setCells w.heap.size 0 rs):=FQ (W:=w.alloc zL) (vL rfl).Nk hl h1
def DoS(B C:Nat)(f:Nat->Value)(S:SS)(c:C5)(w1 w':World):Prop:=
 w'.cell? ⟨B,30,none⟩=some (.int .i64 S.fk)/\w'.cell? ⟨B,31,none⟩=some (.int .i64 S.fa)/\w'.rangeAt B 3 (bI f)/\w'.cell? ⟨C,0,none⟩=some (.int .i64 c.a)/\w'.cell? ⟨C,1,none⟩=some (.int .i64 c.b)/\w'.cell? ⟨C,2,none⟩=some (.int .i64 c.c)/\w'.cell? ⟨C,3,none⟩=some (.int .i64 c.d)/\w'.cell? ⟨C,4,none⟩=some (.int .i64 c.e)/\Below w1.heap.size w1 w'
theorem doK{B C:Nat}{f:Nat->Value}{S:SS}{c:C5}{w1 wa wb:World}(hB:B<w1.heap.size)(hC:C<w1.heap.size)(h:DoS B C f S c w1 wa)(hb:Below w1.heap.size wa wb):DoS B C f S c w1 wb:=by
 obtain⟨h1,h2,h3,h4,h5,h6,h7,h8,h9⟩:=h;exact⟨QFY,QFX,fun j v hv=>by rw[hb.cell hB];exact h3 j v hv,by rw[hb.cell hC];exact h4,by rw[hb.cell hC];exact h5,by rw[hb.cell hC];exact h6,by rw[hb.cell hC];exact h7,by rw[hb.cell hC];exact h8,h9.trans hb⟩
theorem QWq{B C:Nat}{f:Nat->Value}{S:SS}{c:C5}{w1 wa wb:World}(hB:B<w1.heap.size)(hC:C<w1.heap.size)(h:DoS B C f S c w1 wa)(hb:Below wa.heap.size wa wb):DoS B C f S c w1 wb:=doK hB hC h (hb.mono h.2.2.2.2.2.2.2.2.size)
theorem Qx1{B C:Nat}{f:Nat->Value}{S:SS}{c:C5}{w1 wa:World}(hB:B<w1.heap.size)(hC:C<w1.heap.size)(h:DoS B C f S c w1 wa)(o:Obj):DoS B C f S c w1 (wa.alloc o):=QWq hB hC h (ZR _ _)
theorem Qx0{B C:Nat}{f:Nat->Value}{S:SS}{c:C5}{w1 wa:World}(hB:B<w1.heap.size)(hC:C<w1.heap.size)(h:DoS B C f S c w1 wa)(R:Nat)(cs:List Value)(hR:w1.heap.size<=R):DoS B C f S c w1 (wa.setCells R 0 cs):=doK hB hC h (below_setCells hR cs 0 (ZH _ _))
structure ag (base:Nat) (w:World) (rs:List Value) (s:St):Prop where
 lr:rs.length=33
 o:Own 3 base w (vx rs 0) s.O
 p:vx rs 1=.int .i64 s.p
 ly:s.Y.length=27
 y:∀i,i<27->Own 3 base w (vx rs (2+i)) (rx s.Y i)
 f1:vx rs 29=.int .i64 s.fk
 f2:vx rs 30=.int .i64 s.fa
 m:vx rs 31=.int .i64 s.md
theorem MI.rsv{base:Nat}{w:World}{rs:List Value}{s:St}(h:MI base w rs s):ag base w rs s:=⟨h.lr,h.o,h.p,h.ly,h.y,h.f1,h.f2,h.m⟩
def M3(rs:List Value):List Value:=(rs.drop 2).take 27
theorem zM{rs:List Value}(h:rs.length=33):(M3 rs).length=27:=by simp[M3,h]
theorem M0{rs:List Value}{i:Nat}(hi:i<27):vx (M3 rs) i=vx rs (2+i):=by unfold M3;rw[pW hi,Eb]
theorem R4{w:World}{R:Nat}{rs:List Value}{e:TypeId}(h:XG w R rs e)(hl:rs.length=33):w.rangeAt R 2 (M3 rs):=fun j v hv=>by
 have hj:j<27:=by
  rcases Z9 j 27 with h|h
  ·exact h
  ·rw[List.getElem?_eq_none (by rw[zM hl];exact h)]at hv;cases hv
 rw[h.cell QQ,<-M0 hj,VB (by rw[zM hl];exact hj)];rw[Z8 (by rw[zM hl];exact hj)]at hv;exact hv
theorem ag.one{base:Nat}{w:World}{rs:List Value}{s:St}(h:ag base w rs s):∀v∈M3 rs,v.oneCell'=true:=fun v hv=>by
 obtain⟨i,hi,e⟩:=XN.1 hv;have hi':i<27:=by rw[<-zM h.lr];exact hi
 rw[<-e,<-VB hi,M0 hi'];obtain⟨a,n,c,e⟩:=(h.y i hi').form;rw[e];rfl
theorem ag.lists{base:Nat}{w:World}{rs:List Value}{s:St}{F:Nat->Prop}(h:ag base w rs s)(hF:∀k,base<=k/\k<w.heap.size->F k):Yh F w (M3 rs) s.Y:=
 ⟨by rw[zM h.lr,h.ly],fun i hi=>by
  rw[h.ly]at hi;rw[M0 hi];exact(h.y i hi).uX.lt.imp hF⟩
theorem ag.moved{base:Nat}{w w':World}{rs:List Value}{s:St}(h:ag base w rs s)(hk:∀k,base<=k->k<w.heap.size->w'.heap[k]? =w.heap[k]?):ag base w' rs s:=
 {h with o:=h.o.moved fun k e=>hk k (h.o.row k e) (h.o.vz k e),y:=fun i hi=>(h.y i hi).moved fun k e=>hk k ((h.y i hi).row k e) ((h.y i hi).vz k e)}
theorem ag.mono{base base':Nat}{w:World}{rs:List Value}{s:St}(h:ag base w rs s)(hb:base'<=base):ag base' w rs s:={h with o:=h.o.mono hb,y:=fun i hi=>(h.y i hi).mono hb}
theorem NV(c:C5)(w:World):Calls Tryz.prog 128 #[.agg #[.int .i64 c.a,.int .i64 c.b,.int .i64 c.c,.int .i64 c.d,.int .i64 c.e]] w fun e w'=>e=.returned (.bool (kH c))/\Below w.heap.size w w':=by
 obtain⟨ca,cb,cc,cd,ce⟩:=c;have hb:=ZR w (.cells #[.int .i64 ca,.int .i64 cb,.int .i64 cc,.int .i64 cd,.int .i64 ce] 39);obtain⟨d0,d1,d2,d3,d4⟩:=Za.five (Za.new w #[.int .i64 ca,.int .i64 cb,.int .i64 cc,.int .i64 cd,.int .i64 ce] 39);go_enter Tryz.func128,Tryz.ntmps128
 go_wp2
 all_goals
  go_ret;exact⟨Xg (by unfold kH;clear d0 d1 d2 d3 d4 hb;first|(simp_all;done)|trace_state),hb⟩
end Go.Proofs.YtmdnepkekekncaaGreat
