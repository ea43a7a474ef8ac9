/- LiftTopBounds: joined, no condition of its own. -/
import Derived.Test.YtmdcencmiopmmaaGreatTbJoinT
import Derived.Test.YtmdcencmiopmmaaGreatTbJoinJ19
import Derived.Test.YtmdcencmiopmmaaGreatTbJoinJ35
set_option linter.unusedVariables false
set_option linter.unusedSimpArgs false
set_option maxRecDepth 100000
set_option maxHeartbeats 12000000
namespace Go.Proofs.YtmdcencmiopmmaaGreat
open Go.RowKit
theorem gU(I:In)(hI:YC I)(fk fa:Int)(cm:C5)(hc0:0<=cm.a)(hc1:cm.a<=999):
  Calls Tryz.prog 202 #[.agg #[.slice I.a I.n I.c,.int .i64 (I.k:Int)],.agg (ZT I.vs),.agg #[.int .i64 fk,.int .i64 fa],.agg #[.int .i64 cm.a,.int .i64 cm.b,.int .i64 cm.c,.int .i64 cm.d,.int .i64 cm.e]] I.w0 (aR (Fh I cm fk fa).1 (Fh I cm fk fa).2 I.w0):=by
 have hlE:lnE I.n I.k=0:=by
  have:=hI.top;have:=hI.k1;unfold lnE;rw[if_neg (by omega),if_neg (by omega)]
 have hlv:=hI.O4.lv;have HI:=QQ hI;have HD:=QQ (fun(w:World) (hb:Below I.w0.heap.size I.w0 w)=>gq hI cm hb);have HT:=QQ (show I.t.length=I.n from hI.len);have htop:=hI.top;have HR:=QQ (fun(wx:World) (hb:Below I.w0.heap.size I.w0 wx)=>hI.ints.below hb);have HN0:=QQ hI.none;clear hI;have QXR:I.X.length=27:=HI.out.O4.lx;have HDR:=QQ (show Fh I cm fk fa=Fh I cm fk fa from rfl);obtain⟨w,a,n,c,t,k,vs,X⟩:=I;dsimp only at *;have hal:=Af;have hbl:=OE;have HE:=QQ hlE;clear hlE;have hbx:=tL w #[.slice a n c,.int .i64 (k:Int)] #[.int .i64 fk,.int .i64 fa] #[.int .i64 cm.a,.int .i64 cm.b,.int .i64 cm.c,.int .i64 cm.d,.int .i64 cm.e] vs Zo 30 36 34 87 277;dsimp only at hbx;rw[show ZT Zo=#[.slice none 0 0,.int .i64 0,.slice none 0 0,.slice none 0 0,.slice none 0 0,.slice none 0 0,.slice none 0 0,.slice none 0 0,.slice none 0 0,.slice none 0 0,.slice none 0 0,.slice none 0 0,.slice none 0 0,.slice none 0 0,.slice none 0 0,.slice none 0 0,.slice none 0 0,.slice none 0 0,.slice none 0 0,.slice none 0 0,.slice none 0 0,.slice none 0 0,.slice none 0 0,.slice none 0 0,.slice none 0 0,.slice none 0 0,.slice none 0 0,.slice none 0 0,.slice none 0 0,.int .i64 0,.int .i64 0,.int .i64 0,.slice none 0 0]from rfl]at hbx;go_enter Tryz.func202,Tryz.ntmps202
 go_upto_region 1 with fail
 generalize(((((w.alloc (.cells #[.slice a n c,.int .i64 (k:Int)] 30)).alloc (.cells (ZT vs) 36)).alloc (.cells #[.int .i64 fk,.int .i64 fa] 34)).alloc (.cells #[.int .i64 cm.a,.int .i64 cm.b,.int .i64 cm.c,.int .i64 cm.d,.int .i64 cm.e] 87)).alloc (.cells #[.slice none 0 0,.int .i64 0,.slice none 0 0,.slice none 0 0,.slice none 0 0,.slice none 0 0,.slice none 0 0,.slice none 0 0,.slice none 0 0,.slice none 0 0,.slice none 0 0,.slice none 0 0,.slice none 0 0,.slice none 0 0,.slice none 0 0,.slice none 0 0,.slice none 0 0,.slice none 0 0,.slice none 0 0,.slice none 0 0,.slice none 0 0,.slice none 0 0,.slice none 0 0,.slice none 0 0,.slice none 0 0,.slice none 0 0,.slice none 0 0,.slice none 0 0,.slice none 0 0,.int .i64 0,.int .i64 0,.int .i64 0,.slice none 0 0] 277))=w5 at *;obtain⟨hLn,hRg,hFd,hCm,hZ,hbw,hsz⟩:=hbx;obtain⟨l0,l1,-,-⟩:=hLn.two;go_upto_region 7 with(first|(go_at_call 228;go_loud (refine(IL a n c (k:Int) _).mono ?_;rintro e w8 ⟨rfl,ZU⟩;rw[HE.out];have hZ8:=hZ.below ZU hZ.lt;have Vu:=QQ (hbw.trans (ZU.mono (by omega)));have Xp:=hCm.below ZU hCm.lt;obtain⟨d0,d1,d2,d3,d4⟩:=QD.five Xp;have rT:=hLn.below ZU hLn.lt;obtain⟨p0,p1,-,-⟩:=QD.two rT;have QYP:=QQ rT;clear rT;have QQz:=QQ (hRg.below ZU hRg.lt);have QYS:=QQ (hFd.below ZU hFd.lt);have MH:=QQ Xp;clear Xp ZU))|(refine Jf rfl _ rfl (w.heap.size+1) rfl vs _ QQz.out hlv ?_)|((with_reducible show wpList _ _ _ (⟨_,Op.build _ _,_,_,_,_⟩::_) _ _);refine IP rfl _ _ _ rfl a n c (k:Int) vs cm rfl rfl rfl hlv ?_))
 have h9:=HD.out w8 Vu.out;have rR:=QYP.out.alloc (.cells (ZT (Kn a n c (k:Int) vs cm)) 302);have QXb:=QQz.out.alloc (.cells (ZT (Kn a n c (k:Int) vs cm)) 302);have sK:=QYS.out.alloc (.cells (ZT (Kn a n c (k:Int) vs cm)) 302);have hC9:=MH.out.alloc (.cells (ZT (Kn a n c (k:Int) vs cm)) 302);have hZ9:=hZ8.alloc (.cells (ZT (Kn a n c (k:Int) vs cm)) 302);have YN:=Vu.out.alloc Vu.out.size (.cells (ZT (Kn a n c (k:Int) vs cm)) 302);have PQ:w.heap.size+4<w8.heap.size:=hZ8.lt;clear Vu QYP QQz QYS MH hZ8 HD d0 d1 d2 d3 d4 p0 p1 l0 l1 hLn hRg hFd hCm hZ hbw hsz HE hal;generalize(w8.alloc (.cells (ZT (Kn a n c (k:Int) vs cm)) 302))=w9 at *;generalize w8.heap.size=P at *;obtain⟨p0,p1,-,-⟩:=QD.two rR;obtain⟨q0,q1,-,-⟩:=QD.two sK;have VF:=h9.lt;have CL:=QQ (fun(wx:World) (hb:Below w9.heap.size w9 wx)=>Ql a n c t wx ((HR.out w9 YN).below hb) HT.out (by omega) HN0.out);have H9:=QQ h9;have HB9:=QQ YN;have HZ9:=QQ hZ9;have HC9:=QQ hC9;have HF9:=QQ sK;have HG9:=QQ QXb;have HL9:=QQ rR;clear h9 YN hZ9 hC9 sK QXb rR
 go_cut [9] (fun v wx=>v=.int .i64 0/\(∃us,DI P wx us ⟨w,a,n,c,t,k,vs,X⟩ ⟨cm,t,k,UB,fk,fa,0,[]⟩)/\Z6 P w9 wx)
 case first=>
  refine wp_region_held_drew (S:=(fun w'=>w'.cell? ⟨w.heap.size,0,none⟩=some (.slice a n c)/\w'.cell? ⟨w.heap.size,1,none⟩=some (.int .i64 (k:Int))/\w'.cell? ⟨w.heap.size+1+1,0,none⟩=some (.int .i64 fk)/\w'.cell? ⟨w.heap.size+1+1,1,none⟩=some (.int .i64 fa))) (by kernel_rfl) ⟨p0,p1,q0,q1⟩ ?_;intro hSd;refine QF 0 ⟨some 34,.move (.tmp 11),_,_,_,_⟩ ((.pointer (some ⟨P,0,none⟩))) ?_;simp only[Act.put,QZ,QX,QY];refine QF 1 ⟨some 35,.fieldAddr 30 (.tmp 4) 0,_,_,_,_⟩ ((.pointer (some ⟨w.heap.size,0,none⟩))) ?_;simp only[Act.put,QZ,QX,QY];refine QF 2 ⟨some 36,.load 26 (.tmp 35),_,_,_,_⟩ ((.slice a n c)) ?_;simp only[Act.put,QZ,QX,QY];refine QF 4 ⟨some 38,.fieldAddr 30 (.tmp 4) 1,_,_,_,_⟩ ((.pointer (some ⟨w.heap.size,1,none⟩))) ?_;simp only[Act.put,QZ,QX,QY];refine QF 5 ⟨some 39,.load 3 (.tmp 38),_,_,_,_⟩ ((.int .i64 (k:Int))) ?_;simp only[Act.put,QZ,QX,QY];refine QF 7 ⟨some 41,.load 34 (.tmp 6),_,_,_,_⟩ ((.agg #[.int .i64 fk,.int .i64 fa])) ?_;simp only[Act.put,QZ,QX,QY];refine QO (rs:=[3]) (by kernel_rfl) (by simp) ?_;refine QA (o:=⟨some 37,_,_,_,_,_⟩) rfl (fun K hK=>?_) QI;go_simp;refine(CL.out _ (Qx _ _).drew).mono ?_;rintro e Lx ⟨v10,rfl,ai,Jj⟩;obtain⟨a10,n10,c10,rfl⟩:=ai.form;obtain⟨rs,hrs⟩:∃rs,BO (.slice a10 n10 c10) (k:Int) fk fa=rs:=⟨_,rfl⟩;have QXV:=R7 (v:=.slice a10 n10 c10) rfl (k:Int) fk fa;have QXv:(BO (.slice a10 n10 c10) (k:Int) fk fa).length=33:=rfl;have h10:=H9.out.to ((Qx _ _).drew.trans Jj);have QKW:Lx.there P 34 33:=fun j hj=>⟨by rw[h10.cell (by omega)];rfl,h10.free _⟩
  have H11:=QQ (h10.oQ (s':=⟨cm,t,k,UB,fk,fa,0,[]⟩) _ (Rq (ai.mono VF) cm k fk fa));rw[hrs]at QXV QXv H11;have bA:=(Z6.of (P:=P) ((Qx w9.heap.size w9).drew.trans Jj));have bu:=bA.trans (Z6.setCells (o:=34) rs);have e0:=bA.cell (by omega) p0;have e1:=bA.cell (by omega) p1;have e2:=bA.cell (by omega) q0;have e3:=bA.cell (by omega) q1;have g0:=bu.cell (by omega) p0;have g1:=bu.cell (by omega) p1;have g2:=bu.cell (by omega) q0;have g3:=bu.cell (by omega) q1;have QQI:=QQ bu;have DT:=QQ hrs;clear bu bA h10 hrs;dsimp only;refine hK.out _ _ ⟨e0,e1,e2,e3⟩ (fun hHeld=>?_);clear hK K;refine QO (rs:=[6]) (by kernel_rfl) (by simp) ?_;refine QA (o:=⟨some 40,_,_,_,_,_⟩) rfl (fun K hK=>?_) QI;go_simp;refine hK.out _ _ (by assumption) (fun hHeld=>?_);clear hK K;refine QO (rs:=[8]) (by kernel_rfl) (by simp) ?_;refine QA (o:=⟨some 42,_,_,_,_,_⟩) rfl (fun K hK=>?_) QI;rw[if_pos (by rfl)];refine uA _ _ rfl a10 n10 c10 (k:Int) fk fa rfl rfl ?_;rw[DT.out];simp only[Act.put,QZ,QX,QY];refine hK.out _ _ (by assumption) (fun hHeld=>?_);clear hK K;refine QF 9 ⟨some 43,.nilCheck (.tmp 34),_,_,_,_⟩ ((.pointer (some ⟨P,0,none⟩))) ?_;simp only[Act.put,QZ,QX,QY];refine QF 10 ⟨some 44,.fieldAddr 302 (.tmp 43) 3,_,_,_,_⟩ ((.pointer (some ⟨P,34,none⟩))) ?_;simp only[Act.put,QZ,QX,QY];refine QO (rs:=[11]) (by kernel_rfl) (by simp) ?_;refine QA (o:=⟨none,_,_,_,_,_⟩) rfl (fun K hK=>?_) QI;rw[if_pos (by rfl)];refine Am _ _ rfl P 34 rfl rs rfl QKW QXv QXV ?_;simp only[Act.put,QZ,QX,QY];refine hK.out _ _ ⟨g0,g1,g2,g3⟩ (fun hHeld=>?_);clear hK K;refine XO (by kernel_rfl) ?_ _;go_wp2;go_meet;exact⟨rfl,⟨_,H11.out⟩,QQI.out⟩
 obtain⟨rfl,⟨Mi,h1⟩,hA1⟩:=hcut;clear p0 p1;go_wp2
 go_loopw [45] (fun i wr=>∃j:Nat,i=.int .i64 (j:Int)/\j<=27/\(∃us,DI P wr us ⟨w,a,n,c,t,k,vs,X⟩ ⟨cm,t,k,X.take j++UB.drop j,fk,fa,0,[]⟩)/\Z6 P w9 wr) (fun i _=>27-(intOf i).toNat)
 case atStart=>exact⟨0,rfl,by omega,⟨Mi,by simpa using h1⟩,hA1⟩
 case round=>
  obtain⟨j,rfl,hj,⟨us2,h2⟩,hA2⟩:=hrel;by_cases hlt:j<27
  ·obtain⟨aj,nj,cj,eP,hl,-,-,hi,h0⟩:=(h2.rg HI.out).sl j hlt
   dsimp only at eP;replace hl:(rx X j).length=nj:=hl;replace hi:Ints wr aj (rx X j):=hi;have r0:=hA2.cell (b:=w.heap.size+1) (by omega) (HG9.out.cell (i:=j) (by rw[hlv];exact hlt));rw[eP]at r0;have hsm:(rx X j).length<=1048576:=HI.out.small j hlt;have CLJ:=QQ (Ql aj nj cj (rx X j) wr.drew (hi.drewN 1) hl (by omega) h0);have mM:=h2.cell (i:=36+j) (by omega);have f36:=h2.free (36+j);have H2:=QQ h2;have HA2:=QQ hA2;have hPr:=h2.lt;have hBr:w.heap.size+1<wr.heap.size:=Zv r0;clear hi hl h0 hsm h2 hA2 eP;go_upto_region 11 with fail
   go_region_held3 (fun w'=>w'.cell? ⟨w.heap.size+1,j,none⟩=some (.slice aj nj cj)) (first|exact r0|(with_reducible assumption)|exact e0|exact g0) (first|(go_at_call 43;go_loud (refine(CLJ.out).mono ?_;rintro e Lx ⟨v10,rfl,ai,Jj⟩;obtain⟨a10,n10,c10,rfl⟩:=ai.form;have h10:=H2.out.to ((Qx _ _).drew.trans Jj);have bA:=Z6.of (P:=P) ((Qx wr.heap.size wr).drew.trans Jj);have e0:=bA.cell (by omega) r0;have bu:=bA.trans (Z6.set (P:=P) (i:=36+j) (.slice a10 n10 c10));have g0:=bu.cell (by omega) r0;have c37:=h10.cell (i:=36+j) (by omega);have f37:=h10.free (36+j);have H11:=QQ (h10.oZ j hlt _ _ (ai.mono (Nat.succ_le_of_lt hPr)));have QQI:=QQ (HA2.out.trans bu);clear h10 bA bu)))
   all_goals
    go_wp2;go_roundw
    case rel=>exact⟨j+1,by go_num,by omega,⟨_,by rw[<-GN QXR hlt];exact H11.out⟩,QQI.out⟩
    case measure=>simp[intOf];omega
  ·obtain rfl:j=27:=by omega
   rw[GR QXR]at h2;have q2:=hA2.cell (b:=w.heap.size+2) (by omega) q0;obtain⟨d0,d1,d2,d3,d4⟩:=QD.five (hA2.blk (B:=w.heap.size+3) (by omega) HC9.out);have hZr:=hA2.blk (B:=w.heap.size+4) (by omega) HZ9.out;have HBr:=QQ (show Below w.heap.size w wr from h2.XW);have H2:=QQ h2;have hna:¬(cm.a<0\/999<cm.a):=by omega
   have HNA:=QQ hna;clear h2 hA2 q0 q1 hna d0 d1 d3 d4 HR CL HT;by_cases Ow:fk=0\/WL fk=true
   ·have HF:=QQ Ow
    have hds:fk=0\/fk=102\/fk=70\/fk=116\/fk=84:=by simpa[WL]using Ow
    clear Ow;by_cases hop:R4 cm.c=true
    ·have FM:=QQ hop
     have hos:cm.c=0\/cm.c=100\/cm.c=99\/cm.c=121:=by simpa[R4]using hop
     clear hop;have CO:=TP P us2 ⟨w,a,n,c,t,k,vs,X⟩ HI.out ⟨cm,t,k,X,fk,fa,0,[]⟩ wr H2.out hc0 hc1 HF.out;obtain⟨r1,r2,hr⟩:∃r1 r2,Fg ⟨w,a,n,c,t,k,vs,X⟩ ⟨uu cm,t,k,X,fk,fa,0,[]⟩=(r1,r2):=⟨_,_,rfl⟩;dsimp only at CO;rw[hr]at CO;have HCO:=QQ CO;have hdo:Fh ⟨w,a,n,c,t,k,vs,X⟩ cm fk fa=if r1≠0 then(r1,PV cm)else(0,r2):=by
      unfold Fh;rw[if_neg HNA.out,if_neg (fun h=>h HF.out),if_neg (by rw[FM.out];decide),hr]
     have aF:=QQ hdo;clear CO hr hdo;go_upto_block 2 with fail
     go_cut [62] (fun v wx=>v=.bool true/\wr=wx)
     case first=>
      rcases hds with rfl|rfl|rfl|rfl|rfl
      all_goals
       exact Quy
     obtain⟨rfl,rfl⟩:=hcut;clear hds q2;go_upto_block 3 with fail
     go_cut [71] (fun v wx=>v=.bool true/\wr=wx)
     case first=>
      rcases hos with e|e|e|e
      ·have x0:(cm.c==0)=true:=by rw[e];rfl
       have x1:(cm.c==100)=false:=by rw[e];rfl
       have x2:(cm.c==99)=false:=by rw[e];rfl
       exact QBV
      ·have x0:(cm.c==0)=false:=by rw[e];rfl
       have x1:(cm.c==100)=true:=by rw[e];rfl
       have x2:(cm.c==99)=false:=by rw[e];rfl
       exact QBV
      ·have x0:(cm.c==0)=false:=by rw[e];rfl
       have x1:(cm.c==100)=false:=by rw[e];rfl
       have x2:(cm.c==99)=true:=by rw[e];rfl
       exact QBV
      ·have x0:(cm.c==0)=false:=by rw[e];rfl
       have x1:(cm.c==100)=false:=by rw[e];rfl
       have x2:(cm.c==99)=false:=by rw[e];rfl
       have x3:(cm.c==121)=true:=by rw[e];rfl
       clear e;exact Quy
     obtain⟨rfl,rfl⟩:=hcut;clear hos d2;by_cases hz:r1=0
     ·subst hz
      go_wp2_with (first|(go_at_call 229;go_loud (refine(HCO.out).mono ?_;rintro e w3 ⟨rfl,⟨us3,h3⟩,hA3⟩;have hZ3:=hA3.blk (B:=w.heap.size+4) (by omega) hZr;have HB3:=QQ (show Below w.heap.size w w3 from h3.XW);have hl3:=jO h3.lu;have hr3:=h3.res.left (Xg w3 (w.heap.size+4) 0 (EB us3)) (by omega);have hg3:=h3.oJ;have ho3:=h3.res.one;generalize EB us3=rs at hl3 hr3 hg3 ho3;clear h3 hA3))|((with_reducible show wpList _ _ _ (⟨_,Op.load _ _,_,_,_,_⟩::_) _ _);refine Rj rfl _ rfl P 34 rfl rs hg3 hl3 ?_)|((with_reducible show wpList _ _ _ (⟨none,Op.store _ _ _,_,_,_,_⟩::_) _ _);refine WK rfl _ _ rfl (w.heap.size+4) 0 rfl rs rfl Zo _ hZ3 (QU 33) hl3 ho3 ?_;have zt:=Uo hZ3 X9 HB3.out (by omega) rs hl3;generalize w3.setCells (w.heap.size+4) 0 rs=w9' at zt hr3 ⊢))
      rw[aF.out,if_neg (by simp)];exact QV (Yc Tryz.results202 rfl (UY zt.1 hl3)) rfl ⟨rs,rfl,hr3.mono (by omega),zt.2⟩
     ·have nz:(r1 !=0)=true:=by simpa using hz
      have HZ:=QQ hz;clear hz;go_wp2_with (first|(go_at_call 229;go_loud (refine(HCO.out).mono ?_;rintro e w3 ⟨rfl,⟨us3,h3⟩,hA3⟩;have hZ3:=hA3.blk (B:=w.heap.size+4) (by omega) hZr;have HB3:=QQ (show Below w.heap.size w w3 from h3.XW);clear h3 hA3))|((with_reducible show wpList _ _ _ (⟨none,Op.store _ _ _,_,_,_,_⟩::_) _ _);go_loud (refine WK rfl _ _ rfl (w.heap.size+4) 0 rfl Zo rfl Zo _ hZ3 (QU 33) rfl Wd ?_;have zt:=Uo hZ3 X9 HB3.out (by omega) Zo rfl;generalize w3.setCells (w.heap.size+4) 0 Zo=w9 at zt ⊢)))
      rw[aF.out,if_pos HZ.out];exact QV (Yc Tryz.results202 rfl (UY zt.1 X9)) rfl ⟨Zo,rfl,jM _ _ _,zt.2⟩
    ·have hdo:Fh ⟨w,a,n,c,t,k,vs,X⟩ cm fk fa=(9,PV cm):=by
      unfold Fh;rw[if_neg HNA.out,if_neg (fun h=>h HF.out),if_pos (by simpa using hop)]
     have aF:=QQ hdo;have hos:¬(cm.c=0\/cm.c=100\/cm.c=99\/cm.c=121):=by simpa[R4]using hop
     have x0:(cm.c==0)=false:=by simp;omega
     have x1:(cm.c==100)=false:=by simp;omega
     have x2:(cm.c==99)=false:=by simp;omega
     have x3:(cm.c==121)=false:=by simp;omega
     clear hdo hop hos;go_upto_block 2 with fail
     go_cut [62] (fun v wx=>v=.bool true/\wr=wx)
     case first=>
      rcases hds with rfl|rfl|rfl|rfl|rfl
      all_goals
       exact Quy
     obtain⟨rfl,rfl⟩:=hcut;clear hds q2;exact QuN
   ·have hdo:Fh ⟨w,a,n,c,t,k,vs,X⟩ cm fk fa=(1,PV cm):=by
     unfold Fh;rw[if_neg HNA.out,if_pos Ow]
    have aF:=QQ hdo;have hds:¬(fk=0\/fk=102\/fk=70\/fk=116\/fk=84):=by simpa[WL]using Ow
    have x0:(fk==0)=false:=by simp;omega
    have x1:(fk==102)=false:=by simp;omega
    have x2:(fk==70)=false:=by simp;omega
    have x3:(fk==116)=false:=by simp;omega
    have x4:(fk==84)=false:=by simp;omega
    clear hdo Ow hds;exact QuN
theorem At.stB{F0 G0 F:Nat->Prop}{w0 w w':World}{B:Nat}{f f':Nat->Value}{S S':SS}(h:At F0 G0 w0 F w B f S)(hb:K9 w' B f')(hos:w'.os=w.os)(htp:w'.tape=w.tape)(hou:w'.output=w.output)(hsz:w'.heap.size=w.heap.size)
  (hs:∀k,k≠B->w'.heap[k]? =w.heap[k]?) (e47:f' 47=f 47) (e56:f' 56=f 56) (e57:f' 57=f 57) (hd:Vo F w f' S') (hS:S'.now=S.now/\S'.told=S.told/\S'.XK=S.XK):At F0 G0 w0 F w' B f' S':=by
 have hM:=h.hf.m;have hne:=hM.U4;have hF:Same F w w':=fun k hk=>hs k (fun e=>hM.nB (e▸hk))
 have Tu:Gx G0 w0 w'=Gx G0 w0 w:=by unfold Gx;rw[hsz]
 obtain⟨us,ho,he⟩:=hM.told;obtain⟨s1,s2,s3⟩:=hS;refine⟨⟨hos.trans h.step.os,htp.trans h.step.tape,hou.trans h.step.output,by rw[hsz];exact h.step.size,fun k hk hn=>?_⟩,fun k hk=>?_,h.sub,⟨?_,?_,?_,?_⟩⟩
 ·rw[hs k (fun e=>?_)]
  ·exact h.step.block k hk hn
  ·subst e
   exact QvE
 ·rw[hs k (h.lH k hk)];exact h.same k hk
 ·rw[Tu];exact h.hf.fg
 ·rw[Tu,hsz];exact h.hf.lt
 ·exact hd.keep hF.YZ hF.blk (fun _ h=>h)
 ·rw[Tu]
  exact {
   blk:=hb,nB:=hM.nB,gB:=hM.gB
   now:=by
    rw[e47,e57,s1];exact QvM
   told:=by
    rw[e56,s2];exact⟨us,ho.moved fun k hk=>hs k (hne k (.inl hk)),he.keep hF.YZ (fun _ h=>h)⟩
   Xb:=by rw[e56];exact hM.Xb
   XK:=by
    rw[e57,s3];exact hM.XK.moved fun k hk=>hs k (hne k (.inr (.inl hk)))
   Ya:=by rw[e57];exact hM.Ya}
theorem At.ng{F0 G0 F:Nat->Prop}{w0 w:World}{B:Nat}{f:Nat->Value}{S:SS}(c:C5)(h:At F0 G0 w0 F w B f S):
  At F0 G0 w0 F ((w.alloc (.cells #[.int .i64 c.a,.int .i64 c.b,.int .i64 c.c,.int .i64 c.d,.int .i64 c.e,.slice none 0 0] 219)).setCell ⟨B,47,none⟩ (.pointer (some ⟨w.heap.size,0,none⟩))) B (JQ f 47 (.pointer (some ⟨w.heap.size,0,none⟩))) {S with now:=some (c,[])}:=by
 have hb:=QC w (.cells #[.int .i64 c.a,.int .i64 c.b,.int .i64 c.c,.int .i64 c.d,.int .i64 c.e,.slice none 0 0] 219);have hC:=QD.new w #[.int .i64 c.a,.int .i64 c.b,.int .i64 c.c,.int .i64 c.d,.int .i64 c.e,.slice none 0 0] 219;have h1:=h.Xw hb;have hsize:(w.alloc (.cells #[.int .i64 c.a,.int .i64 c.b,.int .i64 c.c,.int .i64 c.d,.int .i64 c.e,.slice none 0 0] 219)).heap.size=w.heap.size+1:=QJ _ _;have hstep:=h.step.size;have hnF:¬F w.heap.size:=fun e=>by have:=h.Sy _ e;omega
 generalize(w.alloc (.cells #[.int .i64 c.a,.int .i64 c.b,.int .i64 c.c,.int .i64 c.d,.int .i64 c.e,.slice none 0 0] 219))=W at *;have hM:=h1.hf.m;have hne:=hM.U4;have hs:∀k,k≠B->(W.setCell ⟨B,47,none⟩ (.pointer (some ⟨w.heap.size,0,none⟩))).heap[k]? =W.heap[k]?:=fun k hk=>QP _ _ _ _ hk
 have hsz:(W.setCell ⟨B,47,none⟩ (.pointer (some ⟨w.heap.size,0,none⟩))).heap.size=W.heap.size:=size_setCell _ _ _;have hBlt:=h.hf.lt _ h.hf.m.gB;obtain⟨us,ho,he⟩:=hM.told;have hd:Vo F W (JQ f 47 (.pointer (some ⟨w.heap.size,0,none⟩))) {S with now:=some (c,[])}:={h1.hf.d with};refine⟨⟨h1.step.os,h1.step.tape,h1.step.output,by rw[hsz];exact h1.step.size,fun k hk hn=>?_⟩,fun k hk=>?_,h1.sub,⟨?_,?_,hd.setCell hM.nB,?_⟩⟩
 ·rw[hs k (fun e=>?_)]
  ·exact h1.step.block k hk hn
  ·subst e
   exact QvE
 ·rw[hs k (h1.lH k hk)];exact h1.same k hk
 ·rw[Gx.setCell];exact h1.hf.fg
 ·rw[Gx.setCell,hsz];exact h1.hf.lt
 ·rw[Gx.setCell]
  exact {
   blk:=hM.blk.set 47 _,nB:=hM.nB,gB:=hM.gB
   now:=by
    rw[YK];exact⟨w.heap.size,.slice none 0 0,rfl,hnF,.inr ⟨hstep,by omega⟩,QD.moved hC (hs _ (by omega)),Xv _ _ _ _,fun k hk=>by simp[Value.ownBlock]at hk⟩
   told:=⟨us,ho.moved fun k hk=>hs k (hne k (.inl hk)),he.keep (ZZ.setCell hM.nB _) (fun _ h=>h)⟩
   Xb:=hM.Xb
   XK:=hM.XK.moved fun k hk=>hs k (hne k (.inr (.inl hk)))
   Ya:=hM.Ya}
theorem Xq{B:Nat}(vs:List Value):∀(w:World) (o:Nat),(∀k,k≠B->(w.setCells B o vs).heap[k]? =w.heap[k]?)/\(w.setCells B o vs).os=w.os/\(w.setCells B o vs).tape=w.tape/\(w.setCells B o vs).output=w.output:=by
 induction vs with
 | nil=>intro w o;exact⟨fun _ _=>rfl,rfl,rfl,rfl⟩
 | cons v r ih=>
  intro w o;obtain⟨h1,h2,h3,h4⟩:=ih (w.setCell ⟨B,o,none⟩ v) (o+1);exact⟨fun k hk=>(h1 k hk).trans (QP _ _ _ _ hk),h2,h3,h4⟩
def bP(f:Nat->Value)(vs:List Value):Nat->Value:=fun x=>if 3<=x/\x<30 then vx vs (x-3)else f x
theorem K9.regs{w:World}{B:Nat}{f:Nat->Value}(h:K9 w B f)(vs:List Value)(hl:vs.length=27):K9 (w.setCells B 3 vs) B (bP f vs):=by
 have h1:=QD.setCells vs 3 h;have e:ow (jG f) 3 vs=jG (bP f vs):=by
  apply Array.ext_getElem?;intro i;by_cases hi:i<58
  ·rw[Rt _ _ _ _ (by simp[jG];exact hi),BH _ hi,BH _ hi]
   unfold bP;by_cases hc:3<=i/\i<30
   ·rw[if_pos (by omega),if_pos hc,UQ (by omega),Qr (by omega)]
   ·rw[if_neg (by omega),if_neg hc]
  ·rw[Array.getElem?_eq_none (by rw[Bl];simp[jG];omega),Array.getElem?_eq_none (by simp[jG];omega)]
 rw[e]at h1;exact h1
theorem Ry(f:Nat->Value)(vs:List Value)(hl:vs.length=27):O5 (bP f vs)=vs:=by
 refine List.ext_getElem (by rw[hl];rfl) fun i h1 h2=>?_
 have hi:i<27:=by rw[<-hl];exact h2
 have:=UQ h2;rw[<-this]
 match i,hi with
 | 0,_|1,_|2,_|3,_|4,_|5,_|6,_|7,_|8,_|9,_|10,_|11,_|12,_|13,_|14,_|15,_|16,_|17,_|18,_|19,_|20,_|21,_|22,_|23,_|24,_|25,_|26,_=>rfl
 | n+27,h=>exact absurd h (by omega)
theorem HF.range{F G:Nat->Prop}{w:World}{B:Nat}{f:Nat->Value}{S:SS}(h:HF F G w B f S):w.rangeAt B 3 (O5 f):=fun j v hv=>by
 have hj:j<27:=by
  rcases Qi j 27 with h|h
  ·exact h
  ·rw[List.getElem?_eq_none (by show 27<=j;exact h)]at hv;cases hv
 rw[h.m.blk.cell (by omega)];rw[<-hv]
 match j,hj with
 | 0,_|1,_|2,_|3,_|4,_|5,_|6,_|7,_|8,_|9,_|10,_|11,_|12,_|13,_|14,_|15,_|16,_|17,_|18,_|19,_|20,_|21,_|22,_|23,_|24,_|25,_|26,_=>rfl
 | n+27,h=>exact absurd h (by omega)
theorem HF.O4{F G:Nat->Prop}{w:World}{B:Nat}{f:Nat->Value}{S:SS}(h:HF F G w B f S):Ah w (O5 f) S.regs:=⟨rfl,h.d.lr,fun i hi=>(h.d.regs.2 i (by rw[h.d.lr];exact hi)).sl⟩
abbrev RdS(R:Nat)(rs:List Value)(oa:Option Addr)(on oc:Nat)(p fk fa md:Int)(yv:List Value)(w':World):Prop:=
 w'.rangeAt R 2 yv/\w'.cell? ⟨R,0,none⟩=some (.slice oa on oc)/\w'.cell? ⟨R,1,none⟩=some (.int .i64 p)/\w'.cell? ⟨R,29,none⟩=some (.int .i64 fk)/\w'.cell? ⟨R,30,none⟩=some (.int .i64 fa)/\w'.cell? ⟨R,31,none⟩=some (.int .i64 md)
theorem rdK{R B:Nat}{rs:List Value}{oa:Option Addr}{on oc:Nat}{p fk fa md:Int}{yv:List Value}{wa wb:World}(rH:R≠B)(h:RdS R rs oa on oc p fk fa md yv wa)(hk:∀k,k≠B->wb.heap[k]? =wa.heap[k]?):RdS R rs oa on oc p fk fa md yv wb:=by
 have hc:∀i,wb.cell? ⟨R,i,none⟩=wa.cell? ⟨R,i,none⟩:=fun i=>by unfold World.cell?;rw[hk R rH]
 obtain⟨h1,h2,h3,h4,h5,h6⟩:=h;exact⟨fun j v hv=>(hc _).trans (h1 j v hv),(hc _).trans h2,(hc _).trans h3,(hc _).trans h4,(hc _).trans h5,(hc _).trans h6⟩
def V5:Obj:=.cells (ZT Zo) 277
theorem Io(w:World):(Instr.alloc 277 true (.tuple #[])).run Tryz.prog w=.ok (.pointer (some ⟨w.heap.size,0,none⟩)) (w.alloc V5):=Af w
theorem yg{w:World}{R:Nat}(h:w.heap.size=R):ZY (w.alloc V5) R Zo 277:=by subst h;exact ZY.new w Zo _
theorem vL{w:World}{R:Nat}(h:w.heap.size=R):ZY (w.alloc (.cells #[.slice none 0 0,.int .i64 0,.slice none 0 0,.slice none 0 0,.slice none 0 0,.slice none 0 0,.slice none 0 0,.slice none 0 0,.slice none 0 0,.slice none 0 0,.slice none 0 0,.slice none 0 0,.slice none 0 0,.slice none 0 0,.slice none 0 0,.slice none 0 0,.slice none 0 0,.slice none 0 0,.slice none 0 0,.slice none 0 0,.slice none 0 0,.slice none 0 0,.slice none 0 0,.slice none 0 0,.slice none 0 0,.slice none 0 0,.slice none 0 0,.slice none 0 0,.slice none 0 0,.int .i64 0,.int .i64 0,.int .i64 0,.slice none 0 0] 277)) R Zo 277:=yg h
theorem ZY.YT{w:World}{B:Nat}{vs:List Value}{e:TypeId}(h:ZY w B vs e):ZY w.drew B vs e:=h
theorem ZY.Xu{w w':World}{B:Nat}{vs:List Value}{e:TypeId}(hb:Below w.heap.size w w')(h:ZY w B vs e):ZY w' B vs e:=h.below hb h.lt
theorem ZY.GL{w:World}{B:Nat}(h:ZY w B Zo 277):w.there B 0 33:=fun j hj=>⟨by rw[Zu,h.cell (by rw[X9];exact hj)];rfl,h.free _⟩
theorem BC{W:World}{R:Nat}{rs:List Value}(ht:W.there R 0 33)(hl:rs.length=33)(h1:∀v∈rs,v.oneCell'=true):(storeCells ⟨R,0,none⟩ (ZT rs).toList).run Tryz.prog W=.ok () (W.setCells R 0 rs):=by
 have:=run_storeCells_cells (P:=Tryz.prog) R 0 rs 0 W (fun j hj=>by have:=(ht j (by omega)).1;simpa using this) (fun j hj=>by have:=(ht j (by omega)).2;simpa using this) h1;simpa[ZT]using this
theorem Po{w:World}{rs:List Value}(hl:rs.length=33)(h1:∀v∈rs,v.oneCell'=true):(storeCells ⟨w.heap.size,0,none⟩ (ZT rs).toList).run Tryz.prog (w.alloc (.cells #[.slice none 0 0,.int .i64 0,.slice none 0 0,.slice none 0 0,.slice none 0 0,.slice none 0 0,.slice none 0 0,.slice none 0 0,.slice none 0 0,.slice none 0 0,.slice none 0 0,.slice none 0 0,.slice none 0 0,.slice none 0 0,.slice none 0 0,.slice none 0 0,.slice none 0 0,.slice none 0 0,.slice none 0 0,.slice none 0 0,.slice none 0 0,.slice none 0 0,.slice none 0 0,.slice none 0 0,.slice none 0 0,.slice none 0 0,.slice none 0 0,.slice none 0 0,.slice none 0 0,.int .i64 0,.int .i64 0,.int .i64 0,.slice none 0 0] 277))=.ok () ((w.alloc V5).setCells w.heap.size 0 rs):=BC (W:=w.alloc V5) (yg rfl).GL hl h1
def nW(B C:Nat)(f:Nat->Value)(S:SS)(c:C5)(w1 w':World):Prop:=
 w'.cell? ⟨B,30,none⟩=some (.int .i64 S.fk)/\w'.cell? ⟨B,31,none⟩=some (.int .i64 S.fa)/\w'.rangeAt B 3 (O5 f)/\w'.cell? ⟨C,0,none⟩=some (.int .i64 c.a)/\w'.cell? ⟨C,1,none⟩=some (.int .i64 c.b)/\w'.cell? ⟨C,2,none⟩=some (.int .i64 c.c)/\w'.cell? ⟨C,3,none⟩=some (.int .i64 c.d)/\w'.cell? ⟨C,4,none⟩=some (.int .i64 c.e)/\Below w1.heap.size w1 w'
theorem doK{B C:Nat}{f:Nat->Value}{S:SS}{c:C5}{w1 wa wb:World}(hB:B<w1.heap.size)(hC:C<w1.heap.size)(h:nW B C f S c w1 wa)(hb:Below w1.heap.size wa wb):nW B C f S c w1 wb:=by
 obtain⟨h1,h2,h3,h4,h5,h6,h7,h8,h9⟩:=h;exact⟨by rw[hb.cell hB];exact h1,by rw[hb.cell hB];exact h2,fun j v hv=>by rw[hb.cell hB];exact h3 j v hv,by rw[hb.cell hC];exact h4,by rw[hb.cell hC];exact h5,by rw[hb.cell hC];exact h6,by rw[hb.cell hC];exact h7,by rw[hb.cell hC];exact h8,h9.trans hb⟩
theorem QX9{B C:Nat}{f:Nat->Value}{S:SS}{c:C5}{w1 wa wb:World}(hB:B<w1.heap.size)(hC:C<w1.heap.size)(h:nW B C f S c w1 wa)(hb:Below wa.heap.size wa wb):nW B C f S c w1 wb:=doK hB hC h (hb.mono h.2.2.2.2.2.2.2.2.size)
theorem QUA{B C:Nat}{f:Nat->Value}{S:SS}{c:C5}{w1 wa:World}(hB:B<w1.heap.size)(hC:C<w1.heap.size)(h:nW B C f S c w1 wa)(o:Obj):nW B C f S c w1 (wa.alloc o):=QX9 hB hC h (QC _ _)
theorem QUv{B C:Nat}{f:Nat->Value}{S:SS}{c:C5}{w1 wa:World}(hB:B<w1.heap.size)(hC:C<w1.heap.size)(h:nW B C f S c w1 wa)(R:Nat)(cs:List Value)(hR:w1.heap.size<=R):nW B C f S c w1 (wa.setCells R 0 cs):=doK hB hC h (below_setCells hR cs 0 (Qx _ _))
structure OT (base:Nat) (w:World) (rs:List Value) (s:St):Prop where
 lr:rs.length=33
 o:Own 3 base w (vx rs 0) s.O
 p:vx rs 1=.int .i64 s.p
 ly:s.Y.length=27
 y:∀i,i<27->Own 3 base w (vx rs (2+i)) (rx s.Y i)
 f1:vx rs 29=.int .i64 s.fk
 f2:vx rs 30=.int .i64 s.fa
 m:vx rs 31=.int .i64 s.md
theorem FE.rsv{base:Nat}{w:World}{rs:List Value}{s:St}(h:FE base w rs s):OT base w rs s:=⟨h.lr,h.o,h.p,h.ly,h.y,h.f1,h.f2,h.m⟩
def GY(rs:List Value):List Value:=(rs.drop 2).take 27
theorem V6{rs:List Value}(h:rs.length=33):(GY rs).length=27:=by simp[GY,h]
theorem GX{rs:List Value}{i:Nat}(hi:i<27):vx (GY rs) i=vx rs (2+i):=by unfold GY;rw[bF hi,A7]
theorem ML{w:World}{R:Nat}{rs:List Value}{e:TypeId}(h:ZY w R rs e)(hl:rs.length=33):w.rangeAt R 2 (GY rs):=fun j v hv=>by
 have hj:j<27:=by
  rcases Qi j 27 with h|h
  ·exact h
  ·rw[List.getElem?_eq_none (by rw[V6 hl];exact h)]at hv;cases hv
 rw[h.cell (by omega),<-GX hj,UQ (by rw[V6 hl];exact hj)];rw[Qr (by rw[V6 hl];exact hj)]at hv;exact hv
theorem OT.one{base:Nat}{w:World}{rs:List Value}{s:St}(h:OT base w rs s):∀v∈GY rs,v.oneCell'=true:=fun v hv=>by
 obtain⟨i,hi,e⟩:=Zi.1 hv;have hi':i<27:=by rw[<-V6 h.lr];exact hi
 rw[<-e,<-UQ hi,GX hi'];obtain⟨a,n,c,e⟩:=(h.y i hi').form;rw[e];rfl
theorem OT.lists{base:Nat}{w:World}{rs:List Value}{s:St}{F:Nat->Prop}(h:OT base w rs s)(hF:∀k,base<=k/\k<w.heap.size->F k):XE F w (GY rs) s.Y:=
 ⟨by rw[V6 h.lr,h.ly],fun i hi=>by
  rw[h.ly]at hi;rw[GX hi];exact(h.y i hi).xB.lt.imp hF⟩
theorem OT.moved{base:Nat}{w w':World}{rs:List Value}{s:St}(h:OT base w rs s)(hk:∀k,base<=k->k<w.heap.size->w'.heap[k]? =w.heap[k]?):OT base w' rs s:=
 {h with o:=h.o.moved fun k e=>hk k (h.o.row k e) (h.o.yH k e),y:=fun i hi=>(h.y i hi).moved fun k e=>hk k ((h.y i hi).row k e) ((h.y i hi).yH k e)}
theorem OT.mono{base base':Nat}{w:World}{rs:List Value}{s:St}(h:OT base w rs s)(hb:base'<=base):OT base' w rs s:={h with o:=h.o.mono hb,y:=fun i hi=>(h.y i hi).mono hb}
theorem GD(c:C5)(w:World):Calls Tryz.prog 203 #[.agg #[.int .i64 c.a,.int .i64 c.b,.int .i64 c.c,.int .i64 c.d,.int .i64 c.e]] w fun e w'=>e=.returned (.bool (DX c))/\Below w.heap.size w w':=by
 obtain⟨ca,cb,cc,cd,ce⟩:=c;have hb:=QC w (.cells #[.int .i64 ca,.int .i64 cb,.int .i64 cc,.int .i64 cd,.int .i64 ce] 87);obtain⟨d0,d1,d2,d3,d4⟩:=QD.five (QD.new w #[.int .i64 ca,.int .i64 cb,.int .i64 cc,.int .i64 cd,.int .i64 ce] 87);go_enter Tryz.func203,Tryz.ntmps203
 go_wp2
 all_goals
  go_ret;exact⟨XZ (by unfold DX;clear d0 d1 d2 d3 d4 hb;first|(simp_all;done)|trace_state),hb⟩
end Go.Proofs.YtmdcencmiopmmaaGreat
