/- joined, no condition of its own. -/
import Derived.Test.YtmdnepkekekncaaGreatJfJ45
set_option linter.unusedVariables false
set_option linter.unusedSimpArgs false
set_option maxRecDepth 100000
set_option maxHeartbeats 12000000
namespace Go.Proofs.YtmdnepkekekncaaGreat
open Go.RowKit
abbrev LkS(B:Nat)(S:SS)(pv rv:Value)(w':World):Prop:=
 w'.cell? ⟨B,2,none⟩=some (.int .i64 S.mode)/\w'.cell? ⟨B,30,none⟩=some (.int .i64 S.fk)/\w'.cell? ⟨B,31,none⟩=some (.int .i64 S.fa)/\w'.cell? ⟨B,32,none⟩=some (.int .i64 S.part.a)/\w'.cell? ⟨B,33,none⟩=some (.int .i64 S.part.b)/\w'.cell? ⟨B,34,none⟩=some (.int .i64 S.part.c)/\w'.cell? ⟨B,35,none⟩=some (.int .i64 S.part.d)/\w'.cell? ⟨B,36,none⟩=some (.int .i64 S.part.e)/\w'.cell? ⟨B,43,none⟩=some pv/\w'.cell? ⟨B,51,none⟩=some (.int .i64 S.off)/\w'.cell? ⟨B,53,none⟩=some rv/\w'.cell? ⟨B,54,none⟩=some (.int .i64 S.rat)/\w'.cell? ⟨B,55,none⟩=some (.bool S.over)
theorem zU{B:Nat}{S:SS}{pv rv:Value}{w1 wb:World}(hB:B<w1.heap.size)(h:LkS B S pv rv w1.drew)(hb:Below w1.heap.size w1 wb):LkS B S pv rv wb:=by
 obtain⟨h1,h2,h3,h4,h5,h6,h7,h8,h9,h10,h11,h12,bS⟩:=h;exact⟨QFY,QFX,by rw[hb.cell hB];exact h3,by rw[hb.cell hB];exact h4,by rw[hb.cell hB];exact h5,by rw[hb.cell hB];exact h6,by rw[hb.cell hB];exact h7,by rw[hb.cell hB];exact h8,by rw[hb.cell hB];exact h9,by rw[hb.cell hB];exact h10,by rw[hb.cell hB];exact h11,by rw[hb.cell hB];exact h12,by rw[hb.cell hB];exact bS⟩
theorem pG(F G:Nat->Prop)(B K:Nat)(S:SS)(w:World)(h:YF F G w B S)(hI:Xz K S)(hw:S.row.length<=4096):
  Calls Tryz.prog 16 #[.pointer (some ⟨B,0,none⟩)] w (Hu S w):=by
 obtain⟨f,hf⟩:=h;have hb1:=ZR w YS;have hZ1:=Vy (w:=w) rfl;have hA1:=(At.begin hf).JA hb1;have hBl:=hf.vz;have HI:=Zy hI;clear hI hf;go_enter Tryz.func16,Tryz.ntmps16
 go_upto_region 1 with fail
 have hz1:(w.alloc YS).heap.size=w.heap.size+1:=Zu _ _;obtain⟨w1,hW1⟩:∃w1,(w.alloc (.cells #[.slice none 0 0,.int .i64 0,.int .i64 0,.int .i64 0,.int .i64 0,.int .i64 0,.int .i64 0,.int .i64 0,.int .i64 0,.int .i64 0,.slice none 0 0,.slice none 0 0,.slice none 0 0,.slice none 0 0,.slice none 0 0,.slice none 0 0,.slice none 0 0,.slice none 0 0,.slice none 0 0,.slice none 0 0,.slice none 0 0,.slice none 0 0,.slice none 0 0,.slice none 0 0,.slice none 0 0,.slice none 0 0,.slice none 0 0,.slice none 0 0,.slice none 0 0,.slice none 0 0,.slice none 0 0,.slice none 0 0,.slice none 0 0,.slice none 0 0,.slice none 0 0,.slice none 0 0,.slice none 0 0,.int .i64 0,.slice none 0 0,.int .i64 0,.bool false,.slice none 0 0,.int .i64 0,.int .i64 0] 53))=w1:=⟨_,rfl⟩;have hW2:w.alloc YS=w1:=hW1;rw[hW1];rw[hW2]at hb1 hZ1 hA1 hz1;have HW1:=Zy hW1;have HZ1:=Zy hz1;clear hW1 hW2 hz1;have hdr:w1.drew.heap.size=w1.heap.size:=rfl;have hB1:B<w1.heap.size:=hA1.hf.vz;obtain⟨us,hps,hsn⟩:=hA1.hf.d.past.get;have BC:=hps;obtain⟨a43,n43,k43,e43,-⟩:=hps;rw[e43]at BC;have hn43:n43=S.past.length:=BC.get.1.symm.trans hsn.1;obtain⟨a53,n53,k53,e53⟩:∃a n k,f 53=.slice a n k:=by obtain⟨a,n,k,e,-⟩:=hA1.hf.d.row.sl;exact⟨a,n,k,e⟩
 have hrow:=hA1.hf.d.row;rw[e53]at hrow;have c2:=hA1.hf.cell 2;have UE:=hA1.hf.cell 30;have c31:=hA1.hf.cell 31;have c32:=hA1.hf.cell 32;have Ko:=hA1.hf.cell 33;have c34:=hA1.hf.cell 34;have yx:=hA1.hf.cell 35;have c36:=hA1.hf.cell 36;have oM:=hA1.hf.cell 43;have c51:=hA1.hf.cell 51;have c53:=hA1.hf.cell 53;have c54:=hA1.hf.cell 54;have c55:=hA1.hf.cell 55;rw[hA1.hf.d.mode]at c2;rw[hA1.hf.d.fk]at UE;rw[hA1.hf.d.fa]at c31;rw[hA1.hf.d.p0]at c32;rw[hA1.hf.d.p1]at Ko;rw[hA1.hf.d.p2]at c34;rw[hA1.hf.d.p3]at yx;rw[hA1.hf.d.p4]at c36;rw[e43]at oM;rw[hA1.hf.d.off]at c51;rw[e53]at c53;rw[hA1.hf.d.rat]at c54;rw[hA1.hf.d.over]at c55;have HA1:=Zy hA1;have HRW:=Zy hrow;have uh:=Zy (fun(w':World) (hb:Below w1.heap.size w1 w')=>Ed _ _ B S w' ⟨f,(HA1.out.JA hb).hf⟩ QFV);have HCL:=Zy (fun(w':World) (hb:Below w1.heap.size w1 w')=>XY a53 n53 k53 S.row w' (hrow.get.2.2.2.1.below hb) hrow.get.1 (by have:=hrow.get.1;omega) hrow.get.2.2.2.2);have HN:=Zy hn43;clear hA1 hrow hsn BC e43 e53 hn43;have hal:=CK;have hS1:LkS B S (.slice a43 n43 k43) (.slice a53 n53 k53) w1.drew:=⟨c2,UE,c31,c32,Ko,c34,yx,c36,oM,c51,c53,c54,c55⟩
 go_cut [3] (fun v3 wx=>∃R v r,v3=.pointer (some ⟨R,0,none⟩)/\IQ S w1 wx R v r (.slice none 0 0) XB [] 0 0 n43 0)
 case first=>
  refine wp_region_held_drew (S:=(fun w'=>w'.cell? ⟨B,2,none⟩=some (.int .i64 S.mode)/\w'.cell? ⟨B,30,none⟩=some (.int .i64 S.fk)/\w'.cell? ⟨B,31,none⟩=some (.int .i64 S.fa)/\w'.cell? ⟨B,32,none⟩=some (.int .i64 S.part.a)/\w'.cell? ⟨B,33,none⟩=some (.int .i64 S.part.b)/\w'.cell? ⟨B,34,none⟩=some (.int .i64 S.part.c)/\w'.cell? ⟨B,35,none⟩=some (.int .i64 S.part.d)/\w'.cell? ⟨B,36,none⟩=some (.int .i64 S.part.e)/\w'.cell? ⟨B,43,none⟩=some (.slice a43 n43 k43)/\w'.cell? ⟨B,51,none⟩=some (.int .i64 S.off)/\w'.cell? ⟨B,53,none⟩=some (.slice a53 n53 k53)/\w'.cell? ⟨B,54,none⟩=some (.int .i64 S.rat)/\w'.cell? ⟨B,55,none⟩=some (.bool S.over))) QX hS1 ?_;intro hSd;refine Ze 0 ⟨some 8,.move (.tmp 0),_,_,_,_⟩ ((.pointer (some ⟨B,0,none⟩))) ?_;simp only[Act.put,Zj,Zk,Zv];refine Ze 2 ⟨some 10,.move (.tmp 0),_,_,_,_⟩ ((.pointer (some ⟨B,0,none⟩))) ?_;simp only[Act.put,Zj,Zk,Zv];refine Ze 3 ⟨some 11,.nilCheck (.tmp 10),_,_,_,_⟩ ((.pointer (some ⟨B,0,none⟩))) ?_;simp only[Act.put,Zj,Zk,Zv];refine Ze 4 ⟨some 12,.fieldAddr _ (.tmp 11) 1,_,_,_,_⟩ ((.pointer (some ⟨B,2,none⟩))) ?_;simp only[Act.put,Zj,Zk,Zv];refine Ze 5 ⟨some 13,.load _ (.tmp 12),_,_,_,_⟩ ((.int .i64 S.mode)) ?_;simp only[Act.put,Zj,Zk,Zv];refine Ze 6 ⟨some 14,.move (.tmp 0),_,_,_,_⟩ ((.pointer (some ⟨B,0,none⟩))) ?_;simp only[Act.put,Zj,Zk,Zv];refine Ze 7 ⟨some 15,.nilCheck (.tmp 14),_,_,_,_⟩ ((.pointer (some ⟨B,0,none⟩))) ?_;simp only[Act.put,Zj,Zk,Zv];refine Ze 8 ⟨some 16,.fieldAddr _ (.tmp 15) 4,_,_,_,_⟩ ((.pointer (some ⟨B,32,none⟩))) ?_;simp only[Act.put,Zj,Zk,Zv];refine Ze 9 ⟨some 17,.load _ (.tmp 16),_,_,_,_⟩ ((.agg #[.int .i64 S.part.a,.int .i64 S.part.b,.int .i64 S.part.c,.int .i64 S.part.d,.int .i64 S.part.e])) ?_;simp only[Act.put,Zj,Zk,Zv];refine Ze 10 ⟨some 18,.move (.tmp 0),_,_,_,_⟩ ((.pointer (some ⟨B,0,none⟩))) ?_;simp only[Act.put,Zj,Zk,Zv];refine Ze 11 ⟨some 19,.nilCheck (.tmp 18),_,_,_,_⟩ ((.pointer (some ⟨B,0,none⟩))) ?_;simp only[Act.put,Zj,Zk,Zv];refine Ze 12 ⟨some 20,.fieldAddr _ (.tmp 19) 3,_,_,_,_⟩ ((.pointer (some ⟨B,30,none⟩))) ?_;simp only[Act.put,Zj,Zk,Zv];refine Ze 13 ⟨some 21,.load _ (.tmp 20),_,_,_,_⟩ ((.agg #[.int .i64 S.fk,.int .i64 S.fa])) ?_;simp only[Act.put,Zj,Zk,Zv];refine Ze 14 ⟨some 22,.move (.tmp 0),_,_,_,_⟩ ((.pointer (some ⟨B,0,none⟩))) ?_;simp only[Act.put,Zj,Zk,Zv];refine Ze 15 ⟨some 23,.nilCheck (.tmp 22),_,_,_,_⟩ ((.pointer (some ⟨B,0,none⟩))) ?_;simp only[Act.put,Zj,Zk,Zv];refine Ze 16 ⟨some 24,.fieldAddr _ (.tmp 23) 6,_,_,_,_⟩ ((.pointer (some ⟨B,43,none⟩))) ?_;simp only[Act.put,Zj,Zk,Zv];refine Ze 17 ⟨some 25,.fieldAddr _ (.tmp 24) 0,_,_,_,_⟩ ((.pointer (some ⟨B,43,none⟩))) ?_;simp only[Act.put,Zj,Zk,Zv];refine Ze 18 ⟨some 26,.load _ (.tmp 25),_,_,_,_⟩ ((.slice a43 n43 k43)) ?_;simp only[Act.put,Zj,Zk,Zv];refine Ze 19 ⟨some 27,_,_,_,_,_⟩ ((.int .i64 (n43:Int))) ?_;simp only[Act.put,Zj,Zk,Zv];refine Ze 20 ⟨some 28,.move (.tmp 0),_,_,_,_⟩ ((.pointer (some ⟨B,0,none⟩))) ?_;simp only[Act.put,Zj,Zk,Zv];refine Ze 21 ⟨some 29,.nilCheck (.tmp 28),_,_,_,_⟩ ((.pointer (some ⟨B,0,none⟩))) ?_;simp only[Act.put,Zj,Zk,Zv];refine Ze 22 ⟨some 30,.fieldAddr _ (.tmp 29) 16,_,_,_,_⟩ ((.pointer (some ⟨B,55,none⟩))) ?_;simp only[Act.put,Zj,Zk,Zv];refine Ze 23 ⟨some 31,.load _ (.tmp 30),_,_,_,_⟩ ((.bool S.over)) ?_;simp only[Act.put,Zj,Zk,Zv];refine Ze 24 ⟨some 32,.move (.tmp 0),_,_,_,_⟩ ((.pointer (some ⟨B,0,none⟩))) ?_;simp only[Act.put,Zj,Zk,Zv];refine Ze 25 ⟨some 33,.nilCheck (.tmp 32),_,_,_,_⟩ ((.pointer (some ⟨B,0,none⟩))) ?_;simp only[Act.put,Zj,Zk,Zv];refine Ze 26 ⟨some 34,.fieldAddr _ (.tmp 33) 15,_,_,_,_⟩ ((.pointer (some ⟨B,53,none⟩))) ?_;simp only[Act.put,Zj,Zk,Zv];refine Ze 27 ⟨some 35,.fieldAddr _ (.tmp 34) 0,_,_,_,_⟩ ((.pointer (some ⟨B,53,none⟩))) ?_;simp only[Act.put,Zj,Zk,Zv];refine Ze 28 ⟨some 36,.load _ (.tmp 35),_,_,_,_⟩ ((.slice a53 n53 k53)) ?_;simp only[Act.put,Zj,Zk,Zv];refine Ze 30 ⟨some 38,.move (.tmp 0),_,_,_,_⟩ ((.pointer (some ⟨B,0,none⟩))) ?_;simp only[Act.put,Zj,Zk,Zv];refine Ze 31 ⟨some 39,.nilCheck (.tmp 38),_,_,_,_⟩ ((.pointer (some ⟨B,0,none⟩))) ?_
  simp only[Act.put,Zj,Zk,Zv];refine Ze 32 ⟨some 40,.fieldAddr _ (.tmp 39) 15,_,_,_,_⟩ ((.pointer (some ⟨B,53,none⟩))) ?_;simp only[Act.put,Zj,Zk,Zv];refine Ze 33 ⟨some 41,.fieldAddr _ (.tmp 40) 1,_,_,_,_⟩ ((.pointer (some ⟨B,54,none⟩))) ?_;simp only[Act.put,Zj,Zk,Zv];refine Ze 34 ⟨some 42,.load _ (.tmp 41),_,_,_,_⟩ ((.int .i64 S.rat)) ?_;simp only[Act.put,Zj,Zk,Zv];refine Ze 36 ⟨some 44,.move (.tmp 0),_,_,_,_⟩ ((.pointer (some ⟨B,0,none⟩))) ?_;simp only[Act.put,Zj,Zk,Zv];refine Ze 37 ⟨some 45,.nilCheck (.tmp 44),_,_,_,_⟩ ((.pointer (some ⟨B,0,none⟩))) ?_;simp only[Act.put,Zj,Zk,Zv];refine Ze 38 ⟨some 46,.fieldAddr _ (.tmp 45) 13,_,_,_,_⟩ ((.pointer (some ⟨B,51,none⟩))) ?_;simp only[Act.put,Zj,Zk,Zv];refine Ze 39 ⟨some 47,.load _ (.tmp 46),_,_,_,_⟩ ((.int .i64 S.off)) ?_;simp only[Act.put,Zj,Zk,Zv];have UN:Below w1.heap.size w1 w1.drew:=(ZH _ _).drew;refine Zn (rs:=[1,41]) QX QJ ?_;refine ZT (o:=⟨some 9,_,_,_,_,_⟩) rfl (fun K hK=>?_) ?_
  ·
   go_simp;refine(uh.out _ UN).mono ?_;rintro e w5 ⟨v5,rfl,o5,hb5⟩;obtain⟨a5,n5,k5,rfl⟩:=o5.form;have Me:=o5.mono UN.size;replace UN:=UN.trans (hb5.mono UN.size);dsimp only;refine hK.out _ _ (zU hB1 hS1 UN) (fun hHeld=>?_);clear hK K;refine Zn (rs:=[29,41]) QX QJ ?_;refine ZT (o:=⟨some 37,_,_,_,_,_⟩) rfl (fun K hK=>?_) ?_
   ·
    go_simp;refine(HCL.out _ UN).mono ?_;rintro e w8 ⟨v8,rfl,o8,XH⟩;obtain⟨a8,n8,k8,rfl⟩:=o8.form;have o8z:=o8.mono UN.size;replace Me:=Me.kept XH;replace UN:=UN.trans (XH.mono UN.size);dsimp only;refine hK.out _ _ (zU hB1 hS1 UN) (fun hHeld=>?_);clear hK K;refine Ze 35 ⟨some 43,_,_,_,_,_⟩ ((.agg #[.slice a8 n8 k8,.int .i64 S.rat])) ?_;simp only[Act.put,Zj,Zk,Zv];obtain⟨rs,hrs⟩:∃rs,rs=zK (.slice a5 n5 k5) S n43 (.slice a8 n8 k8):=⟨_,rfl⟩;have IY:=Zy hrs;clear hrs;refine wpAnyH_take (i:=40) (oi:=⟨some 48,_,_,_,_,_⟩) (v:=(.agg (Xo rs))) rfl QX QX QX (fun _ _ _ h=>h) (Or.inl ⟨QDu,fun w hSw=>Q8⟩) QI ?_;simp only[Act.put,Zj,Zk,Zv];refine Zn (rs:=[41]) QX QJ ?_;refine ZT (o:=⟨some 3,_,_,_,_,_⟩) rfl (fun K hK=>?_) Zh;rw[if_pos QDu];refine V8 rfl ?_;have GR:=Vy (w:=w8) rfl;have Bb:=UN.size;replace Me:=Me.kept (ZR w8 YS);replace o8z:=o8z.kept (ZR w8 YS);replace UN:=UN.trans ((ZR w8 YS).mono UN.size);obtain⟨wa,uN⟩:∃wa,wa=w8.alloc YS:=⟨_,rfl⟩;obtain⟨R,hRR⟩:∃R,R=w8.heap.size:=⟨_,rfl⟩;rw[<-uN,<-hRR]at GR;rw[<-hRR]at Bb;rw[<-uN]at UN;rw[<-uN]at Me;rw[<-uN]at o8z;rw[<-uN,<-hRR];clear uN hRR;simp only[Act.put,Zj,Zk,Zv];refine hK.out _ _ (zU hB1 hS1 UN) (fun hHeld=>?_);clear hK K;exact QLs
   refine ZT (o:=⟨some 3,_,_,_,_,_⟩) rfl (fun K hK=>?_) Zh;rw[if_pos QDu];refine V8 rfl ?_;have GR:=Vy (w:=w5) rfl;have Bb:=UN.size;replace Me:=Me.kept (ZR w5 YS);replace UN:=UN.trans ((ZR w5 YS).mono UN.size);obtain⟨wa,uN⟩:∃wa,wa=w5.alloc YS:=⟨_,rfl⟩;obtain⟨R,hRR⟩:∃R,R=w5.heap.size:=⟨_,rfl⟩;rw[<-uN,<-hRR]at GR;rw[<-hRR]at Bb;rw[<-uN]at UN;rw[<-uN]at Me;rw[<-uN,<-hRR];clear uN hRR;simp only[Act.put,Zj,Zk,Zv];exact QGD
  refine ZT (o:=⟨some 3,_,_,_,_,_⟩) rfl (fun K hK=>?_) Zh;rw[if_pos QDu];refine V8 rfl ?_;have GR:=Vy (w:=w1.drew) rfl;have Bb:=UN.size;replace UN:=UN.trans ((ZR w1.drew YS).mono UN.size);obtain⟨wa,uN⟩:∃wa,wa=w1.drew.alloc YS:=⟨_,rfl⟩;obtain⟨R,hRR⟩:∃R,R=w1.drew.heap.size:=⟨_,rfl⟩;rw[<-uN,<-hRR]at GR;rw[<-hRR]at Bb;rw[<-uN]at UN;rw[<-uN,<-hRR];clear uN hRR;simp only[Act.put,Zj,Zk,Zv];refine hK.out _ _ (zU hB1 hS1 UN) (fun hHeld=>?_);clear hK K;refine Zn (rs:=[1]) QX QJ ?_;refine ZT (o:=⟨some 9,_,_,_,_,_⟩) rfl (fun K hK=>?_) Zh;go_simp;refine(uh.out _ UN).mono ?_;rintro e w5 ⟨v5,rfl,o5,hb5⟩;obtain⟨a5,n5,k5,rfl⟩:=o5.form;have Me:=o5.mono UN.size;replace GR:=GR.Yc hb5;replace UN:=UN.trans (hb5.mono UN.size);dsimp only;exact QGD
 obtain⟨R,v,r,rfl,hM0⟩:=hcut;clear c2 UE c31 c32 Ko c34 yx c36 oM c51 c53 c54 c55 hS1 hal;have QJf:=HA1.out.hf.cell 37;have QJd:=HA1.out.hf.cell 39;rw[HA1.out.hf.d.Ey]at QJd;obtain⟨hv,Qz9,QYr⟩:=HA1.out.hf.d.XQ.ls;obtain⟨a37,n37,k37,e37,QYp,-,-,QZt,-,-⟩:=Qz9;rw[e37]at QJf;have hll:S.XQ.ls.length=n37:=by rw[<-QYr.1];exact QYp
 obtain⟨Qzp,QZ4⟩:=ig HI.out.hi;have HVV:=Zy QZt;have QWf:=Zy QYp;have Hd:=Zy QYr.lists;have Vf:=Zy hll;have HQ:=Zy QZ4;have QYo:n37<=50:=QQ;clear QZt QYp QYr hll e37 Qzp QZ4;obtain⟨gv,hgv⟩:∃gv,gv=bI f:=⟨_,rfl⟩;have hgl:gv.length=27:=by rw[hgv];rfl
 have HGR:=Zy (fun(w':World) (hb:Below w1.heap.size w1 w')=>(show∀i,i<27->Sl w' (vx gv i) (rx S.regs i)from fun i hi=>by rw[hgv];exact((HA1.out.JA hb).hf.d.regs.2 i (by rw[HI.out.rl];exact hi)).sl));have hrg:=(HA1.out.JA hM0.Xw).hf.range;rw[<-hgv]at hrg;have HGL:=Zy hgl;have HM0:=Zy hM0;have Qy6:=Zy QJd;clear hM0 hgv hgl QJd;go_wp2_with ((with_reducible show wpList _ _ _ (⟨_,Op.load 48 _,_,_,_,_⟩::_) _ _);refine fJ rfl _ rfl B 3 rfl gv hrg HGL.out ?_)
 clear hrg
 go_loopw [53] (fun i wr=>∃(j:Nat) (rr:List Value),i=.int .i64 (j:Int)/\j<=27/\IQ S w1 wr R v r (.slice none 0 0) rr [] j 0 n43 0) (fun i _=>27-(intOf i).toNat)
 case atStart=>exact⟨0,XB,rfl,Z4 _,HM0.out⟩
 case round=>
  obtain⟨j,rr,rfl,hj,hM⟩:=hrel;by_cases hlt:j<27
  ·as_aux_lemma=>
   obtain⟨aj,nj,cj,hvj,hl,-,-,hi,h0⟩:=(HGR.out _ hM.Xw) j hlt;have hix:=fun w=>Ad gv HGL.out j hlt w
   simp only[hvj]at hix;have hsm:(rx S.regs j).length<=200:=HI.out.rs j hlt;have CLJ:=Zy (XY aj nj cj (rx S.regs j) wr hi hl QQ h0);have H2:=Zy hM;have i0:(0:Int)<=(j:Int):=QQ;have i1:(j:Int)<27:=QQ;clear hi hl h0 hsm hM hvj;go_wp2_with (go_at_call 31;go_loud (refine(CLJ.out).mono ?_;rintro e Hl ⟨v10,rfl,oC,KI⟩;obtain⟨a10,n10,c10,rfl⟩:=oC.form;have lF:=H2.out.below KI;have c37:=lF.blk.cell (i:=10+j) (by rw[VY lF.lr];omega);have f37:=lF.blk.free (10+j);have H10:=Zy (lF.reg hlt (oC.mono H2.out.Xw.size));clear lF))
   exact⟨⟨j+1,_,Qy,QQ,H10.out⟩,Qp⟩
  ·obtain rfl:j=27:=by omega
   have y37:=(hM.Xw.cell hB1).trans QJf;have HM:=Zy hM;clear hM QJf hlt HGR;go_wp2
   go_loopw [69] (fun i wr=>∃(k:Nat) (ra:Option Addr) (rn rc:Nat) (us:List Value),i=.int .i64 (k:Int)/\k<=n37/\IQ S w1 wr R v r (.slice ra rn rc) rr us 27 k n43 0) (fun i _=>n37-(intOf i).toNat)
   case atStart=>exact⟨0,none,0,0,[],rfl,Z4 _,HM.out⟩
   case round=>
    clear y37;obtain⟨k,ra,rn,rc,us,rfl,hk,hM⟩:=hrel;by_cases hlt:k<n37
    ·as_aux_lemma=>
     obtain⟨b1,o1,rfl,hc⟩:=(HVV.out.below hM.Xw).at (k:=k) (by rw[QWf.out];exact hlt);have e1:=hc k (by rw[QWf.out];exact hlt);obtain⟨xa,xn,xc,x1,x2,x3,x4,x5,x6⟩:=(Hd.out.below hM.Xw).sl k QDa;rw[x1]at e1;have Jq:xn<=17592186044416:=by have:=HQ.out k QDa;omega
     have HX2:=Zy x2;have HX6:=Zy x6;have HU:=Zy (show us.length+1<=4398046511104 by rw[hM.ll];omega);have c38:=hM.blk.cell (i:=38) (by rw[VY hM.lr];omega);rw[Fs hM.lr]at c38;have H2:=Zy (hM.below (ZH _ _).drew);have hlr:=hM.lr;have HLR:=Zy hlr;have i0:(0:Int)<=(k:Int):=QQ;have i1:(k:Int)<(n37:Int):=QQ;have x5':=x5.drew;clear hc x1 x2 x6 x5 hM hlr;have bY:=Zy (show∀(u:World) (x:Option Addr) (n c:Nat),KM (u.alloc (.cells #[.slice x n c] 22)) (some ⟨u.heap.size,0,none⟩) [.slice x n c]from fun u x n c=>JD u [.slice x n c] _);have IX:=Zy (show∀(x:Option Addr) (n c:Nat),MH [.slice x n c]from fun x n c i hi=>by
      obtain rfl:i=0:=QS;exact⟨x,n,c,rfl⟩)
     go_wp2
     go_region_law (first|(go_simp;go_at_call 31;refine(XY xa xn xc _ _ x5' HX2.out Jq HX6.out).mono ?_;rintro e w2 ⟨v2,rfl,Aw,hb2⟩;obtain⟨a2,n2,c2,rfl⟩:=Aw.form;have hM2:=H2.out.below hb2;have d38:=hM2.blk.cell (i:=38) QFK;rw[Fs HLR.out]at d38;have hM3:=hM2.below (ZR w2 (.cells #[.slice a2 n2 c2] 22));have Qx2:=hM3.blk.cell (i:=38) QFK;rw[Fs HLR.out]at Qx2;have H3:=Zy hM3;have O3:=Zy ((Aw.mono H2.out.Xw.size).alloc (.cells #[.slice a2 n2 c2] 22));clear hM2 hM3)|(refine zR QDu _ _ rfl w1.heap.size (.slice ra rn rc) us [.slice a2 n2 c2] _ 1 1 rfl rfl H3.out.lv (bY.out _ _ _ _) (IX.out _ _ _) rfl HU.out H3.out.Xw.size ?_;intro v9 w9 o9 hg9;obtain⟨a9,n9,c9,rfl⟩:=o9.form;have U7:=H3.out.blk.grown hg9 (H3.out.lv.XP H3.out.blk QZ);have e38:=U7.cell (i:=38) QFK;have g38:=U7.free 38;have H9:=Zy (H3.out.line O3.out o9 hg9);clear U7))
     all_goals
      go_wp2;go_roundw
      case rel=>
       refine⟨_,_,_,_,_,_,_,_,_,_,_,_,_,⟨k+1,a9,n9,c9,_,?_,QQ,H9.out⟩,rfl⟩
       go_num
      case measure=>simp[intOf];omega
    ·as_aux_lemma=>
     obtain rfl:k=n37:=QQ;have y39:=(hM.Xw.cell hB1).trans Qy6.out;have c39:=hM.blk.cell (i:=39) (by rw[VY hM.lr];omega);have f39:=hM.blk.free 39;have hM2:=hM.QUK S.XQ.Zm;have hZ:=(hZ1.below hM.Xw hZ1.lt).other (a:=⟨R,39,none⟩) (by have:=hM.lo;have:=hZ1.lt;show w.heap.size≠R;omega) (.int .i64 S.XQ.Zm);have hbw:=hM.Xw.setCell (p:=⟨R,39,none⟩) hM.lo (.int .i64 S.XQ.Zm);have hlr:=hM.lr;rw[<-Vf.out]at hM2;have hF:=hM2.fin;have hbL:=hM2.blk;have hone:=hF.one (n:=n43) (wh:=S.XQ.Zm);have hlen:=VY (S:=S) (v:=v) (r:=r) (lv:=.slice ra rn rc) (n:=n43) (wh:=S.XQ.Zm) hlr;obtain⟨rs,hrs⟩:∃rs,rs=y8 S v r (.slice ra rn rc) rr n43 S.XQ.Zm:=⟨_,rfl⟩;rw[<-hrs]at hbL hone hlen;have kz:=hZ.setCells 0 rs;rw[V5 (by rw[Wm,hlen])]at kz;have Jp:Below w.heap.size w ((wr.setCell ⟨R,39,none⟩ (.int .i64 S.XQ.Zm)).setCells w.heap.size 0 rs):=below_setCells (ZB _) rs 0 (hb1.trans (hbw.mono hb1.size));have hF9:=(hF.keep (w':=(wr.setCell ⟨R,39,none⟩ (.int .i64 S.XQ.Zm)).setCells w.heap.size 0 rs) (Same.JB (F:=fun k=>w1.heap.size<=k) fun q hq=>(YO rs _ 0).1 q (by have:=hZ1.lt;omega)) (fun q hq=>hq)).keep (Xv.refl _ _) (Q:=fun q=>w.heap.size<=q) (fun q hq=>by have:=hZ1.lt;omega);have IY:=Zy hrs;have HF9:=Zy hF9;have HB9:=Zy Jp;have HZ9:=Zy kz;clear hM hM2 hF hrs hF9 Jp kz hbw hb1 hZ1;go_wp2_with (first|((with_reducible show wpList _ _ _ (⟨_,Op.load 53 _,_,_,_,_⟩::_) _ _);refine TH rfl _ rfl R rfl rs _ hbL hlen ?_)|((with_reducible show wpList _ _ _ (⟨none,Op.store 53 _ _,_,_,_,_⟩::_) _ _);refine BU hZ rfl _ _ rfl rfl rs rfl hlen hone ?_;generalize(wr.setCell ⟨R,39,none⟩ (.int .i64 S.XQ.Zm)).setCells w.heap.size 0 rs=w9 at *))
     exact ZC (D8 Tryz.results16 rfl (Fp HZ9.out hlen)) rfl ⟨v,r,_,rr,by rw[IY.out,HN.out],HF9.out,HB9.out⟩
def UU(w0 w:World)(B:Nat)(S:SS)(G:Nat->Prop):Prop:=∃F f,HF F G w B f S/\(∀k,G k->w0.heap.size<=k)/\Below w0.heap.size w0 w
theorem UU.below{w0 w w':World}{B:Nat}{S:SS}{G:Nat->Prop}(h:UU w0 w B S G)(hb:Below w.heap.size w w'):UU w0 w' B S G:=by
 obtain⟨F,f,h1,h2,h3⟩:=h;exact⟨F,f,h1.other (fun k hk=>hb.block k (h1.lt k hk)) hb.size,h2,h3.trans (hb.mono h3.size)⟩
theorem UU.Xw{w0 w:World}{B:Nat}{S:SS}{G:Nat->Prop}(h:UU w0 w B S G):Below w0.heap.size w0 w:=by
 obtain⟨F,f,h1,h2,h3⟩:=h;exact h3
theorem UU.lt{w0 w:World}{B:Nat}{S:SS}{G:Nat->Prop}(h:UU w0 w B S G):∀k,G k->k<w.heap.size:=by
 obtain⟨F,f,h1,h2,h3⟩:=h;exact h1.lt
def LvF(W w0:World)(B:Nat)(S:SS)(G:Nat->Prop)(b:ByteArray)(w:World)(e:Ending)(w':World):Prop:=
 UU w0 w' B (S.feed W b).1 (Gx G w w')/\Step G w w'/\
  ((
   (S.feed W b).2=0/\∃a n c us a2 n2 c2,e=.returned (.tuple #[.slice a n c,.slice a2 n2 c2,.int .i64 0])/\us.length=n/\X0 w' a us/\xC (Gx G w w') w' us (S.feed W b).1.told/\(S.feed W b).1.Yv.length=n2/\Ints w' a2 (S.feed W b).1.Yv)\/
   ((S.feed W b).2≠0/\e=.returned (.tuple #[.slice none 0 0,.slice none 0 0,.int .i64 (S.feed W b).2])))
theorem Rx(W w0 w:World)(B K:Nat)(S:SS)(G:Nat->Prop)(b:ByteArray)(h:UU w0 w B S G)(hI:Xz K S)(hP:yJ S.pend)(hK:K<=268435456):
  Calls Tryz.prog 18 #[.pointer (some ⟨B,0,none⟩),.string b] w (LvF W w0 B S G b w):=by
 obtain⟨F,f,h1,h2,h3⟩:=h;refine(PN W F G B K S b w ⟨f,h1⟩ hI hP hK).mono ?_;rintro e w' ⟨F',f',hA,hr⟩;have hz:=hA.step.size;refine⟨⟨F',f',hA.hf,fun k hk=>?_,⟨hA.step.os.trans h3.os,hA.step.tape.trans h3.tape,hA.step.output.trans h3.output,Zf h3.size hz,fun k hk=>?_⟩⟩,hA.step,?_⟩
 ·rcases hk with hk|hk
  ·exact h2 k hk
  ·have:=h3.size;omega
 ·rw[hA.step.block k (Zc hk h3.size) (fun e=>by have:=h2 k e;omega)]
  exact h3.block k hk
 ·rcases hr with⟨h0,he⟩|hr
  ·obtain⟨us,ho,hev⟩:=hA.hf.m.told
   have jZ:=hA.hf.m.Yv;obtain⟨a,n,c,e1⟩:=ho.form;obtain⟨a2,n2,c2,e2⟩:=jZ.form;rw[e1]at ho;rw[e2]at jZ;rw[e1,e2]at he;obtain⟨p1,-,-,p4,-⟩:=ho.bM.get;obtain⟨s1,-,-,s4,-⟩:=jZ.sl.get;exact .inl ⟨h0,a,n,c,us,a2,n2,c2,he,p1,p4,hev.keep (Xv.refl _ _) hA.hf.fg,s1,s4⟩
  ·exact .inr hr
theorem VX(w0 w:World)(B K:Nat)(S:SS)(G:Nat->Prop)(h:UU w0 w B S G)(hI:Xz K S):
  Calls Tryz.prog 16 #[.pointer (some ⟨B,0,none⟩)] w (Hu S w):=by
 obtain⟨F,f,h1,h2,h3⟩:=h;exact pG F G B K S w ⟨f,h1⟩ hI (by have:=hI.rw_;have:=hI.wd;omega)
def LvN(W:World)(N:Nat)(most width:Int)(T:List ByteArray)(w:World)(e:Ending)(w':World):Prop:=
 (Below w.heap.size w w'/\e=.returned (.tuple #[.pointer none,.slice none 0 0,.slice none 0 0,.bool false])/\((1<=most/\most<=50/\2<=width/\width<=120)->Ur W T (SS.new most width) [] []=none))\/
  ((
   1<=most/\most<=50/\2<=width/\width<=120)/\∃B G S l m a n c us a2 n2 c2,Ur W T (SS.new most width) [] []=some (S,l,m)/\e=.returned (.tuple #[.pointer (some ⟨B,0,none⟩),.slice a n c,.slice a2 n2 c2,.bool true])/\UU w w' B S G/\UI N (Uu T) most S l m/\
   us.length=n/\X0 w' a us/\xC G w' us l/\m.length=n2/\Ints w' a2 m/\n<=4398046511104/\S.width=width)
theorem Oa{W:World}{N used:Nat}{most:Int}{S:SS}{l:List (Int×List Int)}{m:List Int}(h:UI N used most S l m)(b:ByteArray)(hN:used+b.size<=N)(he:(S.feed W b).2=0):(S.feed W b).1.width=S.width:=by
 obtain⟨ho,hb,e⟩:=kE he;obtain⟨K,hI,hK,-,-⟩:=h.inv;have hcnt:=Ir (S.pend++b);rw[ByteArray.size_append]at hcnt;rw[e];generalize(JU (S.pend++b)).out=L at *;have hI0:Xz K ({S with pend:=zJ (JU (S.pend++b)).ah,told:=[],Yv:=[]}:SS):={hI with};exact(vk (W:=W) L hI0 ho N QQ).width
theorem Bh{W:World}{N:Nat}{most:Int}:∀(T:List ByteArray) {used:Nat} {S:SS} {l:List (Int×List Int)} {m:List Int} {S':SS} {l':List (Int×List Int)} {m':List Int},UI N used most S l m->used+Uu T<=N->Ur W T S l m=some (S',l',m')->S'.width=S.width
 | [],used,S,l,m,S',l',m',h,hN,e=>by
  simp only[Ur,ZL,YP]at e;obtain⟨rfl,rfl,rfl⟩:=e;rfl
 | b::T,used,S,l,m,S',l',m',h,hN,e=>by
  have hs:Uu (b::T)=b.size+Uu T:=rfl;rw[hs]at hN;unfold Ur at e;by_cases hz:(S.feed W b).2=0
  ·rw[if_pos hz]at e
   exact(Bh T (h.step (W:=W) b QQ hz) QQ e).trans (Oa h b QQ hz)
  ·rw[if_neg hz]at e;cases e
theorem Nl(W:World)(most width:Int)(ta:Option Addr)(tn tc N:Nat)(T:List ByteArray)(w:World)(hT:Strs w ta T)(hn:T.length=tn)(hN:Uu T<=N)(hNb:N<=1048576)(htn:tn<=1048576):
  Calls Tryz.prog 11 #[.int .i64 most,.int .i64 width,.slice ta tn tc] w (LvN W N most width T w):=by
 refine(PS W most width ta tn tc N T w hT hn hN hNb htn).mono ?_;rintro e w' ⟨hb,⟨h1,h2⟩|⟨hg,B,G,F,f,S,v1,v2,l,m,hf,he,hR⟩⟩
 ·exact .inl ⟨hb,h1,h2⟩
 ·have hI:=Bi T (UI.new (N:=N) hg) QQ hf
  have hwd:=Bh T (UI.new (N:=N) hg) QQ hf;rw[XI]at hI;obtain⟨us,ho,hev⟩:=hR.ev;have hsg:=hR.sg;obtain⟨a,n,c,rfl⟩:=ho.form;obtain⟨a2,n2,c2,rfl⟩:=hsg.form;obtain⟨p1,-,-,p4,-⟩:=ho.bM.get;obtain⟨s1,-,-,s4,-⟩:=hsg.sl.get;obtain⟨K,-,hK,hl,-⟩:=hI.inv;have hmul:K*(N+2)<=1048576*1048578:=Nat.mul_le_mul QQ QQ;refine .inr ⟨hg,B,G,S,l,m,a,n,c,us,a2,n2,c2,hf,he,⟨F,f,hR.hf,hR.gl,hR.Xw⟩,hI,p1,p4,hev.keep (Xv.refl _ _) hR.hf.fg,s1,s4,?_,hwd⟩;rw[<-p1,hev.1];omega
theorem SF(c:Int)(h0:0<=c)(h1:c<=255)(w:World):Calls Tryz.prog 48 #[.int .i64 c,.int .u8 c] w fun e w'=>e=.returned (.bool true)/\w=w':=by
 go_enter Tryz.func48,Tryz.ntmps48
 exact QH5
theorem rZ(a:Option Addr)(b n ca cb:Nat)(xs:List Int)(w:World)(ha:Ints w a xs)(hn:xs.length=n)(hb:∀j,j<n->w.cell? ⟨b,j,none⟩=some (.int .u8 (ix xs j)))(hr:∀j,j<n->0<=ix xs j/\ix xs j<=255)(hx:n<=4096):
  Calls Tryz.prog 47 #[.slice a n ca,.slice (some ⟨b,0,none⟩) n cb,.func (.func 48) #[] #[]] w fun e w'=>e=.returned (.bool true)/\∃n,w'=w.drewN n:=by
 have HA:=Zy ha;have HN:=Zy hn;have HB:=Zy hb;have HR:=Zy hr;clear ha hn hb hr;go_enter Tryz.func47,Tryz.ntmps47
 go_wp2
 go_loopw [17] (fun i wr=>∃k:Nat,i=.int .i64 (k:Int)/\k<=n/\∃n,wr=w.drewN n) (fun i _=>n-(intOf i).toNat)
 case atStart=>exact⟨0,rfl,Z4 _,0,rfl⟩
 case round=>
  obtain⟨k,rfl,hk,m,rfl⟩:=hrel;by_cases hlt:k<n
  ·have e2:=HB.out k hlt
   obtain⟨r0,r1⟩:=HR.out k hlt;obtain⟨b1,o1,rfl,e0⟩:=HA.out.at (k:=k) QW;have e1:=e0 k QW;clear e0;go_wp2_with ((go_at_call 48);refine(SF _ r0 r1 _).mono ?_;rintro e w2 ⟨rfl,rfl⟩)
   go_roundw
   case rel=>exact⟨k+1,Qy,QQ,_,rfl⟩
   case measure=>simp[intOf];omega
  ·go_wp2
   go_ret;exact⟨rfl,m,rfl⟩
def bL(s:ByteArray):List Int:=(List.range s.size).map (bt s)
theorem nZ(s:ByteArray):(bL s).length=s.size:=by simp[bL]
theorem QXv(s:ByteArray){j:Nat}(hj:j<s.size):ix (bL s) j=bt s j:=by
 rw[Ya (by rw[nZ];exact hj)];simp[bL]
theorem Aj(a:Option Addr)(n c:Nat)(xs:List Int)(s:ByteArray)(w:World)(ha:Ints w a xs)(hn:xs.length=n)(he:xs=bL s)(hs:s.size<=4096):
  Calls Tryz.prog 25 #[.slice a n c,.string s] w fun e w'=>e=.returned (.bool true)/\Below w.heap.size w w':=by
 have hcv:=Lib.run_convert_string_bytes (P:=Tryz.prog) w 9 108 5 s Tryz.underlying9 Tryz.underlying108 Tryz.underlying5;have hb:=MB w 5 s;have hsn:s.size=n:=by rw[<-hn,he,nZ]
 have HC:=Zy (show∀j,j<n->(Lib.bytesWorld w 5 s).cell? ⟨w.heap.size,j,none⟩=some (.int .u8 (ix xs j))from fun j hj=>by rw[he,QXv s QQ];exact Lib.bytesWorld_cell w 5 s j QQ);have HR:=Zy (show∀j,j<n->0<=ix xs j/\ix xs j<=255 from fun j hj=>by rw[he,QXv s QQ];exact Uf s j);have HA:=Zy (ha.below hb);have HN:=Zy hn;have hs4:n<=4096:=QQ;subst hsn;clear ha hn he;go_enter Tryz.func25,Tryz.ntmps25
 go_wp2_with ((go_at_call 47);refine(rZ _ _ _ _ _ xs _ HA.out HN.out HC.out HR.out hs4).mono ?_;rintro e w2 ⟨rfl,nd,rfl⟩)
 go_ret;exact⟨rfl,below_drewN hb nd⟩
end Go.Proofs.YtmdnepkekekncaaGreat
