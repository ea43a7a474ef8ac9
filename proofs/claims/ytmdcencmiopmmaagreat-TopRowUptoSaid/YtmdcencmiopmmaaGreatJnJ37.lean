/- joined, no condition of its own. -/
import Derived.Test.YtmdcencmiopmmaaGreatJnT
import Derived.Test.YtmdcencmiopmmaaGreatJnJ36
set_option linter.unusedVariables false
set_option linter.unusedSimpArgs false
set_option maxRecDepth 100000
set_option maxHeartbeats 12000000
namespace Go.Proofs.YtmdcencmiopmmaaGreat
open Go.RowKit
theorem Ga(w:World):Calls Tryz.prog 252 #[.slice none 0 0] w fun e w'=>e=.returned (.slice none 0 0)/\w'=w:=by
 have he:=fun(w:World) (n' c':Nat)=>Lib.run_eql_slice_nil (P:=Tryz.prog) w 107 106 none 0 0 n' c' Tryz.underlying107
 go_enter Tryz.func252,Tryz.ntmps252
 exact QEd
def fB(es:List V2)(w:World)(e:Ending)(w':World):Prop:=∃v,e=.returned (.agg #[v,.slice none 0 0])/\Xb 106 w.heap.size w' v es/\Below w.heap.size w w'
theorem jo(a:Option Addr)(n c:Nat)(es:List V2)(w:World)(ha:X0 w a es)(hok:I4 es)(hn:es.length=n)(hl:n<=30)(h0:a=none->n=0):
  Calls Tryz.prog 231 #[.agg #[.slice a n c,.slice none 0 0]] w (fB es w):=by
 have hB0:=(Za.new w #[.slice a n c,.slice none 0 0] 109).alloc (.cells #[.slice none 0 0,.slice none 0 0] 109);have hB1:=Za.new (w.alloc (.cells #[.slice a n c,.slice none 0 0] 109)) #[.slice none 0 0,.slice none 0 0] 109;have hb:=Zn w (.cells #[.slice a n c,.slice none 0 0] 109) (.cells #[.slice none 0 0,.slice none 0 0] 109);rw[Zv]at hB1;have hz:w.heap.size+2=((w.alloc (.cells #[.slice a n c,.slice none 0 0] 109)).alloc (.cells #[.slice none 0 0,.slice none 0 0] 109)).heap.size:=by simp only[Zv]
 generalize hW:((w.alloc (.cells #[.slice a n c,.slice none 0 0] 109)).alloc (.cells #[.slice none 0 0,.slice none 0 0] 109))=W at hB0 hB1 hb hz;obtain⟨c00,c01,-,-⟩:=hB0.two;obtain⟨r0,r1,f0,f1⟩:=hB1.two;have HA:=Zy (ha.keep (ZL hb));have HO:=Zy hok;have HN:=Zy hn;have HB:=Zy hb;have HB0:=Zy hB0;have HB1:=Zy hB1;have H0:=Zy h0;have HW:=Zy hW;have hzl:w.heap.size+1<W.heap.size:=QQ;clear ha hok hn h0 hz hb hB0 hB1 hW;go_enter Tryz.func231,Tryz.ntmps231
 go_upto_region 1 with fail
 rw[HW.out]
 go_cut [2] (fun r wx=>r=.pointer (some ⟨w.heap.size+1,0,none⟩)/\∃v,Za wx (w.heap.size+1) #[v,.slice none 0 0] 109/\Xb 106 w.heap.size wx v es/\Below w.heap.size w wx)
 case first=>
  go_region_law (first|(go_simp;go_at_call 252;(with_reducible show Calls _ _ #[.slice none 0 0] _ _);refine(Ga _).mono ?_;rintro e w3 ⟨rfl,rfl⟩)|(go_simp;go_at_call 252;refine(zf a n c es _ (X0.J5 HA.out) HO.out HN.out QQ H0.out).mono ?_;rintro e w1 ⟨v1,rfl,o1,hb1⟩;obtain⟨a1,n1,c1,rfl⟩:=o1.form;have M9:=HB1.out.below (w:=W.drew) hb1 HB1.out.lt;obtain⟨r0',r1',f0',f1'⟩:=M9.two;obtain⟨Qkv,Qku,-,-⟩:=(HB0.out.below (w:=W.drew) hb1 HB0.out.lt).two))
  all_goals
   dsimp only[Act.put,Exit.then]
   (repeat go_step)
   go_meet;exact⟨rfl,_,(M9.set 0 (.slice a1 n1 c1)).set 1 (.slice none 0 0),((o1.mono (show w.heap.size<=W.drew.heap.size from QY)).vX M9 QZ _ _).vX (M9.set 0 (.slice a1 n1 c1)) QZ _ _,Zo.set QQ (Zo.set QQ (Zo.call hb1 (Zo.drew HB.out)))⟩
 case rest=>
  obtain⟨rfl,v,hBN,o2,hb2⟩:=hcut;obtain⟨a2,n2,c2,rfl⟩:=o2.form;obtain⟨y0,y1,-,-⟩:=hBN.two;go_wp2;refine ZC (v:=.agg #[.slice a2 n2 c2,.slice none 0 0]) (by simp[results,Tryz.results231,go_sem,y0,y1]) rfl ?_;exact⟨_,rfl,o2,hb2⟩
def OkS(es:List V2):Prop:=∀u∈es,∃p q,u=⟨.pointer p,.int .i64 q⟩
theorem OkS.all{es:List V2}(h:OkS es):I4 es:=fun u hu=>by
 obtain⟨p,q,rfl⟩:=h u hu;exact⟨rfl,rfl⟩
theorem GR(g m c:Nat)(p:Option Addr)(q:Int)(w:World)(hc0:w.cell? ⟨g,m*2,none⟩=some (.pointer p))(hc1:w.cell? ⟨g,m*2+1,none⟩=some (.int .i64 q))(hm:m+1<=c)(hc2:c<=9223372036854775807):
  Calls Tryz.prog 232 #[.slice (some ⟨g,0,none⟩) (m+1) c] w fun e w'=>e=.returned (.tuple #[.agg #[.pointer p,.int .i64 q],.slice (some ⟨g,0,none⟩) m c])/\Below w.heap.size w w':=by
 obtain⟨n,hn1,hn2⟩:∃n:Nat,n<=m+1/\m+1<=n:=⟨m+1,QQ,QQ⟩;rw[show m+1=n from QQ];have i1:((n:Int)-1).toNat=m:=QQ;have i2:IntKind.i64.wrap ((n:Int)-1)=(n:Int)-1:=YQ _ QQ;have i3:(0:Int)<=(n:Int)-1:=QQ;have i4:(n:Int)-1<(n:Int):=QQ;have i5:(n:Int)-1<=(c:Int):=QQ;have i6:(1:Int)<=(n:Int):=QQ;have hR:=Za.new w #[.pointer none,.int .i64 0] 106;have hb:=ZT w (.cells #[.pointer none,.int .i64 0] 106);have d0:=ZL hb _ _ hc0;have d1:=ZL hb _ _ hc1;have hg:=XU hc0;generalize hW:w.alloc (.cells #[.pointer none,.int .i64 0] 106)=W at hR hb d0 d1;obtain⟨r0,r1,f0,f1⟩:=hR.two;have HW:=Zy hW;have HR:=Zy hR;have HB:=Zy hb;clear hc0 hc1 hW hR hb;go_enter Tryz.func232,Tryz.ntmps232
 go_upto_region 1 with fail
 rw[HW.out]
 go_region
 go_wp2;obtain⟨y0,y1,-,-⟩:=((HR.out.set 0 (.pointer p)).set 1 (.int .i64 q)).two;refine ZC (v:=.tuple #[.agg #[.pointer p,.int .i64 q],.slice (some ⟨g,0,none⟩) m c]) (by simp[results,Tryz.results232,go_sem,y0,y1]) rfl ?_;exact⟨rfl,((HB.out.setCell (p:=⟨w.heap.size,0,none⟩) (ZB _) _).setCell (p:=⟨w.heap.size,1,none⟩) (ZB _) _).drew⟩
theorem Xb.Gf{T:TypeId}{base:Nat}{w:World}{v:Value}{es:List V2}{B:Nat}(h:Xb T base w v es)(hB:some B≠v.ownBlock)(i:Nat)(u:Value):Xb T base (w.setCell ⟨B,i,none⟩ u) v es:=
 h.moved fun k hk=>Zm _ _ _ _ fun e=>hB (by have e2:k=B:=e;rw[<-e2];exact hk.symm)
def NM(es:List V2)(p:Option Addr)(q:Int)(w:World)(e:Ending)(w':World):Prop:=
 ∃a1 n1 c1 a2 n2 c2 p' q',e=.returned (.tuple #[.agg #[.slice a1 n1 c1,.slice a2 n2 c2],.agg #[.pointer p',.int .i64 q'],.bool (decide (0<es.length))])/\
  (0<es.length->je (fun k=>w.heap.size<=k) w' (.slice a1 n1 c1) es.dropLast/\zT es (es.length-1)=⟨.pointer p',.int .i64 q'⟩)/\Below w.heap.size w w'
theorem MU(c:Nat)(a:Option Addr)(p:Option Addr)(q:Int)(w:World):
  Calls Tryz.prog 205 #[.agg #[.slice a 0 c,.slice none 0 0],.agg #[.pointer p,.int .i64 q]] w (NM [] p q w):=by
 have hB0:=(((Za.new w #[.slice a 0 c,.slice none 0 0] 109).alloc (.cells #[.pointer p,.int .i64 q] 106)).alloc (.cells #[.slice none 0 0,.slice none 0 0] 109)).alloc (.cells #[.pointer none,.int .i64 0] 106);have hB1:=((Za.new (w.alloc (.cells #[.slice a 0 c,.slice none 0 0] 109)) #[.pointer p,.int .i64 q] 106).alloc (.cells #[.slice none 0 0,.slice none 0 0] 109)).alloc (.cells #[.pointer none,.int .i64 0] 106);have hB2:=(Za.new ((w.alloc (.cells #[.slice a 0 c,.slice none 0 0] 109)).alloc (.cells #[.pointer p,.int .i64 q] 106)) #[.slice none 0 0,.slice none 0 0] 109).alloc (.cells #[.pointer none,.int .i64 0] 106);have hB3:=Za.new (((w.alloc (.cells #[.slice a 0 c,.slice none 0 0] 109)).alloc (.cells #[.pointer p,.int .i64 q] 106)).alloc (.cells #[.slice none 0 0,.slice none 0 0] 109)) #[.pointer none,.int .i64 0] 106;have hb:=Zo.alloc (o:=.cells #[.pointer none,.int .i64 0] 106) (xz w (.cells #[.slice a 0 c,.slice none 0 0] 109) (.cells #[.pointer p,.int .i64 q] 106) (.cells #[.slice none 0 0,.slice none 0 0] 109));simp only[Zv]at hB1 hB2 hB3;generalize hW:((((w.alloc (.cells #[.slice a 0 c,.slice none 0 0] 109)).alloc (.cells #[.pointer p,.int .i64 q] 106)).alloc (.cells #[.slice none 0 0,.slice none 0 0] 109)).alloc (.cells #[.pointer none,.int .i64 0] 106))=W at hB0 hB1 hB2 hB3 hb;have hzl:=hB3.lt;obtain⟨c00,c01,-,-⟩:=hB0.two;obtain⟨c10,c11,-,-⟩:=hB1.two;obtain⟨c20,c21,f20,f21⟩:=hB2.two;obtain⟨UB,c31,f30,f31⟩:=hB3.two;have HB1:=Zy hB1;have HB2:=Zy hB2;have HB3:=Zy hB3;have HB:=Zy hb;have HW:=Zy hW;have HC:=Zy (jo a 0 c [] W.drew (X0.nil _ _) (fun u hu=>by cases hu) rfl QQ (fun _=>rfl));clear hB0 hB1 hB2 hB3 hb hW;go_enter Tryz.func205,Tryz.ntmps205
 go_upto_region 1 with fail
 rw[HW.out];go_upto_region 2 with fail
 go_cut [4,6] (fun r s wx=>r=.pointer (some ⟨w.heap.size+1+1,0,none⟩)/\s=.bool false/\∃a1 n1 c1,Za wx (w.heap.size+1+1) #[.slice a1 n1 c1,.slice none 0 0] 109/\Za wx (w.heap.size+1+1+1) #[.pointer p,.int .i64 q] 106/\Below w.heap.size w wx)
 case first=>
  go_region_law (first|(go_simp;go_at_call 231;refine HC.out.mono ?_;rintro e w1 ⟨v1,rfl,o1,hb1⟩;obtain⟨a1,n1,c1,rfl⟩:=o1.form;have hR2:=HB2.out.below (w:=W.drew) hb1 HB2.out.lt;obtain⟨e20,e21,k20,k21⟩:=hR2.two;have Vr:=HB3.out.below (w:=W.drew) hb1 HB3.out.lt;obtain⟨e30,e31,sM,sI⟩:=Vr.two;have M9:=HB1.out.below (w:=W.drew) hb1 HB1.out.lt;obtain⟨e10,e11,-,-⟩:=M9.two))
  all_goals
   go_wp2;go_meet;exact⟨rfl,rfl,a1,n1,c1,(((hR2.set 0 (.slice a1 n1 c1)).set 1 (.slice none 0 0)).other (a:=⟨w.heap.size+1+1+1,0,none⟩) QJ _).other (a:=⟨w.heap.size+1+1+1,1,none⟩) QJ _,((((Vr.other (a:=⟨w.heap.size+1+1,0,none⟩) QJ (.slice a1 n1 c1)).other (a:=⟨w.heap.size+1+1,1,none⟩) QJ (.slice none 0 0)).set 0 (.pointer p)).set 1 (.int .i64 q)),Zo.set QQ (Zo.set QQ (Zo.set QQ (Zo.set QQ (Zo.call hb1 (Zo.drew HB.out)))))⟩
 case rest=>
  obtain⟨rfl,rfl,a1,n1,c1,hR2,Vr,hb2⟩:=hcut;obtain⟨y0,y1,-,-⟩:=hR2.two;obtain⟨z0,z1,-,-⟩:=Vr.two;go_wp2;refine ZC (v:=.tuple #[.agg #[.slice a1 n1 c1,.slice none 0 0],.agg #[.pointer p,.int .i64 q],.bool false]) QBS rfl ?_;exact⟨a1,n1,c1,none,0,0,p,q,rfl,fun h=>absurd h QZ,hb2⟩
theorem MK(m c:Nat)(a:Option Addr)(es:List V2)(p:Option Addr)(q:Int)(w:World)(ha:X0 w a es)(hok:OkS es)(hn:es.length=m+1)(hl:m+1<=30)(h0:a=none->m+1=0):
  Calls Tryz.prog 205 #[.agg #[.slice a (m+1) c,.slice none 0 0],.agg #[.pointer p,.int .i64 q]] w (NM es p q w):=by
 have hB0:=(((Za.new w #[.slice a (m+1) c,.slice none 0 0] 109).alloc (.cells #[.pointer p,.int .i64 q] 106)).alloc (.cells #[.slice none 0 0,.slice none 0 0] 109)).alloc (.cells #[.pointer none,.int .i64 0] 106);have hB1:=((Za.new (w.alloc (.cells #[.slice a (m+1) c,.slice none 0 0] 109)) #[.pointer p,.int .i64 q] 106).alloc (.cells #[.slice none 0 0,.slice none 0 0] 109)).alloc (.cells #[.pointer none,.int .i64 0] 106);have hB2:=(Za.new ((w.alloc (.cells #[.slice a (m+1) c,.slice none 0 0] 109)).alloc (.cells #[.pointer p,.int .i64 q] 106)) #[.slice none 0 0,.slice none 0 0] 109).alloc (.cells #[.pointer none,.int .i64 0] 106);have hB3:=Za.new (((w.alloc (.cells #[.slice a (m+1) c,.slice none 0 0] 109)).alloc (.cells #[.pointer p,.int .i64 q] 106)).alloc (.cells #[.slice none 0 0,.slice none 0 0] 109)) #[.pointer none,.int .i64 0] 106;have hb:=Zo.alloc (o:=.cells #[.pointer none,.int .i64 0] 106) (xz w (.cells #[.slice a (m+1) c,.slice none 0 0] 109) (.cells #[.pointer p,.int .i64 q] 106) (.cells #[.slice none 0 0,.slice none 0 0] 109));simp only[Zv]at hB1 hB2 hB3;generalize hW:((((w.alloc (.cells #[.slice a (m+1) c,.slice none 0 0] 109)).alloc (.cells #[.pointer p,.int .i64 q] 106)).alloc (.cells #[.slice none 0 0,.slice none 0 0] 109)).alloc (.cells #[.pointer none,.int .i64 0] 106))=W at hB0 hB1 hB2 hB3 hb;have hzl:=hB3.lt;obtain⟨c00,c01,-,-⟩:=hB0.two;obtain⟨c10,c11,-,-⟩:=hB1.two;obtain⟨c20,c21,f20,f21⟩:=hB2.two;obtain⟨UB,c31,f30,f31⟩:=hB3.two;have HB1:=Zy hB1;have HB2:=Zy hB2;have HB3:=Zy hB3;have HB:=Zy hb;have HW:=Zy hW;have HC:=Zy (jo a (m+1) c es W (ha.keep (ZL hb)) hok.all hn hl h0);obtain⟨p',q',hlast⟩:∃p' q',zT es m=⟨.pointer p',.int .i64 q'⟩:=by
  have hm:m<es.length:=QQ;rw[yT hm];exact hok _ (YK hm)
 have HL:=Zy hlast;have HN:=Zy hn;clear hB0 hB1 hB2 hB3 hb hW h0 ha hok hlast hn;have i0:¬((m:Int)+1=0):=QQ;have i1:((m:Int)+1==0)=false:=QY;go_enter Tryz.func205,Tryz.ntmps205
 go_upto_region 1 with fail
 rw[HW.out];go_wp2_with fail
 refine HC.out.mono ?_;rintro e w1 ⟨v1,rfl,o1,hb1⟩;obtain⟨g,c3,rfl,hg1,hg2⟩:=World.ownsRow.form o1 QAZ;have QJc:=o1.su.get;have HN2:=HN.out;rw[HN2]at o1 QJc ⊢;clear HN2;obtain⟨-,hmc,hc3,hpr,-⟩:=QJc;have M9:=HB1.out.below hb1 HB1.out.lt;have hR2:=HB2.out.below hb1 HB2.out.lt;have Vr:=HB3.out.below hb1 HB3.out.lt;have hbW:=ZE HB.out HB.out.size hb1;have hs1:=hb1.size;obtain⟨gb,go',hge,hgc⟩:=hpr.at (k:=m) QB;simp only[ZM,YB]at hge;obtain⟨rfl,rfl,-⟩:=hge;obtain⟨hg0,hg1'⟩:=hgc m QB;rw[HL.out,XN]at hg0 hg1';dsimp only at hg0 hg1';have hb2:=Zn w1 (.cells #[.slice (some ⟨g,0,none⟩) (m+1) c3,.slice none 0 0] 109) (.cells #[.pointer none,.int .i64 0] 106);have kL:=(Za.new w1 #[.slice (some ⟨g,0,none⟩) (m+1) c3,.slice none 0 0] 109).alloc (.cells #[.pointer none,.int .i64 0] 106);have UW:=Za.new (w1.alloc (.cells #[.slice (some ⟨g,0,none⟩) (m+1) c3,.slice none 0 0] 109)) #[.pointer none,.int .i64 0] 106;rw[Zv]at UW;have TJ:=Zy (GR g m c3 p' q' _ (ZL hb2 _ _ hg0) (ZL hb2 _ _ hg1') hmc hc3);have TY:=Zy ((hpr.keep (ZL hb2)));have HO:=Zy ((o1.Yc (o:=.cells #[.slice (some ⟨g,0,none⟩) (m+1) c3,.slice none 0 0] 109)).Yc (o:=.cells #[.pointer none,.int .i64 0] 106));have HR1:=Zy (M9.below hb2 M9.lt);have HR2:=Zy (hR2.below hb2 hR2.lt);have HR3:=Zy (Vr.below hb2 Vr.lt);have HB7:=Zy kL;have qY:=Zy UW;have HBW:=Zy (ZE hbW hbW.size hb2);clear hgc hg0 hg1' hpr M9 hR2 Vr kL UW hb2 hbW hb1 c00 c01 c10 c11 c20 c21 f20 f21 UB c31 f30 f31 o1;go_wp2_with fail
 refine TJ.out.mono ?_;rintro e w5 ⟨rfl,hb5⟩;have kL:=HB7.out.below hb5 HB7.out.lt;have UW:=qY.out.below hb5 qY.out.lt;have M9:=HR1.out.below hb5 HR1.out.lt;have hR2:=HR2.out.below hb5 HR2.out.lt;have Vr:=HR3.out.below hb5 HR3.out.lt;have ho:=HO.out.kept hb5;have hbW:=ZE HBW.out HBW.out.size hb5;have QZC:w1.heap.size≠w1.heap.size+1:=QQ;have hg7:some (w1.heap.size)≠(Value.slice (some ⟨g,0,none⟩) (m+1) c3).ownBlock:=by simp[Value.ownBlock];omega
 have gG:some (w1.heap.size+1)≠(Value.slice (some ⟨g,0,none⟩) (m+1) c3).ownBlock:=by simp[Value.ownBlock];omega
 have QKD:=((kL.other (a:=⟨w1.heap.size+1,0,none⟩) QZC (.pointer p')).other (a:=⟨w1.heap.size+1,1,none⟩) QZC (.int .i64 q')).set 0 (.slice (some ⟨g,0,none⟩) m c3);have QKC:=((UW.set 0 (.pointer p')).set 1 (.int .i64 q')).other (a:=⟨w1.heap.size,0,none⟩) QZC.symm (.slice (some ⟨g,0,none⟩) m c3);have QZg:=((M9.other (a:=⟨w1.heap.size+1,0,none⟩) QY (.pointer p')).other (a:=⟨w1.heap.size+1,1,none⟩) QY (.int .i64 q')).other (a:=⟨w1.heap.size,0,none⟩) QY (.slice (some ⟨g,0,none⟩) m c3);have QKj:=((hR2.other (a:=⟨w1.heap.size+1,0,none⟩) QY (.pointer p')).other (a:=⟨w1.heap.size+1,1,none⟩) QY (.int .i64 q')).other (a:=⟨w1.heap.size,0,none⟩) QY (.slice (some ⟨g,0,none⟩) m c3);have QKy:=((Vr.other (a:=⟨w1.heap.size+1,0,none⟩) QY (.pointer p')).other (a:=⟨w1.heap.size+1,1,none⟩) QY (.int .i64 q')).other (a:=⟨w1.heap.size,0,none⟩) QY (.slice (some ⟨g,0,none⟩) m c3);have ho':=((ho.Gf gG 0 (.pointer p')).Gf gG 1 (.int .i64 q')).Gf hg7 0 (.slice (some ⟨g,0,none⟩) m c3);have QKZ:=Zo.set (a:=w) (B:=w1.heap.size) (i:=0) (u:=.slice (some ⟨g,0,none⟩) m c3) QQ (Zo.set (B:=w1.heap.size+1) (i:=1) (u:=.int .i64 q') QQ (Zo.set (B:=w1.heap.size+1) (i:=0) (u:=.pointer p') QQ hbW));obtain⟨y70,y71,k70,k71⟩:=kL.two;obtain⟨y80,y81,k80,k81⟩:=UW.two;clear kL UW M9 hR2 Vr ho hbW;go_upto_region 6 with fail
 generalize hW6:(((w5.setCell ⟨w1.heap.size+1,0,none⟩ (.pointer p')).setCell ⟨w1.heap.size+1,1,none⟩ (.int .i64 q')).setCell ⟨w1.heap.size,0,none⟩ (.slice (some ⟨g,0,none⟩) m c3))=w6 at *;have kL:Za w6 w1.heap.size #[.slice (some ⟨g,0,none⟩) m c3,.slice none 0 0] 109:=QKD;have UW:Za w6 (w1.heap.size+1) #[.pointer p',.int .i64 q'] 106:=QKC;obtain⟨x70,x71,-,-⟩:=kL.two;obtain⟨Sa,rA,-,-⟩:=QZg.two;have H7:=Zy kL;have H8:=Zy UW;have H2:=Zy QKj;have H3:=Zy QKy;have HO6:=Zy ho';have HW6:=Zy QKZ;have hlt1:=QZg.lt;have QWV:=kL.lt;have Mi:=UW.lt;clear HB1 HB2 HB3 HB HW HC TJ TY HO HR1 HR2 HR3 HB7 qY HBW kL UW QKD QKC QZg QKj QKy ho' QKZ hW6 y70 y71 k70 k71 y80 y81 k80 k81 hb5 hg7 gG i0 i1;go_wp2_with (at_builtin;refine QQn (T:=106) (ST:=107) Tryz.underlying107 jH rfl QZ rfl _ _ rfl w6.heap.size _ [] [⟨.pointer p,.int .i64 q⟩] ⟨w6.heap.size,0,none⟩ 1 1 rfl rfl (Xb.nil _ _ _) (vH rfl) (fun u hu=>QBq) rfl QJ QJ QZ ?_;intro v4 w4 o4 hg4 QZR;have hb4:Below w6.heap.size w6 w4:=(ZT w6 _).grown hg4 QJ (Xb.nil 106 w6.heap.size w6).row;obtain⟨a4,n4,c4,rfl⟩:=o4.form;have hC7:=H7.out.below hb4 QWV;have JY:=H8.out.below hb4 Mi;have hC2:=H2.out.below hb4 QQ;have hC3:=H3.out.below hb4 QQ;obtain⟨QyB,Qyv,z70,z71⟩:=hC7.two;obtain⟨x80,x81,-,-⟩:=JY.two;obtain⟨x20,x21,z20,z21⟩:=hC2.two;obtain⟨x30,x31,z30,z31⟩:=hC3.two;have iQ:=Zy hC2;have HC3:=Zy hC3;have HC7:=Zy hC7;have HO4:=Zy (HO6.out.kept hb4);have Dj:=Zy (ZE HW6.out HW6.out.size hb4);clear hC7 JY hC2 hC3 x70 x71 Sa rA o4 hg4 QZR hb4)
 go_region
 go_wp2;have e2:=((((iQ.out.other (a:=⟨w1.heap.size,1,none⟩) QY (.slice a4 n4 c4)).set 0 (.slice (some ⟨g,0,none⟩) m c3)).set 1 (.slice a4 n4 c4)).other (a:=⟨w.heap.size+1+1+1,0,none⟩) QJ (.pointer p')).other (a:=⟨w.heap.size+1+1+1,1,none⟩) QJ (.int .i64 q');have e3:=((((HC3.out.other (a:=⟨w1.heap.size,1,none⟩) QY (.slice a4 n4 c4)).other (a:=⟨w.heap.size+1+1,0,none⟩) QJ (.slice (some ⟨g,0,none⟩) m c3)).other (a:=⟨w.heap.size+1+1,1,none⟩) QJ (.slice a4 n4 c4)).set 0 (.pointer p')).set 1 (.int .i64 q');obtain⟨y0,y1,-,-⟩:=e2.two;obtain⟨z0,z1,-,-⟩:=e3.two;have hv:∀k,k≠g->some k≠(Value.slice (some ⟨g,0,none⟩) (m+1) c3).ownBlock:=fun k hk=>by simpa[Value.ownBlock]using hk
 have ho:=((((HO4.out.Gf (hv w1.heap.size QQ) 1 (.slice a4 n4 c4)).Gf (hv (w.heap.size+1+1) QQ) 0 (.slice (some ⟨g,0,none⟩) m c3)).Gf (hv (w.heap.size+1+1) QQ) 1 (.slice a4 n4 c4)).Gf (hv (w.heap.size+1+1+1) QQ) 0 (.pointer p')).Gf (hv (w.heap.size+1+1+1) QQ) 1 (.int .i64 q');have hpr:=ho.su.get.2.2.2.1.take m;have hdl:es.dropLast=es.take m:=by rw[List.dropLast_eq_take,HN.out];rfl
 have hb:=Zo.set (a:=w) (B:=w.heap.size+1+1+1) (i:=1) (u:=.int .i64 q') QQ (Zo.set (B:=w.heap.size+1+1+1) (i:=0) (u:=.pointer p') QQ (Zo.set (B:=w.heap.size+1+1) (i:=1) (u:=.slice a4 n4 c4) QQ (Zo.set (B:=w.heap.size+1+1) (i:=0) (u:=.slice (some ⟨g,0,none⟩) m c3) QQ (Zo.set (B:=w1.heap.size) (i:=1) (u:=.slice a4 n4 c4) QQ Dj.out))));refine ZC (v:=.tuple #[.agg #[.slice (some ⟨g,0,none⟩) m c3,.slice a4 n4 c4],.agg #[.pointer p',.int .i64 q'],.bool true]) QBS rfl ?_;refine⟨some ⟨g,0,none⟩,m,c3,a4,n4,c4,p',q',by rw[HN.out];simp,fun _=>⟨⟨some ⟨g,0,none⟩,m,c3,rfl,by rw[hdl,Zp,HN.out];omega,QQ,hc3,by rw[hdl];exact hpr.J5,QJ,fun ad e _=>?_⟩,by rw[HN.out];exact HL.out⟩,hb.drew⟩;simp only[ZM]at e;subst e;show w.heap.size<=g;omega
theorem Pv(a:Option Addr)(n c:Nat)(es:List V2)(p:Option Addr)(q:Int)(w:World)(ha:X0 w a es)(hok:OkS es)(hn:es.length=n)(hl:n<=30)(h0:a=none->n=0):
  Calls Tryz.prog 205 #[.agg #[.slice a n c,.slice none 0 0],.agg #[.pointer p,.int .i64 q]] w (NM es p q w):=by
 rcases n with _|m
 ·obtain rfl:es=[]:=Ze hn
  exact MU c a p q w
 ·exact MK m c a es p q w ha hok hn hl h0
def Io(F:Nat->Prop)(w:World)(us:List V2)(es:List (List Int×Int)):Prop:=us.length=es.length/\∀i (h:i<es.length),Wv F w (zT us i).a es[i].1/\(zT us i).b=.int .i64 es[i].2
theorem fA.get{F:Nat->Prop}{w:World}{v:Value}{es:List (List Int×Int)}(h:fA F w v es):∃us,je F w v us/\Io F w us es:=by
 obtain⟨us,h1,h2,h3⟩:=h;exact⟨us,h1,h2,h3⟩
theorem Io.snp{F:Nat->Prop}{w:World}{v:Value}{us:List V2}{es:List (List Int×Int)}(h:Io F w us es)(hp:je F w v us):fA F w v es:=⟨us,hp,h.1,h.2⟩
theorem Io.keep{F G:Nat->Prop}{w w':World}{us:List V2}{es:List (List Int×Int)}(h:Io F w us es)(hc:Xv F w w')(hi:∀k,F k->G k):Io G w' us es:=
 ⟨h.1,fun i hi'=>⟨(h.2 i hi').1.keep hc hi,(h.2 i hi').2⟩⟩
theorem Io.snoc{F:Nat->Prop}{w:World}{us:List V2}{es:List (List Int×Int)}{v:Value}{t:List Int}{q:Int}(h:Io F w us es)(ht:Wv F w v t):Io F w (us++[⟨v,.int .i64 q⟩]) (es++[(t,q)]):=by
 refine⟨QBd,fun i hi=>?_⟩;by_cases hlt:i<es.length
 ·rw[uR (by rw[h.1];exact hlt),List.getElem_append_left hlt]
  exact h.2 i hlt
 ·obtain rfl:i=es.length:=by simp at hi;omega
  have:=yS (es:=us) (us:=[⟨v,.int .i64 q⟩]) (i:=0);rw[X8,h.1]at this;rw[this,List.getElem_append_right (ZB _)];simp only[Nat.sub_self,List.getElem_cons_zero];exact⟨ht,rfl⟩
theorem Io.drop{F:Nat->Prop}{w:World}{us:List V2}{es:List (List Int×Int)}(h:Io F w us es)(k:Nat):Io F w (us.drop k) (es.drop k):=by
 refine⟨QBd,fun i hi=>?_⟩;rw[Gy,List.getElem_drop];exact h.2 (k+i) Qa
theorem Io.dropLast{F:Nat->Prop}{w:World}{us:List V2}{es:List (List Int×Int)}(h:Io F w us es):Io F w us.dropLast es.dropLast:=by
 refine⟨QBd,fun i hi=>?_⟩;rw[List.length_dropLast]at hi;rw[List.dropLast_eq_take,Gz (by rw[h.1];omega),List.getElem_dropLast];exact h.2 i QQ
theorem Io.oks{F:Nat->Prop}{w:World}{us:List V2}{es:List (List Int×Int)}(h:Io F w us es):OkS us:=fun u hu=>by
 obtain⟨i,hi,e⟩:=Xw.1 hu;obtain⟨h1,h2⟩:=h.2 i (by rw[<-h.1];exact hi);rw[yT hi,e]at h1 h2;obtain⟨p,hp⟩:=h1.ptr;obtain⟨ua,ub⟩:=u;dsimp only at hp h2;exact⟨p,_,by rw[hp,h2]⟩
theorem Xv.Yc{F:Nat->Prop}{a w:World}{o:Obj}(h:Xv F a w):Xv F a (w.alloc o):=h.trans (Xv.below F (ZT _ _))
theorem Xv.J5{F:Nat->Prop}{a w:World}(h:Xv F a w):Xv F a w.drew:=h
theorem Xv.vX{F:Nat->Prop}{a w:World}{B i:Nat}{u:Value}(hB:¬F B)(h:Xv F a w):Xv F a (w.setCell ⟨B,i,none⟩ u):=h.trans (Xv.setCell (a:=⟨B,i,none⟩) hB u)
theorem je.OA{P Q:Nat->Prop}{w w':World}{v:Value}{es:List V2}(h:je P w v es)(hk:Xv (fun k=>P k/\k<w.heap.size) w w')(hi:∀k,P k->Q k):je Q w' v es:=(h.lt.keep hk).imp fun k g=>hi k g.1
theorem je.QY9{T:TypeId}{base:Nat}{w:World}{v:Value}{us:List V2}{F:Nat->Prop}(h:Xb T base w v us)(hi:∀k,base<=k/\k<w.heap.size->F k):je F w v us:=
 h.su.lt.imp fun k hk=>hi k ⟨hk.1.1,hk.2⟩
theorem Nr(F G:Nat->Prop)(B:Nat)(S:SS)(w:World)(h:Yv F G w B S)(hp:S.past.length<=30):
  Calls Tryz.prog 204 #[.pointer (some ⟨B,0,none⟩)] w (VP F G w B S.save YG):=by
 obtain⟨f,hf⟩:=h;have hA:=At.begin hf;obtain⟨p,hpt⟩:=hf.d.text.ptr;obtain⟨us,hps,hsn⟩:=hf.d.past.get;have AY:=hps;obtain⟨a,n,c,hv,-⟩:=hps;rw[hv]at AY;obtain⟨g1,g2,g3,g4,g5⟩:=AY.get;have c0:=hf.cell 0;have c1:=hf.cell 1;have eO:=hf.cell 43;have c44:=hf.cell 44;have z43:=hf.free 43;have z44:=hf.free 44;rw[hpt]at c0;rw[hf.d.pos]at c1;rw[hv]at eO;rw[hf.d.fut]at c44;have HD:=Zy (lJ a n c us p S.pos w.drew g4.J5 hsn.oks.all g1 (by rw[<-g1,hsn.1];exact hp) g5);have HA:=Zy hA;have HSN:=Zy hsn;have HPT:=Zy hpt;have HN:=Zy (g1.symm.trans hsn.1);have hBl:=hf.uq;clear hf hA AY hsn hv g1 g2 g3 g4 g5 hpt hp;go_enter Tryz.func204,Tryz.ntmps204
 go_region_law (first|(go_simp;go_at_call 230;refine HD.out.mono ?_;rintro e w2 ⟨v,rfl,o2,hb2⟩;obtain⟨a2,n2,c2,rfl⟩:=o2.form;have hA2:=HA.out.below (w':=w2) (Zo.call hb2 (Zo.drew (ZH _ w)));have x43:=hA2.hf.cell 43;have x44:=hA2.hf.cell 44;have y43:=hA2.hf.free 43;have y44:=hA2.hf.free 44))
 all_goals
  go_wp2
  go_end0
  have hb':Below w.heap.size w w2:=Zo.call hb2 (Zo.drew (ZH _ _));have htx:=hA2.hf.d.text;rw[HPT.out]at htx;have cu:=((HSN.out.keep (Xv.below _ hb') Fx.old).snoc (q:=S.pos) htx).drop (n+1-30);rw[HN.out]at cu o2;have hA3:=hA2.store (S':=S.save) 43 (.slice a2 n2 c2) {hA2.hf.d with past:=cu.snp (je.QY9 o2 Fx.new)};exact⟨rfl,(hA3.store (S':=S.save) 44 (.slice none 0 0) {hA3.hf.d with fut:=rfl}).done⟩
theorem VF.at{w:World}{B:Nat}{f:Nat->Value}(h:VF w B f)(i:Nat)(hi:i<58:=by omega):w.cell? ⟨B,i,none⟩=some (f i)/\w.frozen? ⟨B,i,none⟩=false:=⟨h.cell hi,h.free i⟩
theorem NG{F0 G0 F:Nat->Prop}{w0 w:World}{B:Nat}{f:Nat->Value}{S:SS}{p:Option Addr}(t:List Int)(md q:Int)(h:At F0 G0 w0 F w B f (S.set t q))(hp:f 0=.pointer p)(hq:q=(if md=0 then max 0 ((t.length:Int)-1)else 0)):
  VPs F0 G0 w0 B (S.Jt t md) (((((((((w.setCell ⟨B,45,none⟩ (.pointer p)).setCell ⟨B,43,none⟩ (.slice none 0 0)).setCell ⟨B,44,none⟩ (.slice none 0 0)).setCell ⟨B,2,none⟩ (.int .i64 md)).setCell ⟨B,32,none⟩ (.int .i64 0)).setCell ⟨B,33,none⟩ (.int .i64 0)).setCell ⟨B,34,none⟩ (.int .i64 0)).setCell ⟨B,35,none⟩ (.int .i64 0)).setCell ⟨B,36,none⟩ (.int .i64 0)):=by
 have ht:=h.hf.d.text;rw[hp]at ht;have a1:=h.store (S':={S.set t q with first:=t}) 45 (.pointer p) {h.hf.d with first:=ht};have a2:=a1.store (S':={S.set t q with first:=t,past:=[]}) 43 (.slice none 0 0) {a1.hf.d with past:=fA.nil _ _};have a3:=a2.store (S':={S.set t q with first:=t,past:=[]}) 44 (.slice none 0 0) {a2.hf.d with fut:=rfl};have a4:=a3.store (S':={S.set t q with first:=t,past:=[],mode:=md}) 2 (.int .i64 md) {a3.hf.d with mode:=rfl};have a5:=a4.store (S':={S.set t q with first:=t,past:=[],mode:=md,part:=⟨0,S.part.b,S.part.c,S.part.d,S.part.e⟩}) 32 (.int .i64 0) {a4.hf.d with p0:=rfl};have a6:=a5.store (S':={S.set t q with first:=t,past:=[],mode:=md,part:=⟨0,0,S.part.c,S.part.d,S.part.e⟩}) 33 (.int .i64 0) {a5.hf.d with p1:=rfl};have a7:=a6.store (S':={S.set t q with first:=t,past:=[],mode:=md,part:=⟨0,0,0,S.part.d,S.part.e⟩}) 34 (.int .i64 0) {a6.hf.d with p2:=rfl};have a8:=a7.store (S':={S.set t q with first:=t,past:=[],mode:=md,part:=⟨0,0,0,0,S.part.e⟩}) 35 (.int .i64 0) {a7.hf.d with p3:=rfl};have a9:=a8.store (S':={S.set t q with first:=t,past:=[],mode:=md,part:=⟨0,0,0,0,0⟩}) 36 (.int .i64 0) {a8.hf.d with p4:=rfl};have he:S.Jt t md={S.set t q with first:=t,past:=[],mode:=md,part:=⟨0,0,0,0,0⟩}:=by
  unfold SS.Jt SS.set;rw[hq];rfl
 rw[he];exact a9.done
theorem uP(F G:Nat->Prop)(B:Nat)(S:SS)(a:Option Addr)(m c:Nat)(t:List Int)(md:Int)(w:World)(h:Yv F G w B S)(hs:Sl w (.slice a m c) t)(hm:m<=4096)(hmd:md=0\/md=1):
  Calls Tryz.prog 83 #[.pointer (some ⟨B,0,none⟩),.slice a m c,.int .i64 md] w (VP F G w B (S.Jt t md) YG):=by
 have hlen:t.length=m:=by
  obtain⟨a',n',c',e,g⟩:=hs;simp only[Xx]at e;obtain⟨rfl,rfl,rfl⟩:=e;exact g.1
 obtain⟨q,hq⟩:∃q:Int,q=(if md=0 then max 0 ((t.length:Int)-1)else 0):=⟨_,rfl⟩;have hq2:(md=1/\q=0)\/(md=0/\m=0/\q=0)\/(md=0/\0<m/\q=(m:Int)-1):=by
  rw[hlen]at hq;rcases hmd with rfl|rfl
  ·rw[if_pos rfl]at hq
   rcases XM m with h0|h0
   ·exact .inr (.inl ⟨rfl,h0,QQ⟩)
   ·exact .inr (.inr ⟨rfl,h0,QQ⟩)
  ·exact .inl ⟨rfl,by rw[hq];rfl⟩
 have HT:=Zy (Lf F G B S a m c t q w h hs hm);have HQ:=Zy hq;obtain⟨f,hf⟩:=h;have HA:=Zy (At.begin hf);clear hf hs hlen hq hmd;go_enter Tryz.func83,Tryz.ntmps83
 go_upto_if 8 with fail
 go_cut [6] (fun v wx=>v=.int .i64 q/\w=wx)
 case first=>
  rcases hq2 with⟨rfl,rfl⟩|⟨rfl,rfl,rfl⟩|⟨rfl,h0,rfl⟩
  ·go_wp2
   go_meet;exact⟨rfl,rfl⟩
  ·go_wp2
   go_meet;exact⟨rfl,rfl⟩
  ·go_wp2
   all_goals
    go_meet;first|exact⟨rfl,rfl⟩|exact⟨by congr 1;omega,rfl⟩
 case rest=>
  obtain⟨rfl,rfl⟩:=hcut;go_wp2_with fail
  refine HT.out.mono ?_;rintro e w2 ⟨rfl,hv⟩;obtain⟨F',f',hA2,-,-⟩:=hv.get;obtain⟨p,hp⟩:=hA2.hf.d.text.ptr;obtain⟨c0,-⟩:=hA2.hf.m.blk.at 0;rw[hp]at c0;obtain⟨c45,z45⟩:=hA2.hf.m.blk.at 45;obtain⟨eO,z43⟩:=hA2.hf.m.blk.at 43;obtain⟨c44,z44⟩:=hA2.hf.m.blk.at 44;obtain⟨c2,z2⟩:=hA2.hf.m.blk.at 2;obtain⟨c32,z32⟩:=hA2.hf.m.blk.at 32;obtain⟨Kr,z33⟩:=hA2.hf.m.blk.at 33;obtain⟨c34,z34⟩:=hA2.hf.m.blk.at 34;obtain⟨xE,z35⟩:=hA2.hf.m.blk.at 35;obtain⟨c36,z36⟩:=hA2.hf.m.blk.at 36;have HA2:=Zy hA2;have HP:=Zy hp;clear hA2 hp hv hq2;go_wp2
  go_end0
  exact⟨rfl,NG t md q HA2.out HP.out HQ.out⟩
theorem At.N9{F0 G0 F:Nat->Prop}{w0 w:World}{B:Nat}{f:Nat->Value}{S:SS}(h:At F0 G0 w0 F w B f S):At F0 G0 w0 F (w.setCell ⟨B,47,none⟩ (.pointer none)) B (KR f 47 (.pointer none)) {S with now:=none}:=by
 have hM:=h.hf.m;have hne:=hM.WO;have hs:∀k,k≠B->(w.setCell ⟨B,47,none⟩ (.pointer none)).heap[k]? =w.heap[k]?:=fun k hk=>Zm _ _ _ _ hk
 have hsz:(w.setCell ⟨B,47,none⟩ (.pointer none)).heap.size=w.heap.size:=size_setCell _ _ _;obtain⟨us,ho,he⟩:=hM.told;have hd:qi F w (KR f 47 (.pointer none)) {S with now:=none}:={h.hf.d with};refine⟨⟨h.step.os,h.step.tape,h.step.output,QAo,fun k hk hn=>?_⟩,fun k hk=>?_,h.sub,⟨?_,?_,hd.setCell hM.nB,?_⟩⟩
 ·rw[Zm _ _ _ _ (fun e=>?_)]
  ·exact h.step.block k hk hn
  ·subst e
   exact QEb
 ·rw[Zm _ _ _ _ (h.sG k hk)];exact h.same k hk
 ·rw[Gx.setCell];exact h.hf.fg
 ·rw[Gx.setCell,hsz];exact h.hf.lt
 ·rw[Gx.setCell]
  exact {
   blk:=hM.blk.set 47 (.pointer none),nB:=hM.nB,gB:=hM.gB,now:=by rw[JF];rfl
   told:=⟨us,ho.moved fun k hk=>hs k (hne k (.inl hk)),he.keep (Xv.setCell hM.nB _) (fun _ h=>h)⟩
   Y0:=hM.Y0
   YC:=hM.YC.moved fun k hk=>hs k (hne k (.inr (.inl hk)))
   J6:=hM.J6}
theorem At.uK{F0 G0 F:Nat->Prop}{w0 w:World}{B:Nat}{f:Nat->Value}{S:SS}{q:C5×List Int}(h:At F0 G0 w0 F w B f S)(hn:S.now=some q):
  ∃F',At F0 G0 w0 F' ((w.setCell ⟨B,46,none⟩ (f 47)).setCell ⟨B,47,none⟩ (.pointer none)) B (KR (KR f 46 (f 47)) 47 (.pointer none)) {S with last:=S.now,now:=none}:=by
 have hM:=h.hf.m;have hne:=hM.WO;have hno:=hM.now;obtain⟨c,ty⟩:=q;rw[hn]at hno;obtain⟨C,tv,h1,h2,h3,h4,h5,h6⟩:=hno;have hs:∀k,k≠B->((w.setCell ⟨B,46,none⟩ (f 47)).setCell ⟨B,47,none⟩ (.pointer none)).heap[k]? =w.heap[k]?:=fun k hk=>(Zm _ _ _ _ hk).trans (Zm _ _ _ _ hk)
 have hsz:((w.setCell ⟨B,46,none⟩ (f 47)).setCell ⟨B,47,none⟩ (.pointer none)).heap.size=w.heap.size:=by rw[size_setCell,size_setCell]
 have hCB:C≠B:=hne C (.inr (.inr ⟨C,h1,.inl rfl⟩));have hrB:∀k,tv.ownBlock=some k->k≠B:=fun k hk=>hne k (.inr (.inr ⟨C,h1,.inr ⟨tv,h4.cell 5,hk⟩⟩))
 let F':Nat->Prop:=fun k=>F k\/k=C\/tv.ownBlock=some k
 have hFF:∀k,F k->F' k:=fun _ h=>.inl h
 have hnB:¬F' B:=fun e=>by
  rcases e with e|e|e
  ·exact hM.nB e
  ·exact hCB e.symm
  ·exact hrB B e rfl
 obtain⟨us,ho,he⟩:=hM.told;have hd0:qi F' w f S:=h.hf.d.keep (Xv.refl _ _) (fun _ _ _ _ h=>h) hFF;have hch:ChP F' w (f 47) (some (c,ty)):=⟨C,tv,h1,.inr (.inl rfl),h4,h5.sW.imp fun k hk=>.inr (.inr hk)⟩;have hd:qi F' w (KR (KR f 46 (f 47)) 47 (.pointer none)) {S with last:=S.now,now:=none}:={hd0 with last:=by rw[hn];exact hch};have dO:Gx G0 w0 ((w.setCell ⟨B,46,none⟩ (f 47)).setCell ⟨B,47,none⟩ (.pointer none))=Gx G0 w0 w:=by rw[Gx.setCell,Gx.setCell]
 refine⟨F',⟨h.step.os,h.step.tape,h.step.output,QAo,fun k hk hn=>?_⟩,fun k hk=>?_,fun k hk=>hFF k (h.sub k hk),⟨?_,?_,(hd.setCell hnB).setCell hnB,?_⟩⟩
 ·rw[hs k (fun e=>?_)]
  ·exact h.step.block k hk hn
  ·subst e
   exact QEb
 ·rw[hs k (h.sG k hk)];exact h.same k hk
 ·rw[dO]
  rintro k (hk|hk|hk)
  ·exact h.hf.fg k hk
  ·subst hk;exact h3
  ·exact(h6 k hk).2.1
 ·rw[dO,hsz];exact h.hf.lt
 ·rw[dO]
  have hEv:∀k,(f 56).ownBlock=some k->¬F' k:=fun k hk e=>by
   rcases e with e|e|e
   ·exact(hM.Y0 k hk).1 e
   ·subst e;exact ho.Xa h4 QZ hk.symm
   ·rcases h5.2 with⟨e0,_⟩|⟨g,cap,cur,e0,hb',hgg,rest⟩
    ·rw[e0]at e;simp[Value.ownBlock]at e
    ·rw[e0]at e
     simp only[Value.ownBlock,ZM]at e;subst e;exact ho.Xa (show Za w g cur _ from hgg) QZ hk.symm
  have hVi:∀k,(f 57).ownBlock=some k->¬F' k:=fun k hk e=>by
   rcases e with e|e|e
   ·exact(hM.J6 k hk).1 e
   ·subst e;exact hM.YC.Xa h4 QZ hk.symm
   ·exact(h6 k e).2.2 hk
  exact {
   blk:=(hM.blk.set 46 (f 47)).set 47 (.pointer none),nB:=hnB,gB:=hM.gB,now:=rfl
   told:=⟨us,ho.moved fun k hk=>hs k (hne k (.inl hk)),(he.keep (F:=F) (G:=F') (Xv.refl _ _) hFF).keep ((Xv.setCell hnB _).trans (Xv.setCell hnB _)) (fun _ h=>h)⟩
   Y0:=fun k hk=>⟨hEv k hk,(hM.Y0 k hk).2⟩
   YC:=hM.YC.moved fun k hk=>hs k (hne k (.inr (.inl hk)))
   J6:=fun k hk=>⟨hVi k hk,(hM.J6 k hk).2⟩}
theorem zm{S:SS}(h:S.now=none):S.leave={S with pos:=max 0 (S.pos-1),mode:=0}:=by
 unfold SS.leave;rw[h];obtain⟨a1,a2,a3,a4,a5,a6,a7,a8,a9,b1,b2,b3,b4,b5,b6,b7,b8,b9,d1,d2,d3,d4⟩:=S;simp only at h;subst h;rfl
theorem zl{S:SS}{q:C5×List Int}(h:S.now=some q):S.leave={S with pos:=max 0 (S.pos-1),mode:=0,last:=S.now,now:=none}:=by
 unfold SS.leave;rw[h];rfl
theorem TF(F G:Nat->Prop)(B:Nat)(S:SS)(w:World)(h:Yv F G w B S)(hp0:0<=S.pos)(hp1:S.pos<=200):
  Calls Tryz.prog 135 #[.pointer (some ⟨B,0,none⟩)] w (VP F G w B S.leave YG):=by
 obtain⟨f,hf⟩:=h;have hA:=At.begin hf;obtain⟨c1,z1⟩:=hf.m.blk.at 1;obtain⟨c2,z2⟩:=hf.m.blk.at 2;obtain⟨c46,z46⟩:=hf.m.blk.at 46;obtain⟨c47,z47⟩:=hf.m.blk.at 47;rw[hf.d.pos]at c1;obtain⟨sp,hsp⟩:∃sp,sp=S.pos:=⟨_,rfl⟩;rw[<-hsp]at c1 hp0 hp1;have HSP:=Zy hsp;clear hsp;have hcase:sp=0\/sp=1\/1<sp:=QQ;cases hno:S.now with
 | none=>
  have hn47:f 47=.pointer none:=by have:=hf.m.now;rw[hno]at this;exact this
  rw[hn47]at c47;have HA:=Zy hA;have Kj:=Zy hno;clear hA hf hn47 hno;rcases hcase with rfl|rfl|hlt
  ·go_enter Tryz.func135,Tryz.ntmps135
   exact QEX
  ·go_enter Tryz.func135,Tryz.ntmps135
   exact QEX
  ·have i1:(0:Int)<sp-1:=by omega
   go_enter Tryz.func135,Tryz.ntmps135
   go_wp2
   go_end0
   have h1:=HA.out.store (S':={S with pos:=max 0 (S.pos-1)}) 1 (.int .i64 (sp-1)) {HA.out.hf.d with pos:=by rw[<-HSP.out,show max 0 (sp-1)=sp-1 from QQ];rfl};have h2:=h1.store (S':={S with pos:=max 0 (S.pos-1),mode:=0}) 2 (.int .i64 0) {h1.hf.d with mode:=rfl};exact⟨rfl,QBL⟩
 | some q=>
  obtain⟨C,hn47⟩:∃C,f 47=.pointer (some ⟨C,0,none⟩):=by
   have:=hf.m.now;rw[hno]at this;obtain⟨C,tv,h1,-⟩:=this;exact⟨C,h1⟩
  rw[hn47]at c47;have HA:=Zy hA;have Kj:=Zy hno;have H47:=Zy hn47;clear hA hf hn47 hno;rcases hcase with rfl|rfl|hlt
  ·go_enter Tryz.func135,Tryz.ntmps135
   exact QGH
  ·go_enter Tryz.func135,Tryz.ntmps135
   exact QGH
  ·have i1:(0:Int)<sp-1:=by omega
   go_enter Tryz.func135,Tryz.ntmps135
   go_wp2
   go_end0
   have h1:=HA.out.store (S':={S with pos:=max 0 (S.pos-1)}) 1 (.int .i64 (sp-1)) {HA.out.hf.d with pos:=by rw[<-HSP.out,show max 0 (sp-1)=sp-1 from QQ];rfl};exact QDi
end Go.Proofs.YtmdcencmiopmmaaGreat
