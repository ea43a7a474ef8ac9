/- joined, no condition of its own. -/
import Derived.Test.YtmdcencmiopmmaaGreatJnT
import Derived.Test.YtmdcencmiopmmaaGreatJnJ1
import Derived.Test.YtmdcencmiopmmaaGreatJnJ34
import Derived.Test.YtmdcencmiopmmaaGreatJnJ35
set_option linter.unusedVariables false
set_option linter.unusedSimpArgs false
set_option maxRecDepth 100000
set_option maxHeartbeats 12000000
namespace Go.Proofs.YtmdcencmiopmmaaGreat
open Go.RowKit
def Nb(base:Nat)(L:List Int)(w:World)(e:Ending)(w':World):Prop:=∃p T,e=.returned (.pointer p)/\KW (fun k=>base<=k) w' (.pointer p) T/\T.Kk=L/\Below w.heap.size w w'
theorem CB(base:Nat)(w:World)(hbs:base<=w.heap.size)(b:Nat)(lv rv:Value)(l r:Tr)(c s k:Int)(hb:b=w.heap.size)(hl:KW (fun k=>base<=k) w lv l)(hr:KW (fun k=>base<=k) w rv r)(hs:s=((Tr.node l c r).Kk.length:Int))(hk:k=((Tr.node l c r).zA:Int)):
  KW (fun k=>base<=k) (w.alloc (.cells #[lv,rv,.int .i64 c,.int .i64 s,.int .i64 k] 209)) (.pointer (some ⟨b,0,none⟩)) (.node l c r):=by
 subst hb hs hk;have h:=Za.new w #[lv,rv,.int .i64 c,.int .i64 ((Tr.node l c r).Kk.length:Int),.int .i64 ((Tr.node l c r).zA:Int)] 209;have hb:=ZT w (.cells #[lv,rv,.int .i64 c,.int .i64 ((Tr.node l c r).Kk.length:Int),.int .i64 ((Tr.node l c r).zA:Int)] 209);exact⟨w.heap.size,lv,rv,hbs,rfl,h.cell 0,h.cell 1,h.cell 2,h.cell 3,h.cell 4,hl.keep (Xv.below _ hb) (fun _ h=>h),hr.keep (Xv.below _ hb) (fun _ h=>h)⟩
theorem KW.Mq{F:Nat->Prop}{w:World}{R:Nat}{u x:Value}{e:TypeId}(hR:Za w R #[u] e):∀{t:Tr} {v:Value},KW F w v t->KW F (w.setCell ⟨R,0,none⟩ x) v t
 | .nil,_,h=>h
 | .node l c r,_,⟨b,lv,rv,hb,h0,h1,h2,h3,h4,h5,h6,h7⟩=>by
  have hne:b≠R:=by
   rintro rfl;have:=hR.cell 1;rw[this]at h2;simp at h2
  exact⟨b,lv,rv,hb,h0,Zr h1 hne,Zr h2 hne,Zr h3 hne,Zr h4 hne,Zr h5 hne,KW.Mq hR h6,KW.Mq hR h7⟩
def QXI(L:List Int)(er:Int)(w:World)(e:Ending)(w':World):Prop:=∃p,e=.returned (.tuple #[.agg #[.pointer p],.int .i64 er])/\Wv (fun k=>w.heap.size<=k) w' (.pointer p) L/\Below w.heap.size w w'
theorem Mv(base:Nat)(lp rp:Option Addr)(l r:Tr)(c:Int)(w:World)(hbs:base<=w.heap.size)(hl:KW (fun k=>base<=k) w (.pointer lp) l)(hr:KW (fun k=>base<=k) w (.pointer rp) r)(hsz:l.Kk.length+r.Kk.length<=100000):
  Calls Tryz.prog 244 #[.pointer lp,.int .i64 c,.pointer rp] w (Nb base (l.Kk++c::r.Kk) w):=by
 have h1:=jQ _ _ _ hl.tree;have h2:=jQ _ _ _ hr.tree;have h3:=CG _ _ _ hl.tree;have h4:=CG _ _ _ hr.tree;have t1:=l.uJ;have t2:=r.uJ;have HL:=Zy hl;have HR:=Zy hr;have hsz2:((Tr.node l c r).Kk.length:Int)=(l.Kk.length:Int)+1+(r.Kk.length:Int):=by simp[Tr.Kk];omega
 have QJF:((Tr.node l c r).zA:Int)=1+max (l.zA:Int) (r.zA:Int):=by simp only[Tr.zA];omega
 have HS:=Zy hsz2;have HT:=Zy QJF;obtain⟨sl,hsl⟩:∃n,l.Kk.length=n:=⟨_,rfl⟩;obtain⟨sr,hsr⟩:∃n,r.Kk.length=n:=⟨_,rfl⟩;obtain⟨kl,hkl⟩:∃n,l.zA=n:=⟨_,rfl⟩;obtain⟨kr,hkr⟩:∃n,r.zA=n:=⟨_,rfl⟩;rw[hsl]at h1 HS hsz t1;rw[hsr]at h2 HS hsz t2;rw[hkl]at h3 HT t1;rw[hkr]at h4 HT t2;have hm:kl<kr\/kr<=kl:=QQ;clear hl hr hsz2 QJF hsl hsr hkl hkr;rcases hm with hm|hm
 ·have i1:(kl:Int)<(kr:Int):=by omega
  have i2:max (kl:Int) (kr:Int)=(kr:Int):=QQ;exact QDM
 ·have i1:(kr:Int)<=(kl:Int):=by omega
  have i2:max (kl:Int) (kr:Int)=(kl:Int):=QQ;exact QDM
def LQ(base n:Nat):Prop:=∀(a:Option Addr) (m c:Nat) (xs:List Int) (w:World),m<=n->m<=10000->base<=w.heap.size->Sl w (.slice a m c) xs->Calls Tryz.prog 221 #[.slice a m c] w (Nb base xs w)
theorem EX(base:Nat):∀n,LQ base n:=by
 intro n;induction n with
 | zero=>
  intro a m c xs w hm hm2 hbs hs;obtain rfl:m=0:=QQ;obtain rfl:xs=[]:=Ze hs.get.1;exact QFI
 | succ n ih=>
  intro a m c xs w hm hm2 hbs hs;obtain⟨h1,h2,h3,h4,h5⟩:=hs.get;rcases XM m with rfl|hpos
  ·obtain rfl:xs=[]:=Ze h1
   exact QFI
  ·obtain⟨k,hk⟩:∃k,m / 2=k:=⟨_,rfl⟩
   have hkm:k<m:=QQ;obtain⟨b,o,rfl,-⟩:=h4.at (k:=0) QQ;have e1:=h4.QKf (k:=k) QQ;have QJ6:=xq (some ⟨b,o,none⟩) m c k QQ;have nU:=kJ (some ⟨b,o,none⟩) m c (k+1) QQ;have hIe:=h4.eu (c:=c) (k+1) QQ QQ;have HI1:=Zy (show Sl w (.slice (some ⟨b,o,none⟩) k c) (xs.take k)from⟨_,_,_,rfl,by rw[Zp];omega,QQ,h3,h4.take k,fun e=>QAU⟩);have HI2:=Zy (show Sl w (.slice (qV (some ⟨b,o,none⟩) c (k+1)) (m-(k+1)) (c-(k+1))) (xs.drop (k+1))from⟨_,_,_,rfl,by rw[Xy];omega,QQ,QQ,hIe,fun e=>by have:=VQ e;cases this⟩);have i0:(m:Int).tdiv 2=(k:Int):=by rw[<-hk];rfl
   have i1:((m:Int)==0)=false:=QY;have i2:(k:Int)<(m:Int):=QQ
   push_cast at nU
   have iw:IntKind.i64.wrap ((k:Int)+1)=(k:Int)+1:=QAz;unfold LQ at ih;have IHH:=Zy ih;have Lv:=Zy h1;have HML:=Zy (bE (xs:=xs) (k:=k) QQ);clear h1 h4 h5 hs hIe ih hk;go_enter Tryz.func221,Tryz.ntmps221
   go_upto_region 4 with fail
   go_region_held3 (fun w'=>w'.cell? ⟨b,o+k,none⟩=some (.int .i64 (ix xs k))/\Below w.heap.size w w') (first|exact⟨e1,(ZH _ _).drew⟩|assumption|exact Em ‹_› ‹_›)
    (first|(go_at_call 221;((with_reducible refine(IHH.out (some ⟨b,o,none⟩) k c (xs.take k) _ QQ QQ (Zh hbs (kb1 ‹_›).size) (HI1.out.below (kb1 ‹_›))).mono ?_);rintro e w4 ⟨p4,T4,rfl,hT4,hL4,hb4⟩;have gI:=Em ‹_› hb4))|(go_at_call 221;((with_reducible refine(IHH.out _ (m-(k+1)) _ (xs.drop (k+1)) _ QQ QQ (Zh hbs (kb1 ‹_›).size) (HI2.out.below (kb1 ‹_›))).mono ?_);rintro e w5 ⟨p5,T5,rfl,hT5,hL5,hb5⟩;have hS5:=Em ‹_› hb5))|(go_at_call 244;((with_reducible refine(Mv base p4 p5 T4 T5 (ix xs k) _ (Zh hbs (kb1 ‹_›).size) (hT4.keep (Xv.below _ hb5) (fun _ h=>h)) hT5 (by rw[hL4,hL5,Zp,Xy,Lv.out];omega)).mono ?_);rintro e w6 ⟨p6,T6,rfl,hT6,hL6,hb6⟩;have nk:=Em ‹_› hb6)))
   all_goals
    go_wp2;go_ret;exact⟨p6,T6,rfl,hT6,by rw[hL6,hL4,hL5];exact HML.out,kb1 nk⟩
theorem Gn(base:Nat)(a:Option Addr)(m c:Nat)(xs:List Int)(w:World)(hbs:base<=w.heap.size)(hm:m<=10000)(hs:Sl w (.slice a m c) xs):Calls Tryz.prog 221 #[.slice a m c] w (Nb base xs w):=
 EX base m a m c xs w (ZB _) hm hbs hs
theorem aU(a:Option Addr)(m c:Nat)(xs:List Int)(w:World)(hm:m<=4096)(hs:Sl w (.slice a m c) xs):
  Calls Tryz.prog 190 #[.slice a m c] w (QXI xs 0 w):=by
 have hR:=Za.new w #[.pointer none] 104;have hb:=ZT w (.cells #[.pointer none] 104);have hz:w.heap.size<=(w.alloc (.cells #[.pointer none] 104)).heap.size:=QJ;have HB:=Zy (Gn w.heap.size a m c xs _ QJ QQ (hs.below hb));clear hs;go_enter Tryz.func190,Tryz.ntmps190
 go_upto_region 1 with fail
 generalize(w.alloc (.cells #[.pointer none] 104))=w1 at *;go_wp2_with fail
 refine HB.out.mono ?_;rintro e w2 ⟨p,T,rfl,hT,hL,hb2⟩;have hR2:=hR.below hb2 hR.lt;obtain⟨y0,y1⟩:=hR2.one;have HT:=Zy (hT.Mq hR2 (x:=.pointer p));have hacc:=ZE hb hz hb2;clear hT hR;go_wp2;have z0:=(hR2.set 0 (.pointer p)).one.1;refine ZC (v:=.tuple #[.agg #[.pointer p],.int .i64 0]) (by simp[results,Tryz.results190,go_sem,z0]) rfl ?_;exact⟨p,rfl,⟨T,HT.out,hL⟩,hacc.setCell (p:=⟨w.heap.size,0,none⟩) (ZB _) _⟩
theorem HF.cell{F G:Nat->Prop}{w:World}{B:Nat}{f:Nat->Value}{S:SS}(h:HF F G w B f S)(i:Nat)(hi:i<58:=by omega):w.cell? ⟨B,i,none⟩=some (f i):=h.m.blk.cell hi
theorem HF.free{F G:Nat->Prop}{w:World}{B:Nat}{f:Nat->Value}{S:SS}(h:HF F G w B f S)(i:Nat):w.frozen? ⟨B,i,none⟩=false:=h.m.blk.free i
theorem HF.uq{F G:Nat->Prop}{w:World}{B:Nat}{f:Nat->Value}{S:SS}(h:HF F G w B f S):B<w.heap.size:=h.lt _ h.m.gB
theorem Lf(F G:Nat->Prop)(B:Nat)(S:SS)(a:Option Addr)(m c:Nat)(t:List Int)(p:Int)(w:World)(h:Yv F G w B S)(hs:Sl w (.slice a m c) t)(hm:m<=4096):
  Calls Tryz.prog 130 #[.pointer (some ⟨B,0,none⟩),.agg #[.slice a m c,.int .i64 p]] w (VP F G w B (S.set t p) YG):=by
 obtain⟨f,hf⟩:=h;have hR:=Za.new w #[.slice a m c,.int .i64 p] 30;have hb:=ZT w (.cells #[.slice a m c,.int .i64 p] 30);have HT:=Zy (aU a m c t _ hm (hs.below hb));have hA:=(At.begin hf).below hb;have HA:=Zy hA;have HB:=Zy hb;have hBl:B<w.heap.size:=hf.uq;obtain⟨y0,y1,-,-⟩:=hR.two;have HR:=Zy hR;clear hf hA hR hs hm hb;go_enter Tryz.func130,Tryz.ntmps130
 go_wp2_with fail
 refine HT.out.mono ?_;rintro e w2 ⟨q,rfl,hT,hb2⟩;have hA2:=HA.out.below hb2;obtain⟨y02,y12,-,-⟩:=(HR.out.below hb2 HR.out.lt).two;have c0:=hA2.hf.cell 0;have z0:=hA2.hf.free 0;have c1:=hA2.hf.cell 1;have z1:=hA2.hf.free 1;have HA2:=Zy hA2;have HT2:=Zy hT;clear hA2 hT hb2;go_wp2
 go_end0
 have hA3:=HA2.out.store (S':={S with text:=t}) 0 (.pointer q) {HA2.out.hf.d with text:=HT2.out.lt.keep (Xv.refl _ _) (fun k hk=>Fx.new k hk)};exact⟨rfl,(hA3.store (S':=S.set t p) 1 (.int .i64 p) {hA3.hf.d with pos:=rfl}).done⟩
def QK0(S:SS)(w:World)(e:Ending)(w':World):Prop:=∃v,e=.returned (.agg #[v,.int .i64 S.pos])/\Own 3 w.heap.size w' v S.text/\Below w.heap.size w w'
theorem Wv.list{F:Nat->Prop}{w:World}{p:Option Addr}{l:List Int}(h:Wv F w (.pointer p) l)(hl:l.length<=10000):Calls Tryz.prog 79 #[.agg #[.pointer p]] w (zu l w):=by
 obtain⟨T,h1,rfl⟩:=h;exact PS p T w h1.tree hl
theorem DL(F G:Nat->Prop)(B:Nat)(S:SS)(w:World)(h:Yv F G w B S)(hl:S.text.length<=10000):
  Calls Tryz.prog 42 #[.pointer (some ⟨B,0,none⟩)] w (QK0 S w):=by
 obtain⟨f,hf⟩:=h;have hb:=ZT w (.cells #[.slice none 0 0,.int .i64 0] 30);have hR:=Za.new w #[.slice none 0 0,.int .i64 0] 30;have hz:w.heap.size<(w.alloc (.cells #[.slice none 0 0,.int .i64 0] 30)).heap.size:=QJ;generalize hW:(w.alloc (.cells #[.slice none 0 0,.int .i64 0] 30))=W at hb hR hz;have hA:=(At.begin hf).JA hb;obtain⟨p,hp⟩:=hf.d.text.ptr;have c0:=hA.hf.cell 0;have c1:=hA.hf.cell 1;rw[hp]at c0;rw[hA.hf.d.pos]at c1;have htx:=hA.hf.d.text;rw[hp]at htx;have HT:=Zy (Wv.list (w:=W.drew) (htx.keep (F:=F) (G:=F) (fun _ _ _ h=>h) (fun _ h=>h)) hl);have HB:=Zy hb;have HR:=Zy hR;have HW:=Zy hW;clear hf hA hR hb hp htx hl hW;go_enter Tryz.func42,Tryz.ntmps42
 go_upto_region 1 with fail
 rw[HW.out]
 go_cut [2] (fun r wx=>r=.pointer (some ⟨w.heap.size,0,none⟩)/\∃v,wx.cell? ⟨w.heap.size,0,none⟩=some v/\wx.cell? ⟨w.heap.size,1,none⟩=some (.int .i64 S.pos)/\Own 3 w.heap.size wx v S.text/\Below w.heap.size w wx)
 case first=>
  go_region_law (first|(go_simp;go_at_call 79;refine HT.out.mono ?_;rintro e w2 ⟨v,rfl,o2,hb2⟩;have c12:=ZL (w:=W.drew) hb2 _ _ c1;obtain⟨y0,y1,z0,z1⟩:=(HR.out.below (w:=W.drew) hb2 (HR.out.lt)).two;have xF:=Zy o2;have HB2:=Zy hb2;clear o2 hb2;obtain⟨a2,n2,c2,rfl⟩:=xF.out.form))
  all_goals
  have hB2:=HR.out.below (w:=W.drew) HB2.out HR.out.lt;obtain⟨k0,k1,-,-⟩:=((hB2.set 0 (.slice a2 n2 c2)).set 1 (.int .i64 S.pos)).two;have o2:Own 3 w.heap.size w2 (.slice a2 n2 c2) S.text:=Own.mono xF.out (Xr hz);have o3:=o2.other (a:=⟨w.heap.size,0,none⟩) (fun e=>by have:=xF.out.row _ e.symm;simp at this;omega) (.slice a2 n2 c2);have o4:=o3.other (a:=⟨w.heap.size,1,none⟩) (fun e=>by have:=xF.out.row _ e.symm;simp at this;omega) (.int .i64 S.pos);have hb4:=(((ZE HB.out.drew (Xr hz) HB2.out).setCell (p:=⟨w.heap.size,0,none⟩) (ZB _) (.slice a2 n2 c2)).setCell (p:=⟨w.heap.size,1,none⟩) (ZB _) (.int .i64 S.pos));go_wp2;go_meet;exact⟨rfl,_,k0,k1,o4,hb4⟩
 case rest=>
  obtain⟨rfl,v,k0,k1,o4,hb4⟩:=hcut;obtain⟨a4,n4,c4,rfl⟩:=o4.form;go_wp2;refine ZC (v:=.agg #[.slice a4 n4 c4,.int .i64 S.pos]) (by simp[results,Tryz.results42,go_sem,k0,k1]) rfl ?_;exact⟨_,rfl,o4,hb4⟩
theorem yA{P Q:Prop}(h:P)(k:P->Q):Q:=k h
theorem X0.Yc{w:World}{a:Option Addr}{es:List V2}{o:Obj}(h:X0 w a es):X0 (w.alloc o) a es:=h.keep (ZL (ZT _ _))
theorem X0.J5{w:World}{a:Option Addr}{es:List V2}(h:X0 w a es):X0 w.drew a es:=h.keep (fun _ _ h=>h)
theorem X0.YP{w w':World}{a:Option Addr}{es:List V2}(hb:Below w.heap.size w w')(h:X0 w a es):X0 w' a es:=h.keep (ZL hb)
theorem vH{w:World}{B:Nat}{x y:Value}{T:TypeId}(hB:w.heap.size=B):X0 (w.alloc (.cells #[x,y] T)) (some ⟨B,0,none⟩) [⟨x,y⟩]:=by
 subst hB;exact Hq (Za.new _ _ _)
theorem Za.Yc{w:World}{B:Nat}{cs:Array Value}{e:TypeId}{o:Obj}(h:Za w B cs e):Za (w.alloc o) B cs e:=h.alloc o
theorem Za.J5{w:World}{B:Nat}{cs:Array Value}{e:TypeId}(h:Za w B cs e):Za w.drew B cs e:=h
theorem Za.YP{w w':World}{B:Nat}{cs:Array Value}{e:TypeId}(hb:Below w.heap.size w w')(h:Za w B cs e):Za w' B cs e:=h.below hb h.lt
theorem JV{w:World}{B:Nat}{cs:Array Value}{e:TypeId}(hB:w.heap.size=B):Za (w.alloc (.cells cs e)) B cs e:=by
 subst hB;exact Za.new _ _ _
theorem Xb.Yc{T:TypeId}{base:Nat}{w:World}{v:Value}{es:List V2}{o:Obj}(h:Xb T base w v es):Xb T base (w.alloc o) v es:=h.alloc o
theorem Xb.xK{T:TypeId}{base:Nat}{w w':World}{v:Value}{es:List V2}{B:Nat}{cs:Array Value}{e:TypeId}(h:Xb T base w v es)(hg:w.grownBy w' v.ownBlock)(hne:T≠e)(hB:Za w B cs e):Za w' B cs e:=
 hB.grown hg (h.Xa hB hne)
theorem Zo.alloc{a w:World}{o:Obj}(h:Below a.heap.size a w):Below a.heap.size a (w.alloc o):=h.alloc h.size o
theorem Zo.drew{a w:World}(h:Below a.heap.size a w):Below a.heap.size a w.drew:=h.drew
theorem Zo.call{a w w':World}(hb:Below w.heap.size w w')(h:Below a.heap.size a w):Below a.heap.size a w':=ZE h h.size hb
theorem Zo.set{a w:World}{B i:Nat}{u:Value}(hB:a.heap.size<=B)(h:Below a.heap.size a w):Below a.heap.size a (w.setCell ⟨B,i,none⟩ u):=h.setCell hB u
theorem Zo.QVL{T:TypeId}{a w w':World}{v:Value}{es:List V2}(o:Xb T a.heap.size w v es)(hg:w.grownBy w' v.ownBlock)(h:Below a.heap.size a w):Below a.heap.size a w':=h.grown hg h.size o.row
theorem Zo.own{T:TypeId}{a w w':World}{v:Value}{es:List Int}(o:Own T a.heap.size w v es)(hg:w.grownBy w' v.ownBlock)(h:Below a.heap.size a w):Below a.heap.size a w':=h.grown hg h.size o.row
theorem Xb.vX{T:TypeId}{base:Nat}{w:World}{v:Value}{es:List V2}{B:Nat}{cs:Array Value}{e:TypeId}(h:Xb T base w v es)(hB:Za w B cs e)(hne:T≠e)(i:Nat)(u:Value):Xb T base (w.setCell ⟨B,i,none⟩ u) v es:=
 h.moved fun k hk=>Zm _ _ _ _ fun e=>h.Xa hB hne (by have e2:k=B:=e;rw[<-e2];exact hk.symm)
theorem jH:(Tryz.prog.info? 106).map (fun i=>(i.zero,i.size,i.bytes))=some (some (.agg #[.pointer none,.int .i64 0]),2,16):=QX
theorem Cc(w:World)(base:Nat)(T:TypeId)(hb:base<=w.heap.size):Xb T base (w.alloc (.cells #[] T)) (.slice (some ⟨w.heap.size,0,none⟩) 0 0) []:=
 World.ownsRow_made w #[] 0 hb Qo rfl
def I4(es:List V2):Prop:=∀u∈es,V2.ok u
def Qqz(es:List V2)(w:World)(e:Ending)(w':World):Prop:=∃v,e=.returned v/\Xb 106 w.heap.size w' v es/\Below w.heap.size w w'
theorem zf(a:Option Addr)(n c:Nat)(es:List V2)(w:World)(ha:X0 w a es)(hok:I4 es)(hn:es.length=n)(hl:n<=1000000)(h0:a=none->n=0):
  Calls Tryz.prog 252 #[.slice a n c] w (Qqz es w):=by
 have he:=fun(w:World) (n' c':Nat)=>Lib.run_eql_slice_nil (P:=Tryz.prog) w 107 106 a n c n' c' Tryz.underlying107
 rcases a with _|ad
 ·obtain rfl:n=0:=h0 rfl
  obtain rfl:es=[]:=Ze hn;clear hn h0 ha hok;go_enter Tryz.func252,Tryz.ntmps252
  go_wp2;go_ret;exact⟨_,rfl,Xb.nil _ _ _,ZH _ _⟩
 ·have HN:=Zy hn;have HA:=Zy ha;have HO:=Zy hok
  clear hn h0 ha hok;go_enter Tryz.func252,Tryz.ntmps252
  go_wp2_with (at_builtin;refine ag (T:=106) (ST:=107) Tryz.underlying107 jH rfl QZ rfl _ _ rfl w.heap.size _ [] es ad n c rfl rfl (Cc w w.heap.size _ (ZB _)) (X0.keep HA.out (ZL (ZT _ _))) HO.out HN.out QY QJ ?_;intro v1 w1 hown1 hgrow1)
  go_ret;exact⟨v1,rfl,by simpa using hown1,(ZT w _).grown hgrow1 QJ (Cc w w.heap.size 106 (ZB _)).row⟩
theorem QQd{W w2:World}{N:Nat}{v:Value}{es:List V2}(hN:W.heap.size<=N)(hH:Za w2 N #[.slice none 0 0,.slice none 0 0] 109)(o:Xb 106 W.heap.size w2 v es)(hB:Below W.heap.size W w2):
  Za ((w2.setCell ⟨N,0,none⟩ v).setCell ⟨N,1,none⟩ (.slice none 0 0)) N #[v,.slice none 0 0] 109/\Xb 106 W.heap.size ((w2.setCell ⟨N,0,none⟩ v).setCell ⟨N,1,none⟩ (.slice none 0 0)) v es/\Below W.heap.size W ((w2.setCell ⟨N,0,none⟩ v).setCell ⟨N,1,none⟩ (.slice none 0 0)):=
 ⟨(hH.set 0 v).set 1 (.slice none 0 0),(o.vX hH QZ _ _).vX (hH.set 0 v) QZ _ _,Zo.set hN (Zo.set hN hB)⟩
def Qqq(es:List V2)(w:World)(e:Ending)(w':World):Prop:=∃v,e=.returned (.agg #[v,.slice none 0 0])/\Xb 106 w.heap.size w' v es/\Below w.heap.size w w'
theorem lJ(a:Option Addr)(n c:Nat)(es:List V2)(p:Option Addr)(q:Int)(w:World)(ha:X0 w a es)(hok:I4 es)(hn:es.length=n)(hl:n<=30)(h0:a=none->n=0):
  Calls Tryz.prog 230 #[.agg #[.slice a n c,.slice none 0 0],.int .i64 30,.agg #[.pointer p,.int .i64 q]] w (Qqq ((es++[(⟨.pointer p,.int .i64 q⟩:V2)]).drop (n+1-30)) w):=by
 have hB0:=((Za.new w #[.slice a n c,.slice none 0 0] 109).alloc (.cells #[.pointer p,.int .i64 q] 106)).alloc (.cells #[.slice none 0 0,.slice none 0 0] 109);have hB1:=(Za.new (w.alloc (.cells #[.slice a n c,.slice none 0 0] 109)) #[.pointer p,.int .i64 q] 106).alloc (.cells #[.slice none 0 0,.slice none 0 0] 109);have hB2:=Za.new ((w.alloc (.cells #[.slice a n c,.slice none 0 0] 109)).alloc (.cells #[.pointer p,.int .i64 q] 106)) #[.slice none 0 0,.slice none 0 0] 109;have hb:=xz w (.cells #[.slice a n c,.slice none 0 0] 109) (.cells #[.pointer p,.int .i64 q] 106) (.cells #[.slice none 0 0,.slice none 0 0] 109);rw[Zv]at hB1;rw[Zv,Zv]at hB2;have hz:w.heap.size+3=(((w.alloc (.cells #[.slice a n c,.slice none 0 0] 109)).alloc (.cells #[.pointer p,.int .i64 q] 106)).alloc (.cells #[.slice none 0 0,.slice none 0 0] 109)).heap.size:=by simp only[Zv]
 generalize hW:(((w.alloc (.cells #[.slice a n c,.slice none 0 0] 109)).alloc (.cells #[.pointer p,.int .i64 q] 106)).alloc (.cells #[.slice none 0 0,.slice none 0 0] 109))=W at hB0 hB1 hB2 hb hz;obtain⟨c00,c01,-,-⟩:=hB0.two;obtain⟨c10,c11,-,-⟩:=hB1.two;have HA:=Zy (ha.keep (ZL hb));have HO:=Zy hok;have HN:=Zy hn;have H0:=Zy h0;have HZ:=Zy hz;have HB:=Zy hb;have HB1:=Zy hB1;have HB2:=Zy hB2;have HW:=Zy hW;have hzl:w.heap.size+2<W.heap.size:=QQ;clear ha hok hn h0 hz hb hB0 hB1 hB2 hW;go_enter Tryz.func230,Tryz.ntmps230
 go_upto_region 1 with fail
 rw[HW.out];have gM:X0 W a es:=HA.out;have Bl:w.heap.size+1<W.heap.size:=QQ;have Qzw:w.heap.size<W.heap.size:=QQ;have hX0:Za W (w.heap.size+1) #[.pointer p,.int .i64 q] 106:=HB1.out
 go_cut [7] (fun r wx=>∃N v,r=.pointer (some ⟨N,0,none⟩)/\W.heap.size<=N/\Za wx N #[v,.slice none 0 0] 109/\Xb 106 W.heap.size wx v (es++[(⟨.pointer p,.int .i64 q⟩:V2)])/\Below W.heap.size W wx)
 case first=>
  go_region_law (first|(go_simp;go_at_call 252;refine(zf a n c es _ ?_ HO.out HN.out QQ H0.out).mono ?_;(·repeat' (first|(with_reducible exact gM)|(with_reducible refine X0.J5 ?_)|(with_reducible refine X0.Yc ?_)));rintro e w1 ⟨v1,rfl,o1,hb1⟩;obtain⟨a1,n1,c1,rfl⟩:=o1.form;have hX1:Za w1 (w.heap.size+1) #[.pointer p,.int .i64 q] 106:=(by repeat' (first|(with_reducible exact hX0)|(with_reducible refine Za.YP hb1 ?_)|(with_reducible refine Za.J5 ?_)|(with_reducible refine Za.Yc ?_)));obtain⟨d10,d11,-,-⟩:=hX1.two;have hs1:W.heap.size<=w1.heap.size:=(by have:=hb1.size;simp at this;omega);have hlt1:w.heap.size+1<w1.heap.size:=QQ;have hBW1:Below W.heap.size W w1:=(by refine Zo.call hb1 ?_;repeat' (first|(with_reducible exact ZH _ _)|(with_reducible refine Zo.alloc ?_)|(with_reducible refine Zo.drew ?_))))|(refine Py (T:=106) (ST:=107) Tryz.underlying107 jH rfl QZ (by simp[Region.wanted]) (.tmp 11) (.tmp 13) rfl W.heap.size _ es [(⟨.pointer p,.int .i64 q⟩:V2)] _ 1 1 rfl rfl ?_ ?_ (fun u hu=>QBq) rfl QB (by first|omega|(simp;omega)) QZ ?_;(·repeat' (first|((with_reducible refine Xb.mono o1 ?_);(simp;try omega);done)|(with_reducible refine Xb.Yc ?_)));(·repeat' (first|((with_reducible refine vH ?_);(simp;done))|(with_reducible refine X0.YP hb1 ?_)|(with_reducible refine X0.J5 ?_)|(with_reducible refine X0.Yc ?_)));intro v2 w2 o2 hg2 Qji;obtain⟨a2,n2,c2,rfl⟩:=o2.form;(first|(refine yA (P:=Za w2 (w1.heap.size+1) #[.slice none 0 0,.slice none 0 0] 109) ?_ ?_;(·(refine Xb.xK (T:=106) (base:=0) (es:=es) (v:=.slice a1 n1 c1) ?_ hg2 QZ ?_);(·repeat' (first|((with_reducible refine Xb.mono o1 ?_);(exact Z0 _))|(with_reducible refine Xb.Yc ?_)));(·repeat' (first|((with_reducible refine JV ?_);(simp;done))|(with_reducible refine Za.YP hb1 ?_)|(with_reducible refine Za.J5 ?_)|(with_reducible refine Za.Yc ?_))));intro hH;obtain⟨k0,k1,k2,k3⟩:=hH.two)|(refine yA (P:=Za w2 (w1.heap.size) #[.slice none 0 0,.slice none 0 0] 109) ?_ ?_;(·(refine Xb.xK (T:=106) (base:=0) (es:=es) (v:=.slice a1 n1 c1) ?_ hg2 QZ ?_);(·repeat' (first|((with_reducible refine Xb.mono o1 ?_);(exact Z0 _))|(with_reducible refine Xb.Yc ?_)));(·repeat' (first|((with_reducible refine JV ?_);(simp;done))|(with_reducible refine Za.YP hb1 ?_)|(with_reducible refine Za.J5 ?_)|(with_reducible refine Za.Yc ?_))));intro hH;obtain⟨k0,k1,k2,k3⟩:=hH.two)|(refine yA (P:=Za w2 (W.heap.size+1) #[.slice none 0 0,.slice none 0 0] 109) ?_ ?_;(·(refine Xb.xK (T:=106) (base:=0) (es:=es) (v:=.slice a1 n1 c1) ?_ hg2 QZ ?_);(·repeat' (first|((with_reducible refine Xb.mono o1 ?_);(exact Z0 _))|(with_reducible refine Xb.Yc ?_)));(·repeat' (first|((with_reducible refine JV ?_);(simp;done))|(with_reducible refine Za.YP hb1 ?_)|(with_reducible refine Za.J5 ?_)|(with_reducible refine Za.Yc ?_))));intro hH;obtain⟨k0,k1,k2,k3⟩:=hH.two)|(refine yA (P:=Za w2 (W.heap.size) #[.slice none 0 0,.slice none 0 0] 109) ?_ ?_;(·(refine Xb.xK (T:=106) (base:=0) (es:=es) (v:=.slice a1 n1 c1) ?_ hg2 QZ ?_);(·repeat' (first|((with_reducible refine Xb.mono o1 ?_);(exact Z0 _))|(with_reducible refine Xb.Yc ?_)));(·repeat' (first|((with_reducible refine JV ?_);(simp;done))|(with_reducible refine Za.YP hb1 ?_)|(with_reducible refine Za.J5 ?_)|(with_reducible refine Za.Yc ?_))));intro hH;obtain⟨k0,k1,k2,k3⟩:=hH.two)|skip);have QZt:Below W.heap.size W w2:=(by(refine Zo.QVL (T:=106) (es:=es) (v:=.slice a1 n1 c1) ?_ hg2 ?_);(·repeat' (first|((with_reducible refine Xb.mono o1 ?_);(simp;try omega);done)|(with_reducible refine Xb.Yc ?_)));(·repeat' (first|(with_reducible exact hBW1)|(with_reducible refine Zo.alloc ?_)|(with_reducible refine Zo.drew ?_))))))
  all_goals
   dsimp only[Act.put,Exit.then]
   (repeat go_step)
   go_meet;first|exact⟨_,_,rfl,QZt.size,Za.new _ _ _,o2.Yc,Zo.alloc QZt⟩|exact⟨_,_,rfl,QQ,QQd QQ hH o2 QZt⟩
 case rest=>
  obtain⟨N,v,rfl,hN,hBN,o2,hb2⟩:=hcut;obtain⟨wz,hWe⟩:∃W5,W5=wc:=⟨_,rfl⟩;subst hWe;have hb3:Below w.heap.size w wz:=ZE HB.out QQ hb2;have hR:=HB2.out.below hb2 HB2.out.lt;obtain⟨a2,n2,c2,rfl⟩:=o2.form;obtain⟨g1,g2,g3,g4,g5⟩:=o2.su.get;rw[Zd,HN.out]at g1;have g1:n+1=n2:=by simpa using g1
  subst g1;obtain⟨ad,rfl⟩:∃ad,a2=some ad:=by
   rcases a2 with _|ad
   ·exact absurd (g5 rfl) QQ
   ·exact⟨ad,rfl⟩
  clear c00 c01 c10 c11;obtain⟨d0,d1,f0,f1⟩:=hBN.two;obtain⟨r0,r1,q0,q1⟩:=hR.two;have HG4:=Zy g4;have xF:=Zy o2;have HBN:=Zy hBN;have HR:=Zy hR;have HB3:=Zy hb3;have hNz:N<wz.heap.size:=hBN.lt;have hne:N≠w.heap.size+1+1:=QQ;clear g4 g5 o2 hBN hR hb3;by_cases hlt:n+1<=30
  ·have e0:(es++[(⟨.pointer p,.int .i64 q⟩:V2)]).drop (n+1-30)=es++[⟨.pointer p,.int .i64 q⟩]:=by rw[show n+1-30=0 from QQ];rfl
   have HE0:=Zy e0;clear e0;have hk:¬(0:Int)<(n:Int)+1-30:=QQ;go_wp2;have hG:=(HR.out.set 0 (.slice (some ad) (n+1) c2)).set 1 (.slice none 0 0);obtain⟨y0,y1,-,-⟩:=hG.two;refine ZC (v:=.agg #[.slice (some ad) (n+1) c2,.slice none 0 0]) (by simp[results,Tryz.results230,go_sem,y0,y1]) rfl ?_;exact⟨_,rfl,((xF.out.vX HR.out QZ 0 _).vX (HR.out.set 0 (.slice (some ad) (n+1) c2)) QZ 1 _).mono QQ,Zo.set QQ (Zo.set QQ HB3.out)⟩
  ·obtain rfl:n=30:=by omega
   obtain⟨b,o,e,-⟩:=HG4.out.at (k:=0) QJ;simp only[ZM]at e;subst e;have HPD:=Zy (show X0 wz (some ⟨b,o+2,none⟩) ((es++[(⟨.pointer p,.int .i64 q⟩:V2)]).drop 1)from by
    have:=HG4.out.drop 1
    rwa[show o+1*2=o+2 from QQ]at this)
   have HLD:=Zy (show((es++[(⟨.pointer p,.int .i64 q⟩:V2)]).drop 1).length=30 from by have:=HN.out;simp;omega);have HOD:=Zy (show I4 ((es++[(⟨.pointer p,.int .i64 q⟩:V2)]).drop 1)from fun u hu=>by
    rcases XL.1 (List.mem_of_mem_drop hu)with h|h
    ·exact HO.out u h
    ·rw[List.mem_singleton]at h;subst h;exact⟨rfl,rfl⟩)
   go_wp2_with fail
   refine(zf (some ⟨b,o+2,none⟩) 30 (c2-1) ((es++[(⟨.pointer p,.int .i64 q⟩:V2)]).drop 1) _ HPD.out HOD.out HLD.out QQ QJ).mono ?_;rintro e w5 ⟨v5,rfl,o5,hb5⟩;obtain⟨a5,n5,c5,rfl⟩:=o5.form;have QZ0:=HBN.out.below hb5 hNz;have KF:=HR.out.below hb5 QQ;have hb6:=ZE HB3.out HB3.out.size hb5;obtain⟨d0',d1',f0',f1'⟩:=QZ0.two;obtain⟨r0',r1',q0',q1'⟩:=KF.two;have QzX:=Zy QZ0;have SA:=Zy KF;have HB6:=Zy hb6;have SC:=Zy o5;clear QZ0 KF hb6 o5 hb5 d0 d1 f0 f1 r0 r1 q0 q1;go_wp2;have qx:=SA.out.other (a:=⟨N,0,none⟩) hne.symm (.slice a5 n5 c5);have hG:=(qx.set 0 (.slice a5 n5 c5)).set 1 (.slice none 0 0);obtain⟨y0,y1,-,-⟩:=hG.two;refine ZC (v:=.agg #[.slice a5 n5 c5,.slice none 0 0]) (by simp[results,Tryz.results230,go_sem,y0,y1]) rfl ?_;exact⟨_,rfl,(((SC.out.vX QzX.out QZ 0 _).vX qx QZ 0 _).vX (qx.set 0 (.slice a5 n5 c5)) QZ 1 _).mono QQ,Zo.set QQ (Zo.set QQ (Zo.set QQ HB6.out))⟩
end Go.Proofs.YtmdcencmiopmmaaGreat
