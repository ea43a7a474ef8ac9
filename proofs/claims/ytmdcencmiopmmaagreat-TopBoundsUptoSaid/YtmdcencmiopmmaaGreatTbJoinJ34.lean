/- LiftTopBounds: joined, no condition of its own. -/
import Derived.Test.YtmdcencmiopmmaaGreatTbJoinT
import Derived.Test.YtmdcencmiopmmaaGreatTbJoinJ1
import Derived.Test.YtmdcencmiopmmaaGreatTbJoinJ32
import Derived.Test.YtmdcencmiopmmaaGreatTbJoinJ33
set_option linter.unusedVariables false
set_option linter.unusedSimpArgs false
set_option maxRecDepth 100000
set_option maxHeartbeats 12000000
namespace Go.Proofs.YtmdcencmiopmmaaGreat
open Go.RowKit
theorem HF.cell{F G:Nat->Prop}{w:World}{B:Nat}{f:Nat->Value}{S:SS}(h:HF F G w B f S)(i:Nat)(hi:i<58:=by omega):w.cell? ⟨B,i,none⟩=some (f i):=h.m.blk.cell hi
theorem HF.free{F G:Nat->Prop}{w:World}{B:Nat}{f:Nat->Value}{S:SS}(h:HF F G w B f S)(i:Nat):w.frozen? ⟨B,i,none⟩=false:=h.m.blk.free i
theorem HF.yH{F G:Nat->Prop}{w:World}{B:Nat}{f:Nat->Value}{S:SS}(h:HF F G w B f S):B<w.heap.size:=h.lt _ h.m.gB
theorem Gj(F G:Nat->Prop)(B:Nat)(S:SS)(a:Option Addr)(m c:Nat)(t:List Int)(p:Int)(w:World)(h:Zw F G w B S)(hs:Sl w (.slice a m c) t)(hm:m<=4096):
  Calls Tryz.prog 130 #[.pointer (some ⟨B,0,none⟩),.agg #[.slice a m c,.int .i64 p]] w (VP F G w B (S.set t p) XU):=by
 obtain⟨f,hf⟩:=h;have hR:=QD.new w #[.slice a m c,.int .i64 p] 30;have hb:=QC w (.cells #[.slice a m c,.int .i64 p] 30);have HT:=QQ (Rz a m c t _ hm (hs.below hb));have hA:=(At.begin hf).below hb;have HA:=QQ hA;have HB:=QQ hb;have hBl:B<w.heap.size:=hf.yH;obtain⟨y0,y1,-,-⟩:=hR.two;have HR:=QQ hR;clear hf hA hR hs hm hb;go_enter Tryz.func130,Tryz.ntmps130
 go_wp2_with fail
 refine HT.out.mono ?_;rintro e w2 ⟨q,rfl,hT,hb2⟩;have hA2:=HA.out.below hb2;obtain⟨y02,y12,-,-⟩:=(HR.out.below hb2 HR.out.lt).two;have c0:=hA2.hf.cell 0;have z0:=hA2.hf.free 0;have c1:=hA2.hf.cell 1;have z1:=hA2.hf.free 1;have HA2:=QQ hA2;have HT2:=QQ hT;clear hA2 hT hb2;go_wp2
 go_end0
 have hA3:=HA2.out.store (S':={S with text:=t}) 0 (.pointer q) {HA2.out.hf.d with text:=HT2.out.lt.keep (ZZ.refl _ _) (fun k hk=>Fx.new k hk)};exact⟨rfl,(hA3.store (S':=S.set t p) 1 (.int .i64 p) {hA3.hf.d with pos:=rfl}).done⟩
def QYx(S:SS)(w:World)(e:Ending)(w':World):Prop:=∃v,e=.returned (.agg #[v,.int .i64 S.pos])/\Own 3 w.heap.size w' v S.text/\Below w.heap.size w w'
theorem Ul.list{F:Nat->Prop}{w:World}{p:Option Addr}{l:List Int}(h:Ul F w (.pointer p) l)(hl:l.length<=10000):Calls Tryz.prog 79 #[.agg #[.pointer p]] w (Wy l w):=by
 obtain⟨T,h1,rfl⟩:=h;exact NU p T w h1.tree hl
theorem A9(F G:Nat->Prop)(B:Nat)(S:SS)(w:World)(h:Zw F G w B S)(hl:S.text.length<=10000):
  Calls Tryz.prog 42 #[.pointer (some ⟨B,0,none⟩)] w (QYx S w):=by
 obtain⟨f,hf⟩:=h;have hb:=QC w (.cells #[.slice none 0 0,.int .i64 0] 30);have hR:=QD.new w #[.slice none 0 0,.int .i64 0] 30;have hz:w.heap.size<(w.alloc (.cells #[.slice none 0 0,.int .i64 0] 30)).heap.size:=by simp
 generalize hW:(w.alloc (.cells #[.slice none 0 0,.int .i64 0] 30))=W at hb hR hz;have hA:=(At.begin hf).Xw hb;obtain⟨p,hp⟩:=hf.d.text.ptr;have c0:=hA.hf.cell 0;have c1:=hA.hf.cell 1;rw[hp]at c0;rw[hA.hf.d.pos]at c1;have htx:=hA.hf.d.text;rw[hp]at htx;have HT:=QQ (Ul.list (w:=W.drew) (htx.keep (F:=F) (G:=F) (fun _ _ _ h=>h) (fun _ h=>h)) hl);have HB:=QQ hb;have HR:=QQ hR;have HW:=QQ hW;clear hf hA hR hb hp htx hl hW;go_enter Tryz.func42,Tryz.ntmps42
 go_upto_region 1 with fail
 rw[HW.out]
 go_cut [2] (fun r wx=>r=.pointer (some ⟨w.heap.size,0,none⟩)/\∃v,wx.cell? ⟨w.heap.size,0,none⟩=some v/\wx.cell? ⟨w.heap.size,1,none⟩=some (.int .i64 S.pos)/\Own 3 w.heap.size wx v S.text/\Below w.heap.size w wx)
 case first=>
  go_region_law (first|(go_simp;go_at_call 79;refine HT.out.mono ?_;rintro e w2 ⟨v,rfl,o2,hb2⟩;have c12:=Qk (w:=W.drew) hb2 _ _ c1;obtain⟨y0,y1,z0,z1⟩:=(HR.out.below (w:=W.drew) hb2 (HR.out.lt)).two;have qz:=QQ o2;have HB2:=QQ hb2;clear o2 hb2;obtain⟨a2,n2,c2,rfl⟩:=qz.out.form))
  all_goals
  have hB2:=HR.out.below (w:=W.drew) HB2.out HR.out.lt;obtain⟨k0,k1,-,-⟩:=((hB2.set 0 (.slice a2 n2 c2)).set 1 (.int .i64 S.pos)).two;have o2:Own 3 w.heap.size w2 (.slice a2 n2 c2) S.text:=Own.mono qz.out (ZR hz);have o3:=o2.other (a:=⟨w.heap.size,0,none⟩) (fun e=>by have:=qz.out.row _ e.symm;simp at this;omega) (.slice a2 n2 c2);have o4:=o3.other (a:=⟨w.heap.size,1,none⟩) (fun e=>by have:=qz.out.row _ e.symm;simp at this;omega) (.int .i64 S.pos);have hb4:=(((QW HB.out.drew (ZR hz) HB2.out).setCell (p:=⟨w.heap.size,0,none⟩) (QU _) (.slice a2 n2 c2)).setCell (p:=⟨w.heap.size,1,none⟩) (QU _) (.int .i64 S.pos));go_wp2;go_meet;exact⟨rfl,_,k0,k1,o4,hb4⟩
 case rest=>
  obtain⟨rfl,v,k0,k1,o4,hb4⟩:=hcut;obtain⟨a4,n4,c4,rfl⟩:=o4.form;go_wp2;refine QV (v:=.agg #[.slice a4 n4 c4,.int .i64 S.pos]) (by simp[results,Tryz.results42,go_sem,k0,k1]) rfl ?_;exact⟨_,rfl,o4,hb4⟩
theorem qm{P Q:Prop}(h:P)(k:P->Q):Q:=k h
theorem Zb.XD{w:World}{a:Option Addr}{es:List V2}{o:Obj}(h:Zb w a es):Zb (w.alloc o) a es:=h.keep (Qk (QC _ _))
theorem Zb.YT{w:World}{a:Option Addr}{es:List V2}(h:Zb w a es):Zb w.drew a es:=h.keep (fun _ _ h=>h)
theorem Zb.Xu{w w':World}{a:Option Addr}{es:List V2}(hb:Below w.heap.size w w')(h:Zb w a es):Zb w' a es:=h.keep (Qk hb)
theorem jb{w:World}{B:Nat}{x y:Value}{T:TypeId}(hB:w.heap.size=B):Zb (w.alloc (.cells #[x,y] T)) (some ⟨B,0,none⟩) [⟨x,y⟩]:=by
 subst hB;exact EL (QD.new _ _ _)
theorem QD.XD{w:World}{B:Nat}{cs:Array Value}{e:TypeId}{o:Obj}(h:QD w B cs e):QD (w.alloc o) B cs e:=h.alloc o
theorem QD.YT{w:World}{B:Nat}{cs:Array Value}{e:TypeId}(h:QD w B cs e):QD w.drew B cs e:=h
theorem QD.Xu{w w':World}{B:Nat}{cs:Array Value}{e:TypeId}(hb:Below w.heap.size w w')(h:QD w B cs e):QD w' B cs e:=h.below hb h.lt
theorem X4{w:World}{B:Nat}{cs:Array Value}{e:TypeId}(hB:w.heap.size=B):QD (w.alloc (.cells cs e)) B cs e:=by
 subst hB;exact QD.new _ _ _
theorem ZB.XD{T:TypeId}{base:Nat}{w:World}{v:Value}{es:List V2}{o:Obj}(h:ZB T base w v es):ZB T base (w.alloc o) v es:=h.alloc o
theorem ZB.Ws{T:TypeId}{base:Nat}{w w':World}{v:Value}{es:List V2}{B:Nat}{cs:Array Value}{e:TypeId}(h:ZB T base w v es)(hg:w.grownBy w' v.ownBlock)(hne:T≠e)(hB:QD w B cs e):QD w' B cs e:=
 hB.grown hg (h.ZA hB hne)
theorem QR.alloc{a w:World}{o:Obj}(h:Below a.heap.size a w):Below a.heap.size a (w.alloc o):=h.alloc h.size o
theorem QR.drew{a w:World}(h:Below a.heap.size a w):Below a.heap.size a w.drew:=h.drew
theorem QR.call{a w w':World}(hb:Below w.heap.size w w')(h:Below a.heap.size a w):Below a.heap.size a w':=QW h h.size hb
theorem QR.set{a w:World}{B i:Nat}{u:Value}(hB:a.heap.size<=B)(h:Below a.heap.size a w):Below a.heap.size a (w.setCell ⟨B,i,none⟩ u):=h.setCell hB u
theorem QR.QJl{T:TypeId}{a w w':World}{v:Value}{es:List V2}(o:ZB T a.heap.size w v es)(hg:w.grownBy w' v.ownBlock)(h:Below a.heap.size a w):Below a.heap.size a w':=h.grown hg h.size o.row
theorem QR.own{T:TypeId}{a w w':World}{v:Value}{es:List Int}(o:Own T a.heap.size w v es)(hg:w.grownBy w' v.ownBlock)(h:Below a.heap.size a w):Below a.heap.size a w':=h.grown hg h.size o.row
theorem ZB.jE{T:TypeId}{base:Nat}{w:World}{v:Value}{es:List V2}{B:Nat}{cs:Array Value}{e:TypeId}(h:ZB T base w v es)(hB:QD w B cs e)(hne:T≠e)(i:Nat)(u:Value):ZB T base (w.setCell ⟨B,i,none⟩ u) v es:=
 h.moved fun k hk=>QP _ _ _ _ fun e=>h.ZA hB hne (by have e2:k=B:=e;rw[<-e2];exact hk.symm)
theorem zm:(Tryz.prog.info? 106).map (fun i=>(i.zero,i.size,i.bytes))=some (some (.agg #[.pointer none,.int .i64 0]),2,16):=by kernel_rfl
theorem AJ(w:World)(base:Nat)(T:TypeId)(hb:base<=w.heap.size):ZB T base (w.alloc (.cells #[] T)) (.slice (some ⟨w.heap.size,0,none⟩) 0 0) []:=
 World.ownsRow_made w #[] 0 hb (by unfold maxLen;omega) rfl
def FF(es:List V2):Prop:=∀u∈es,V2.ok u
def QUI(es:List V2)(w:World)(e:Ending)(w':World):Prop:=∃v,e=.returned v/\ZB 106 w.heap.size w' v es/\Below w.heap.size w w'
theorem WR(a:Option Addr)(n c:Nat)(es:List V2)(w:World)(ha:Zb w a es)(hok:FF es)(hn:es.length=n)(hl:n<=1000000)(h0:a=none->n=0):
  Calls Tryz.prog 252 #[.slice a n c] w (QUI es w):=by
 have he:=fun(w:World) (n' c':Nat)=>Lib.run_eql_slice_nil (P:=Tryz.prog) w 107 106 a n c n' c' Tryz.underlying107
 rcases a with _|ad
 ·obtain rfl:n=0:=h0 rfl
  obtain rfl:es=[]:=QH hn;clear hn h0 ha hok;go_enter Tryz.func252,Tryz.ntmps252
  go_wp2;go_ret;exact⟨_,rfl,ZB.nil _ _ _,Qx _ _⟩
 ·have HN:=QQ hn;have HA:=QQ ha;have HO:=QQ hok
  clear hn h0 ha hok;go_enter Tryz.func252,Tryz.ntmps252
  go_wp2_with (at_builtin;refine Rl (T:=106) (ST:=107) Tryz.underlying107 zm rfl (by decide) rfl _ _ rfl w.heap.size _ [] es ad n c rfl rfl (AJ w w.heap.size _ (QU _)) (Zb.keep HA.out (Qk (QC _ _))) HO.out HN.out (by simp;omega) (by simp) ?_;intro v1 w1 hown1 hgrow1)
  go_ret;exact⟨v1,rfl,by simpa using hown1,(QC w _).grown hgrow1 (by simp) (AJ w w.heap.size 106 (QU _)).row⟩
theorem ni{W w2:World}{N:Nat}{v:Value}{es:List V2}(hN:W.heap.size<=N)(hH:QD w2 N #[.slice none 0 0,.slice none 0 0] 109)(o:ZB 106 W.heap.size w2 v es)(hB:Below W.heap.size W w2):
  QD ((w2.setCell ⟨N,0,none⟩ v).setCell ⟨N,1,none⟩ (.slice none 0 0)) N #[v,.slice none 0 0] 109/\ZB 106 W.heap.size ((w2.setCell ⟨N,0,none⟩ v).setCell ⟨N,1,none⟩ (.slice none 0 0)) v es/\Below W.heap.size W ((w2.setCell ⟨N,0,none⟩ v).setCell ⟨N,1,none⟩ (.slice none 0 0)):=
 ⟨(hH.set 0 v).set 1 (.slice none 0 0),(o.jE hH (by decide) _ _).jE (hH.set 0 v) (by decide) _ _,QR.set hN (QR.set hN hB)⟩
def QUH(es:List V2)(w:World)(e:Ending)(w':World):Prop:=∃v,e=.returned (.agg #[v,.slice none 0 0])/\ZB 106 w.heap.size w' v es/\Below w.heap.size w w'
theorem dY(a:Option Addr)(n c:Nat)(es:List V2)(p:Option Addr)(q:Int)(w:World)(ha:Zb w a es)(hok:FF es)(hn:es.length=n)(hl:n<=30)(h0:a=none->n=0):
  Calls Tryz.prog 230 #[.agg #[.slice a n c,.slice none 0 0],.int .i64 30,.agg #[.pointer p,.int .i64 q]] w (QUH ((es++[(⟨.pointer p,.int .i64 q⟩:V2)]).drop (n+1-30)) w):=by
 have hB0:=((QD.new w #[.slice a n c,.slice none 0 0] 109).alloc (.cells #[.pointer p,.int .i64 q] 106)).alloc (.cells #[.slice none 0 0,.slice none 0 0] 109);have hB1:=(QD.new (w.alloc (.cells #[.slice a n c,.slice none 0 0] 109)) #[.pointer p,.int .i64 q] 106).alloc (.cells #[.slice none 0 0,.slice none 0 0] 109);have hB2:=QD.new ((w.alloc (.cells #[.slice a n c,.slice none 0 0] 109)).alloc (.cells #[.pointer p,.int .i64 q] 106)) #[.slice none 0 0,.slice none 0 0] 109;have hb:=qQ w (.cells #[.slice a n c,.slice none 0 0] 109) (.cells #[.pointer p,.int .i64 q] 106) (.cells #[.slice none 0 0,.slice none 0 0] 109);rw[QJ]at hB1;rw[QJ,QJ]at hB2;have hz:w.heap.size+3=(((w.alloc (.cells #[.slice a n c,.slice none 0 0] 109)).alloc (.cells #[.pointer p,.int .i64 q] 106)).alloc (.cells #[.slice none 0 0,.slice none 0 0] 109)).heap.size:=by simp only[QJ]
 generalize hW:(((w.alloc (.cells #[.slice a n c,.slice none 0 0] 109)).alloc (.cells #[.pointer p,.int .i64 q] 106)).alloc (.cells #[.slice none 0 0,.slice none 0 0] 109))=W at hB0 hB1 hB2 hb hz;obtain⟨c00,tq,-,-⟩:=hB0.two;obtain⟨c10,c11,-,-⟩:=hB1.two;have HA:=QQ (ha.keep (Qk hb));have HO:=QQ hok;have HN:=QQ hn;have H0:=QQ h0;have HZ:=QQ hz;have HB:=QQ hb;have HB1:=QQ hB1;have HB2:=QQ hB2;have HW:=QQ hW;have hzl:w.heap.size+2<W.heap.size:=by omega
 clear ha hok hn h0 hz hb hB0 hB1 hB2 hW;go_enter Tryz.func230,Tryz.ntmps230
 go_upto_region 1 with fail
 rw[HW.out];have hA0:Zb W a es:=HA.out;have Qzv:w.heap.size+1<W.heap.size:=by omega
 have QWJ:w.heap.size<W.heap.size:=by omega
 have hX0:QD W (w.heap.size+1) #[.pointer p,.int .i64 q] 106:=HB1.out
 go_cut [7] (fun r wx=>∃N v,r=.pointer (some ⟨N,0,none⟩)/\W.heap.size<=N/\QD wx N #[v,.slice none 0 0] 109/\ZB 106 W.heap.size wx v (es++[(⟨.pointer p,.int .i64 q⟩:V2)])/\Below W.heap.size W wx)
 case first=>
  go_region_law (first|(go_simp;go_at_call 252;refine(WR a n c es _ ?_ HO.out HN.out (by omega) H0.out).mono ?_;(·repeat' (first|(with_reducible exact hA0)|(with_reducible refine Zb.YT ?_)|(with_reducible refine Zb.XD ?_)));rintro e w1 ⟨v1,rfl,o1,hb1⟩;obtain⟨a1,n1,c1,rfl⟩:=o1.form;have hX1:QD w1 (w.heap.size+1) #[.pointer p,.int .i64 q] 106:=(by repeat' (first|(with_reducible exact hX0)|(with_reducible refine QD.Xu hb1 ?_)|(with_reducible refine QD.YT ?_)|(with_reducible refine QD.XD ?_)));obtain⟨d10,d11,-,-⟩:=hX1.two;have hs1:W.heap.size<=w1.heap.size:=(by have:=hb1.size;simp at this;omega);have hlt1:w.heap.size+1<w1.heap.size:=(by omega);have hBW1:Below W.heap.size W w1:=(by refine QR.call hb1 ?_;repeat' (first|(with_reducible exact Qx _ _)|(with_reducible refine QR.alloc ?_)|(with_reducible refine QR.drew ?_))))|(refine Mt (T:=106) (ST:=107) Tryz.underlying107 zm rfl (by decide) (by simp[Region.wanted]) (.tmp 11) (.tmp 13) rfl W.heap.size _ es [(⟨.pointer p,.int .i64 q⟩:V2)] _ 1 1 rfl rfl ?_ ?_ (fun u hu=>by simp at hu;subst hu;exact⟨rfl,rfl⟩) rfl (by rw[HN.out];omega) (by first|omega|(simp;omega)) (by decide) ?_;(·repeat' (first|((with_reducible refine ZB.mono o1 ?_);(simp;try omega);done)|(with_reducible refine ZB.XD ?_)));(·repeat' (first|((with_reducible refine jb ?_);(simp;done))|(with_reducible refine Zb.Xu hb1 ?_)|(with_reducible refine Zb.YT ?_)|(with_reducible refine Zb.XD ?_)));intro v2 w2 o2 hg2 QzP;obtain⟨a2,n2,c2,rfl⟩:=o2.form;(first|(refine qm (P:=QD w2 (w1.heap.size+1) #[.slice none 0 0,.slice none 0 0] 109) ?_ ?_;(·(refine ZB.Ws (T:=106) (base:=0) (es:=es) (v:=.slice a1 n1 c1) ?_ hg2 (by decide) ?_);(·repeat' (first|((with_reducible refine ZB.mono o1 ?_);(exact Qe _))|(with_reducible refine ZB.XD ?_)));(·repeat' (first|((with_reducible refine X4 ?_);(simp;done))|(with_reducible refine QD.Xu hb1 ?_)|(with_reducible refine QD.YT ?_)|(with_reducible refine QD.XD ?_))));intro hH;obtain⟨k0,k1,k2,k3⟩:=hH.two)|(refine qm (P:=QD w2 (w1.heap.size) #[.slice none 0 0,.slice none 0 0] 109) ?_ ?_;(·(refine ZB.Ws (T:=106) (base:=0) (es:=es) (v:=.slice a1 n1 c1) ?_ hg2 (by decide) ?_);(·repeat' (first|((with_reducible refine ZB.mono o1 ?_);(exact Qe _))|(with_reducible refine ZB.XD ?_)));(·repeat' (first|((with_reducible refine X4 ?_);(simp;done))|(with_reducible refine QD.Xu hb1 ?_)|(with_reducible refine QD.YT ?_)|(with_reducible refine QD.XD ?_))));intro hH;obtain⟨k0,k1,k2,k3⟩:=hH.two)|(refine qm (P:=QD w2 (W.heap.size+1) #[.slice none 0 0,.slice none 0 0] 109) ?_ ?_;(·(refine ZB.Ws (T:=106) (base:=0) (es:=es) (v:=.slice a1 n1 c1) ?_ hg2 (by decide) ?_);(·repeat' (first|((with_reducible refine ZB.mono o1 ?_);(exact Qe _))|(with_reducible refine ZB.XD ?_)));(·repeat' (first|((with_reducible refine X4 ?_);(simp;done))|(with_reducible refine QD.Xu hb1 ?_)|(with_reducible refine QD.YT ?_)|(with_reducible refine QD.XD ?_))));intro hH;obtain⟨k0,k1,k2,k3⟩:=hH.two)|(refine qm (P:=QD w2 (W.heap.size) #[.slice none 0 0,.slice none 0 0] 109) ?_ ?_;(·(refine ZB.Ws (T:=106) (base:=0) (es:=es) (v:=.slice a1 n1 c1) ?_ hg2 (by decide) ?_);(·repeat' (first|((with_reducible refine ZB.mono o1 ?_);(exact Qe _))|(with_reducible refine ZB.XD ?_)));(·repeat' (first|((with_reducible refine X4 ?_);(simp;done))|(with_reducible refine QD.Xu hb1 ?_)|(with_reducible refine QD.YT ?_)|(with_reducible refine QD.XD ?_))));intro hH;obtain⟨k0,k1,k2,k3⟩:=hH.two)|skip);have sV:Below W.heap.size W w2:=(by(refine QR.QJl (T:=106) (es:=es) (v:=.slice a1 n1 c1) ?_ hg2 ?_);(·repeat' (first|((with_reducible refine ZB.mono o1 ?_);(simp;try omega);done)|(with_reducible refine ZB.XD ?_)));(·repeat' (first|(with_reducible exact hBW1)|(with_reducible refine QR.alloc ?_)|(with_reducible refine QR.drew ?_))))))
  all_goals
   dsimp only[Act.put,Exit.then]
   (repeat go_step)
   go_meet;first|exact⟨_,_,rfl,sV.size,QD.new _ _ _,o2.XD,QR.alloc sV⟩|exact⟨_,_,rfl,by omega,ni (by omega) hH o2 sV⟩
 case rest=>
  obtain⟨N,v,rfl,hN,hBN,o2,hb2⟩:=hcut;obtain⟨wz,rE⟩:∃W5,W5=wc:=⟨_,rfl⟩;subst rE;have hb3:Below w.heap.size w wz:=QW HB.out (by omega) hb2;have hR:=HB2.out.below hb2 HB2.out.lt;obtain⟨a2,n2,c2,rfl⟩:=o2.form;obtain⟨g1,g2,g3,g4,g5⟩:=o2.lC.get;rw[QE,HN.out]at g1;have g1:n+1=n2:=by simpa using g1
  subst g1;obtain⟨ad,rfl⟩:∃ad,a2=some ad:=by
   rcases a2 with _|ad
   ·exact absurd (g5 rfl) (by omega)
   ·exact⟨ad,rfl⟩
  clear c00 tq c10 c11;obtain⟨d0,d1,f0,f1⟩:=hBN.two;obtain⟨r0,r1,q0,q1⟩:=hR.two;have HG4:=QQ g4;have qz:=QQ o2;have HBN:=QQ hBN;have HR:=QQ hR;have HB3:=QQ hb3;have hNz:N<wz.heap.size:=hBN.lt;have hne:N≠w.heap.size+1+1:=by omega
  clear g4 g5 o2 hBN hR hb3;by_cases hlt:n+1<=30
  ·have e0:(es++[(⟨.pointer p,.int .i64 q⟩:V2)]).drop (n+1-30)=es++[⟨.pointer p,.int .i64 q⟩]:=by rw[show n+1-30=0 from by omega];rfl
   have HE0:=QQ e0;clear e0;have hk:¬(0:Int)<(n:Int)+1-30:=by omega
   go_wp2;have hG:=(HR.out.set 0 (.slice (some ad) (n+1) c2)).set 1 (.slice none 0 0);obtain⟨y0,y1,-,-⟩:=hG.two;refine QV (v:=.agg #[.slice (some ad) (n+1) c2,.slice none 0 0]) (by simp[results,Tryz.results230,go_sem,y0,y1]) rfl ?_;exact⟨_,rfl,((qz.out.jE HR.out (by decide) 0 _).jE (HR.out.set 0 (.slice (some ad) (n+1) c2)) (by decide) 1 _).mono (by omega),QR.set (by omega) (QR.set (by omega) HB3.out)⟩
  ·obtain rfl:n=30:=by omega
   obtain⟨b,o,e,-⟩:=HG4.out.at (k:=0) (by simp);simp only[Qv]at e;subst e;have HPD:=QQ (show Zb wz (some ⟨b,o+2,none⟩) ((es++[(⟨.pointer p,.int .i64 q⟩:V2)]).drop 1)from by
    have:=HG4.out.drop 1
    rwa[show o+1*2=o+2 from by omega]at this)
   have HLD:=QQ (show((es++[(⟨.pointer p,.int .i64 q⟩:V2)]).drop 1).length=30 from by have:=HN.out;simp;omega);have HOD:=QQ (show FF ((es++[(⟨.pointer p,.int .i64 q⟩:V2)]).drop 1)from fun u hu=>by
    rcases Zz.1 (List.mem_of_mem_drop hu)with h|h
    ·exact HO.out u h
    ·rw[List.mem_singleton]at h;subst h;exact⟨rfl,rfl⟩)
   go_wp2_with fail
   refine(WR (some ⟨b,o+2,none⟩) 30 (c2-1) ((es++[(⟨.pointer p,.int .i64 q⟩:V2)]).drop 1) _ HPD.out HOD.out HLD.out (by omega) (by simp)).mono ?_;rintro e w5 ⟨v5,rfl,o5,hb5⟩;obtain⟨a5,n5,c5,rfl⟩:=o5.form;have sW:=HBN.out.below hb5 hNz;have Jv:=HR.out.below hb5 (by omega);have hb6:=QW HB3.out HB3.out.size hb5;obtain⟨d0',d1',f0',f1'⟩:=sW.two;obtain⟨r0',r1',q0',q1'⟩:=Jv.two;have QVv:=QQ sW;have Og:=QQ Jv;have HB6:=QQ hb6;have Oh:=QQ o5;clear sW Jv hb6 o5 hb5 d0 d1 f0 f1 r0 r1 q0 q1;go_wp2;have kF:=Og.out.other (a:=⟨N,0,none⟩) hne.symm (.slice a5 n5 c5);have hG:=(kF.set 0 (.slice a5 n5 c5)).set 1 (.slice none 0 0);obtain⟨y0,y1,-,-⟩:=hG.two;refine QV (v:=.agg #[.slice a5 n5 c5,.slice none 0 0]) (by simp[results,Tryz.results230,go_sem,y0,y1]) rfl ?_;exact⟨_,rfl,(((Oh.out.jE QVv.out (by decide) 0 _).jE kF (by decide) 0 _).jE (kF.set 0 (.slice a5 n5 c5)) (by decide) 1 _).mono (by omega),QR.set (by omega) (QR.set (by omega) (QR.set (by omega) HB6.out))⟩
theorem EY(w:World):Calls Tryz.prog 252 #[.slice none 0 0] w fun e w'=>e=.returned (.slice none 0 0)/\w'=w:=by
 have he:=fun(w:World) (n' c':Nat)=>Lib.run_eql_slice_nil (P:=Tryz.prog) w 107 106 none 0 0 n' c' Tryz.underlying107
 go_enter Tryz.func252,Tryz.ntmps252
 exact QvI
def aJ(es:List V2)(w:World)(e:Ending)(w':World):Prop:=∃v,e=.returned (.agg #[v,.slice none 0 0])/\ZB 106 w.heap.size w' v es/\Below w.heap.size w w'
theorem xA(a:Option Addr)(n c:Nat)(es:List V2)(w:World)(ha:Zb w a es)(hok:FF es)(hn:es.length=n)(hl:n<=30)(h0:a=none->n=0):
  Calls Tryz.prog 231 #[.agg #[.slice a n c,.slice none 0 0]] w (aJ es w):=by
 have hB0:=(QD.new w #[.slice a n c,.slice none 0 0] 109).alloc (.cells #[.slice none 0 0,.slice none 0 0] 109);have hB1:=QD.new (w.alloc (.cells #[.slice a n c,.slice none 0 0] 109)) #[.slice none 0 0,.slice none 0 0] 109;have hb:=QS w (.cells #[.slice a n c,.slice none 0 0] 109) (.cells #[.slice none 0 0,.slice none 0 0] 109);rw[QJ]at hB1;have hz:w.heap.size+2=((w.alloc (.cells #[.slice a n c,.slice none 0 0] 109)).alloc (.cells #[.slice none 0 0,.slice none 0 0] 109)).heap.size:=by simp only[QJ]
 generalize hW:((w.alloc (.cells #[.slice a n c,.slice none 0 0] 109)).alloc (.cells #[.slice none 0 0,.slice none 0 0] 109))=W at hB0 hB1 hb hz;obtain⟨c00,tq,-,-⟩:=hB0.two;obtain⟨r0,r1,f0,f1⟩:=hB1.two;have HA:=QQ (ha.keep (Qk hb));have HO:=QQ hok;have HN:=QQ hn;have HB:=QQ hb;have HB0:=QQ hB0;have HB1:=QQ hB1;have H0:=QQ h0;have HW:=QQ hW;have hzl:w.heap.size+1<W.heap.size:=by omega
 clear ha hok hn h0 hz hb hB0 hB1 hW;go_enter Tryz.func231,Tryz.ntmps231
 go_upto_region 1 with fail
 rw[HW.out]
 go_cut [2] (fun r wx=>r=.pointer (some ⟨w.heap.size+1,0,none⟩)/\∃v,QD wx (w.heap.size+1) #[v,.slice none 0 0] 109/\ZB 106 w.heap.size wx v es/\Below w.heap.size w wx)
 case first=>
  go_region_law (first|(go_simp;go_at_call 252;(with_reducible show Calls _ _ #[.slice none 0 0] _ _);refine(EY _).mono ?_;rintro e w3 ⟨rfl,rfl⟩)|(go_simp;go_at_call 252;refine(WR a n c es _ (Zb.YT HA.out) HO.out HN.out (by omega) H0.out).mono ?_;rintro e w1 ⟨v1,rfl,o1,hb1⟩;obtain⟨a1,n1,c1,rfl⟩:=o1.form;have IW:=HB1.out.below (w:=W.drew) hb1 HB1.out.lt;obtain⟨r0',r1',f0',f1'⟩:=IW.two;obtain⟨QxJ,QxY,-,-⟩:=(HB0.out.below (w:=W.drew) hb1 HB0.out.lt).two))
  all_goals
   dsimp only[Act.put,Exit.then]
   (repeat go_step)
   go_meet;exact⟨rfl,_,(IW.set 0 (.slice a1 n1 c1)).set 1 (.slice none 0 0),((o1.mono (show w.heap.size<=W.drew.heap.size by simp;omega)).jE IW (by decide) _ _).jE (IW.set 0 (.slice a1 n1 c1)) (by decide) _ _,QR.set (by omega) (QR.set (by omega) (QR.call hb1 (QR.drew HB.out)))⟩
 case rest=>
  obtain⟨rfl,v,hBN,o2,hb2⟩:=hcut;obtain⟨a2,n2,c2,rfl⟩:=o2.form;obtain⟨y0,y1,-,-⟩:=hBN.two;go_wp2;refine QV (v:=.agg #[.slice a2 n2 c2,.slice none 0 0]) (by simp[results,Tryz.results231,go_sem,y0,y1]) rfl ?_;exact⟨_,rfl,o2,hb2⟩
def OkS(es:List V2):Prop:=∀u∈es,∃p q,u=⟨.pointer p,.int .i64 q⟩
theorem OkS.all{es:List V2}(h:OkS es):FF es:=fun u hu=>by
 obtain⟨p,q,rfl⟩:=h u hu;exact⟨rfl,rfl⟩
theorem EX(g m c:Nat)(p:Option Addr)(q:Int)(w:World)(hc0:w.cell? ⟨g,m*2,none⟩=some (.pointer p))(hc1:w.cell? ⟨g,m*2+1,none⟩=some (.int .i64 q))(hm:m+1<=c)(hc2:c<=9223372036854775807):
  Calls Tryz.prog 232 #[.slice (some ⟨g,0,none⟩) (m+1) c] w fun e w'=>e=.returned (.tuple #[.agg #[.pointer p,.int .i64 q],.slice (some ⟨g,0,none⟩) m c])/\Below w.heap.size w w':=by
 obtain⟨n,hn1,hn2⟩:∃n:Nat,n<=m+1/\m+1<=n:=⟨m+1,by omega,by omega⟩;rw[show m+1=n from by omega];have i1:((n:Int)-1).toNat=m:=by omega
 have i2:IntKind.i64.wrap ((n:Int)-1)=(n:Int)-1:=Zl _ (by omega);have i3:(0:Int)<=(n:Int)-1:=by omega
 have i4:(n:Int)-1<(n:Int):=by omega
 have i5:(n:Int)-1<=(c:Int):=by omega
 have i6:(1:Int)<=(n:Int):=by omega
 have hR:=QD.new w #[.pointer none,.int .i64 0] 106;have hb:=QC w (.cells #[.pointer none,.int .i64 0] 106);have d0:=Qk hb _ _ hc0;have d1:=Qk hb _ _ hc1;have hg:=Zv hc0;generalize hW:w.alloc (.cells #[.pointer none,.int .i64 0] 106)=W at hR hb d0 d1;obtain⟨r0,r1,f0,f1⟩:=hR.two;have HW:=QQ hW;have HR:=QQ hR;have HB:=QQ hb;clear hc0 hc1 hW hR hb;go_enter Tryz.func232,Tryz.ntmps232
 go_upto_region 1 with fail
 rw[HW.out]
 go_region
 go_wp2;obtain⟨y0,y1,-,-⟩:=((HR.out.set 0 (.pointer p)).set 1 (.int .i64 q)).two;refine QV (v:=.tuple #[.agg #[.pointer p,.int .i64 q],.slice (some ⟨g,0,none⟩) m c]) (by simp[results,Tryz.results232,go_sem,y0,y1]) rfl ?_;exact⟨rfl,((HB.out.setCell (p:=⟨w.heap.size,0,none⟩) (QU _) _).setCell (p:=⟨w.heap.size,1,none⟩) (QU _) _).drew⟩
theorem ZB.EW{T:TypeId}{base:Nat}{w:World}{v:Value}{es:List V2}{B:Nat}(h:ZB T base w v es)(hB:some B≠v.ownBlock)(i:Nat)(u:Value):ZB T base (w.setCell ⟨B,i,none⟩ u) v es:=
 h.moved fun k hk=>QP _ _ _ _ fun e=>hB (by have e2:k=B:=e;rw[<-e2];exact hk.symm)
def I4(es:List V2)(p:Option Addr)(q:Int)(w:World)(e:Ending)(w':World):Prop:=
 ∃a1 n1 c1 a2 n2 c2 p' q',e=.returned (.tuple #[.agg #[.slice a1 n1 c1,.slice a2 n2 c2],.agg #[.pointer p',.int .i64 q'],.bool (decide (0<es.length))])/\
  (0<es.length->xW (fun k=>w.heap.size<=k) w' (.slice a1 n1 c1) es.dropLast/\WO es (es.length-1)=⟨.pointer p',.int .i64 q'⟩)/\Below w.heap.size w w'
theorem Gg(c:Nat)(a:Option Addr)(p:Option Addr)(q:Int)(w:World):
  Calls Tryz.prog 205 #[.agg #[.slice a 0 c,.slice none 0 0],.agg #[.pointer p,.int .i64 q]] w (I4 [] p q w):=by
 have hB0:=(((QD.new w #[.slice a 0 c,.slice none 0 0] 109).alloc (.cells #[.pointer p,.int .i64 q] 106)).alloc (.cells #[.slice none 0 0,.slice none 0 0] 109)).alloc (.cells #[.pointer none,.int .i64 0] 106);have hB1:=((QD.new (w.alloc (.cells #[.slice a 0 c,.slice none 0 0] 109)) #[.pointer p,.int .i64 q] 106).alloc (.cells #[.slice none 0 0,.slice none 0 0] 109)).alloc (.cells #[.pointer none,.int .i64 0] 106);have hB2:=(QD.new ((w.alloc (.cells #[.slice a 0 c,.slice none 0 0] 109)).alloc (.cells #[.pointer p,.int .i64 q] 106)) #[.slice none 0 0,.slice none 0 0] 109).alloc (.cells #[.pointer none,.int .i64 0] 106);have hB3:=QD.new (((w.alloc (.cells #[.slice a 0 c,.slice none 0 0] 109)).alloc (.cells #[.pointer p,.int .i64 q] 106)).alloc (.cells #[.slice none 0 0,.slice none 0 0] 109)) #[.pointer none,.int .i64 0] 106;have hb:=QR.alloc (o:=.cells #[.pointer none,.int .i64 0] 106) (qQ w (.cells #[.slice a 0 c,.slice none 0 0] 109) (.cells #[.pointer p,.int .i64 q] 106) (.cells #[.slice none 0 0,.slice none 0 0] 109));simp only[QJ]at hB1 hB2 hB3;generalize hW:((((w.alloc (.cells #[.slice a 0 c,.slice none 0 0] 109)).alloc (.cells #[.pointer p,.int .i64 q] 106)).alloc (.cells #[.slice none 0 0,.slice none 0 0] 109)).alloc (.cells #[.pointer none,.int .i64 0] 106))=W at hB0 hB1 hB2 hB3 hb;have hzl:=hB3.lt;obtain⟨c00,tq,-,-⟩:=hB0.two;obtain⟨c10,c11,-,-⟩:=hB1.two;obtain⟨c20,c21,f20,f21⟩:=hB2.two;obtain⟨Jl,c31,f30,f31⟩:=hB3.two;have HB1:=QQ hB1;have HB2:=QQ hB2;have HB3:=QQ hB3;have HB:=QQ hb;have HW:=QQ hW;have HC:=QQ (xA a 0 c [] W.drew (Zb.nil _ _) (fun u hu=>by cases hu) rfl (by omega) (fun _=>rfl));clear hB0 hB1 hB2 hB3 hb hW;go_enter Tryz.func205,Tryz.ntmps205
 go_upto_region 1 with fail
 rw[HW.out];go_upto_region 2 with fail
 go_cut [4,6] (fun r s wx=>r=.pointer (some ⟨w.heap.size+1+1,0,none⟩)/\s=.bool false/\∃a1 n1 c1,QD wx (w.heap.size+1+1) #[.slice a1 n1 c1,.slice none 0 0] 109/\QD wx (w.heap.size+1+1+1) #[.pointer p,.int .i64 q] 106/\Below w.heap.size w wx)
 case first=>
  go_region_law (first|(go_simp;go_at_call 231;refine HC.out.mono ?_;rintro e w1 ⟨v1,rfl,o1,hb1⟩;obtain⟨a1,n1,c1,rfl⟩:=o1.form;have hR2:=HB2.out.below (w:=W.drew) hb1 HB2.out.lt;obtain⟨e20,e21,k20,k21⟩:=hR2.two;have UE:=HB3.out.below (w:=W.drew) hb1 HB3.out.lt;obtain⟨e30,e31,lM,lL⟩:=UE.two;have IW:=HB1.out.below (w:=W.drew) hb1 HB1.out.lt;obtain⟨e10,e11,-,-⟩:=IW.two))
  all_goals
   go_wp2;go_meet;exact⟨rfl,rfl,a1,n1,c1,(((hR2.set 0 (.slice a1 n1 c1)).set 1 (.slice none 0 0)).other (a:=⟨w.heap.size+1+1+1,0,none⟩) (by simp) _).other (a:=⟨w.heap.size+1+1+1,1,none⟩) (by simp) _,((((UE.other (a:=⟨w.heap.size+1+1,0,none⟩) (by simp) (.slice a1 n1 c1)).other (a:=⟨w.heap.size+1+1,1,none⟩) (by simp) (.slice none 0 0)).set 0 (.pointer p)).set 1 (.int .i64 q)),QR.set (by omega) (QR.set (by omega) (QR.set (by omega) (QR.set (by omega) (QR.call hb1 (QR.drew HB.out)))))⟩
 case rest=>
  obtain⟨rfl,rfl,a1,n1,c1,hR2,UE,hb2⟩:=hcut;obtain⟨y0,y1,-,-⟩:=hR2.two;obtain⟨z0,z1,-,-⟩:=UE.two;go_wp2;refine QV (v:=.tuple #[.agg #[.slice a1 n1 c1,.slice none 0 0],.agg #[.pointer p,.int .i64 q],.bool false]) (by simp[results,Tryz.results205,go_sem,y0,y1,z0,z1]) rfl ?_;exact⟨a1,n1,c1,none,0,0,p,q,rfl,fun h=>absurd h (by decide),hb2⟩
theorem Gf(m c:Nat)(a:Option Addr)(es:List V2)(p:Option Addr)(q:Int)(w:World)(ha:Zb w a es)(hok:OkS es)(hn:es.length=m+1)(hl:m+1<=30)(h0:a=none->m+1=0):
  Calls Tryz.prog 205 #[.agg #[.slice a (m+1) c,.slice none 0 0],.agg #[.pointer p,.int .i64 q]] w (I4 es p q w):=by
 have hB0:=(((QD.new w #[.slice a (m+1) c,.slice none 0 0] 109).alloc (.cells #[.pointer p,.int .i64 q] 106)).alloc (.cells #[.slice none 0 0,.slice none 0 0] 109)).alloc (.cells #[.pointer none,.int .i64 0] 106);have hB1:=((QD.new (w.alloc (.cells #[.slice a (m+1) c,.slice none 0 0] 109)) #[.pointer p,.int .i64 q] 106).alloc (.cells #[.slice none 0 0,.slice none 0 0] 109)).alloc (.cells #[.pointer none,.int .i64 0] 106);have hB2:=(QD.new ((w.alloc (.cells #[.slice a (m+1) c,.slice none 0 0] 109)).alloc (.cells #[.pointer p,.int .i64 q] 106)) #[.slice none 0 0,.slice none 0 0] 109).alloc (.cells #[.pointer none,.int .i64 0] 106);have hB3:=QD.new (((w.alloc (.cells #[.slice a (m+1) c,.slice none 0 0] 109)).alloc (.cells #[.pointer p,.int .i64 q] 106)).alloc (.cells #[.slice none 0 0,.slice none 0 0] 109)) #[.pointer none,.int .i64 0] 106;have hb:=QR.alloc (o:=.cells #[.pointer none,.int .i64 0] 106) (qQ w (.cells #[.slice a (m+1) c,.slice none 0 0] 109) (.cells #[.pointer p,.int .i64 q] 106) (.cells #[.slice none 0 0,.slice none 0 0] 109));simp only[QJ]at hB1 hB2 hB3;generalize hW:((((w.alloc (.cells #[.slice a (m+1) c,.slice none 0 0] 109)).alloc (.cells #[.pointer p,.int .i64 q] 106)).alloc (.cells #[.slice none 0 0,.slice none 0 0] 109)).alloc (.cells #[.pointer none,.int .i64 0] 106))=W at hB0 hB1 hB2 hB3 hb;have hzl:=hB3.lt;obtain⟨c00,tq,-,-⟩:=hB0.two;obtain⟨c10,c11,-,-⟩:=hB1.two;obtain⟨c20,c21,f20,f21⟩:=hB2.two;obtain⟨Jl,c31,f30,f31⟩:=hB3.two;have HB1:=QQ hB1;have HB2:=QQ hB2;have HB3:=QQ hB3;have HB:=QQ hb;have HW:=QQ hW;have HC:=QQ (xA a (m+1) c es W (ha.keep (Qk hb)) hok.all hn hl h0);obtain⟨p',q',hlast⟩:∃p' q',WO es m=⟨.pointer p',.int .i64 q'⟩:=by
  have hm:m<es.length:=by omega
  rw[zy hm];exact hok _ (XF hm)
 have HL:=QQ hlast;have HN:=QQ hn;clear hB0 hB1 hB2 hB3 hb hW h0 ha hok hlast hn;have i0:¬((m:Int)+1=0):=by omega
 have i1:((m:Int)+1==0)=false:=by simp;omega
 go_enter Tryz.func205,Tryz.ntmps205
 go_upto_region 1 with fail
 rw[HW.out];go_wp2_with fail
 refine HC.out.mono ?_;rintro e w1 ⟨v1,rfl,o1,hb1⟩;obtain⟨g,c3,rfl,hg1,hg2⟩:=World.ownsRow.form o1 (by have:=HN.out;omega);have QZw:=o1.lC.get;have HN2:=HN.out;rw[HN2]at o1 QZw ⊢;clear HN2;obtain⟨-,hmc,hc3,hpr,-⟩:=QZw;have IW:=HB1.out.below hb1 HB1.out.lt;have hR2:=HB2.out.below hb1 HB2.out.lt;have UE:=HB3.out.below hb1 HB3.out.lt;have hbW:=QW HB.out HB.out.size hb1;have hs1:=hb1.size;obtain⟨gb,go',hge,hgc⟩:=hpr.at (k:=m) (by rw[HN.out];omega);simp only[Qv,Xz]at hge;obtain⟨rfl,rfl,-⟩:=hge;obtain⟨hg0,hg1'⟩:=hgc m (by rw[HN.out];omega);rw[HL.out,Zu]at hg0 hg1';dsimp only at hg0 hg1';have hb2:=QS w1 (.cells #[.slice (some ⟨g,0,none⟩) (m+1) c3,.slice none 0 0] 109) (.cells #[.pointer none,.int .i64 0] 106);have kG:=(QD.new w1 #[.slice (some ⟨g,0,none⟩) (m+1) c3,.slice none 0 0] 109).alloc (.cells #[.pointer none,.int .i64 0] 106);have JR:=QD.new (w1.alloc (.cells #[.slice (some ⟨g,0,none⟩) (m+1) c3,.slice none 0 0] 109)) #[.pointer none,.int .i64 0] 106;rw[QJ]at JR;have PK:=QQ (EX g m c3 p' q' _ (Qk hb2 _ _ hg0) (Qk hb2 _ _ hg1') hmc hc3);have PY:=QQ ((hpr.keep (Qk hb2)));have HO:=QQ ((o1.XD (o:=.cells #[.slice (some ⟨g,0,none⟩) (m+1) c3,.slice none 0 0] 109)).XD (o:=.cells #[.pointer none,.int .i64 0] 106));have HR1:=QQ (IW.below hb2 IW.lt);have HR2:=QQ (hR2.below hb2 hR2.lt);have HR3:=QQ (UE.below hb2 UE.lt);have HB7:=QQ kG;have Vu:=QQ JR;have HBW:=QQ (QW hbW hbW.size hb2);clear hgc hg0 hg1' hpr IW hR2 UE kG JR hb2 hbW hb1 c00 tq c10 c11 c20 c21 f20 f21 Jl c31 f30 f31 o1;go_wp2_with fail
 refine PK.out.mono ?_;rintro e w5 ⟨rfl,hb5⟩;have kG:=HB7.out.below hb5 HB7.out.lt;have JR:=Vu.out.below hb5 Vu.out.lt;have IW:=HR1.out.below hb5 HR1.out.lt;have hR2:=HR2.out.below hb5 HR2.out.lt;have UE:=HR3.out.below hb5 HR3.out.lt;have ho:=HO.out.kept hb5;have hbW:=QW HBW.out HBW.out.size hb5;have rZ:w1.heap.size≠w1.heap.size+1:=by omega
 have hg7:some (w1.heap.size)≠(Value.slice (some ⟨g,0,none⟩) (m+1) c3).ownBlock:=by simp[Value.ownBlock];omega
 have bZ:some (w1.heap.size+1)≠(Value.slice (some ⟨g,0,none⟩) (m+1) c3).ownBlock:=by simp[Value.ownBlock];omega
 have QXl:=((kG.other (a:=⟨w1.heap.size+1,0,none⟩) rZ (.pointer p')).other (a:=⟨w1.heap.size+1,1,none⟩) rZ (.int .i64 q')).set 0 (.slice (some ⟨g,0,none⟩) m c3);have QXi:=((JR.set 0 (.pointer p')).set 1 (.int .i64 q')).other (a:=⟨w1.heap.size,0,none⟩) rZ.symm (.slice (some ⟨g,0,none⟩) m c3);have rO:=((IW.other (a:=⟨w1.heap.size+1,0,none⟩) (by simp;omega) (.pointer p')).other (a:=⟨w1.heap.size+1,1,none⟩) (by simp;omega) (.int .i64 q')).other (a:=⟨w1.heap.size,0,none⟩) (by simp;omega) (.slice (some ⟨g,0,none⟩) m c3);have QXd:=((hR2.other (a:=⟨w1.heap.size+1,0,none⟩) (by simp;omega) (.pointer p')).other (a:=⟨w1.heap.size+1,1,none⟩) (by simp;omega) (.int .i64 q')).other (a:=⟨w1.heap.size,0,none⟩) (by simp;omega) (.slice (some ⟨g,0,none⟩) m c3);have QXc:=((UE.other (a:=⟨w1.heap.size+1,0,none⟩) (by simp;omega) (.pointer p')).other (a:=⟨w1.heap.size+1,1,none⟩) (by simp;omega) (.int .i64 q')).other (a:=⟨w1.heap.size,0,none⟩) (by simp;omega) (.slice (some ⟨g,0,none⟩) m c3);have ho':=((ho.EW bZ 0 (.pointer p')).EW bZ 1 (.int .i64 q')).EW hg7 0 (.slice (some ⟨g,0,none⟩) m c3);have QXI:=QR.set (a:=w) (B:=w1.heap.size) (i:=0) (u:=.slice (some ⟨g,0,none⟩) m c3) (by omega) (QR.set (B:=w1.heap.size+1) (i:=1) (u:=.int .i64 q') (by omega) (QR.set (B:=w1.heap.size+1) (i:=0) (u:=.pointer p') (by omega) hbW));obtain⟨y70,y71,k70,k71⟩:=kG.two;obtain⟨y80,y81,k80,k81⟩:=JR.two;clear kG JR IW hR2 UE ho hbW;go_upto_region 6 with fail
 generalize hW6:(((w5.setCell ⟨w1.heap.size+1,0,none⟩ (.pointer p')).setCell ⟨w1.heap.size+1,1,none⟩ (.int .i64 q')).setCell ⟨w1.heap.size,0,none⟩ (.slice (some ⟨g,0,none⟩) m c3))=w6 at *;have kG:QD w6 w1.heap.size #[.slice (some ⟨g,0,none⟩) m c3,.slice none 0 0] 109:=QXl;have JR:QD w6 (w1.heap.size+1) #[.pointer p',.int .i64 q'] 106:=QXi;obtain⟨x70,x71,-,-⟩:=kG.two;obtain⟨PG,nu,-,-⟩:=rO.two;have H7:=QQ kG;have H8:=QQ JR;have H2:=QQ QXd;have H3:=QQ QXc;have HO6:=QQ ho';have HW6:=QQ QXI;have hlt1:=rO.lt;have QKI:=kG.lt;have Hr:=JR.lt;clear HB1 HB2 HB3 HB HW HC PK PY HO HR1 HR2 HR3 HB7 Vu HBW kG JR QXl QXi rO QXd QXc ho' QXI hW6 y70 y71 k70 k71 y80 y81 k80 k81 hb5 hg7 bZ i0 i1;go_wp2_with (at_builtin;refine oV (T:=106) (ST:=107) Tryz.underlying107 zm rfl (by decide) rfl _ _ rfl w6.heap.size _ [] [⟨.pointer p,.int .i64 q⟩] ⟨w6.heap.size,0,none⟩ 1 1 rfl rfl (ZB.nil _ _ _) (jb rfl) (fun u hu=>by simp at hu;subst hu;exact⟨rfl,rfl⟩) rfl (by simp) (by simp) (by decide) ?_;intro v4 w4 o4 hg4 ru;have hb4:Below w6.heap.size w6 w4:=(QC w6 _).grown hg4 (by simp) (ZB.nil 106 w6.heap.size w6).row;obtain⟨a4,n4,c4,rfl⟩:=o4.form;have hC7:=H7.out.below hb4 QKI;have Xp:=H8.out.below hb4 Hr;have hC2:=H2.out.below hb4 (by omega);have hC3:=H3.out.below hb4 (by omega);obtain⟨Qqk,Qqy,z70,z71⟩:=hC7.two;obtain⟨x80,x81,-,-⟩:=Xp.two;obtain⟨x20,x21,z20,z21⟩:=hC2.two;obtain⟨x30,x31,z30,z31⟩:=hC3.two;have nJ:=QQ hC2;have HC3:=QQ hC3;have HC7:=QQ hC7;have HO4:=QQ (HO6.out.kept hb4);have Al:=QQ (QW HW6.out HW6.out.size hb4);clear hC7 Xp hC2 hC3 x70 x71 PG nu o4 hg4 ru hb4)
 go_region
 go_wp2;have e2:=((((nJ.out.other (a:=⟨w1.heap.size,1,none⟩) (by simp;omega) (.slice a4 n4 c4)).set 0 (.slice (some ⟨g,0,none⟩) m c3)).set 1 (.slice a4 n4 c4)).other (a:=⟨w.heap.size+1+1+1,0,none⟩) (by simp) (.pointer p')).other (a:=⟨w.heap.size+1+1+1,1,none⟩) (by simp) (.int .i64 q');have e3:=((((HC3.out.other (a:=⟨w1.heap.size,1,none⟩) (by simp;omega) (.slice a4 n4 c4)).other (a:=⟨w.heap.size+1+1,0,none⟩) (by simp) (.slice (some ⟨g,0,none⟩) m c3)).other (a:=⟨w.heap.size+1+1,1,none⟩) (by simp) (.slice a4 n4 c4)).set 0 (.pointer p')).set 1 (.int .i64 q');obtain⟨y0,y1,-,-⟩:=e2.two;obtain⟨z0,z1,-,-⟩:=e3.two;have hv:∀k,k≠g->some k≠(Value.slice (some ⟨g,0,none⟩) (m+1) c3).ownBlock:=fun k hk=>by simpa[Value.ownBlock]using hk
 have ho:=((((HO4.out.EW (hv w1.heap.size (by omega)) 1 (.slice a4 n4 c4)).EW (hv (w.heap.size+1+1) (by omega)) 0 (.slice (some ⟨g,0,none⟩) m c3)).EW (hv (w.heap.size+1+1) (by omega)) 1 (.slice a4 n4 c4)).EW (hv (w.heap.size+1+1+1) (by omega)) 0 (.pointer p')).EW (hv (w.heap.size+1+1+1) (by omega)) 1 (.int .i64 q');have hpr:=ho.lC.get.2.2.2.1.take m;have hdl:es.dropLast=es.take m:=by rw[List.dropLast_eq_take,HN.out];rfl
 have hb:=QR.set (a:=w) (B:=w.heap.size+1+1+1) (i:=1) (u:=.int .i64 q') (by omega) (QR.set (B:=w.heap.size+1+1+1) (i:=0) (u:=.pointer p') (by omega) (QR.set (B:=w.heap.size+1+1) (i:=1) (u:=.slice a4 n4 c4) (by omega) (QR.set (B:=w.heap.size+1+1) (i:=0) (u:=.slice (some ⟨g,0,none⟩) m c3) (by omega) (QR.set (B:=w1.heap.size) (i:=1) (u:=.slice a4 n4 c4) (by omega) Al.out))));refine QV (v:=.tuple #[.agg #[.slice (some ⟨g,0,none⟩) m c3,.slice a4 n4 c4],.agg #[.pointer p',.int .i64 q'],.bool true]) (by simp[results,Tryz.results205,go_sem,y0,y1,z0,z1]) rfl ?_;refine⟨some ⟨g,0,none⟩,m,c3,a4,n4,c4,p',q',by rw[HN.out];simp,fun _=>⟨⟨some ⟨g,0,none⟩,m,c3,rfl,by rw[hdl,QT,HN.out];omega,by omega,hc3,by rw[hdl];exact hpr.YT,by simp,fun ad e _=>?_⟩,by rw[HN.out];exact HL.out⟩,hb.drew⟩;simp only[Qv]at e;subst e;show w.heap.size<=g;omega
theorem M4(a:Option Addr)(n c:Nat)(es:List V2)(p:Option Addr)(q:Int)(w:World)(ha:Zb w a es)(hok:OkS es)(hn:es.length=n)(hl:n<=30)(h0:a=none->n=0):
  Calls Tryz.prog 205 #[.agg #[.slice a n c,.slice none 0 0],.agg #[.pointer p,.int .i64 q]] w (I4 es p q w):=by
 rcases n with _|m
 ·obtain rfl:es=[]:=QH hn
  exact Gg c a p q w
 ·exact Gf m c a es p q w ha hok hn hl h0
end Go.Proofs.YtmdcencmiopmmaaGreat
