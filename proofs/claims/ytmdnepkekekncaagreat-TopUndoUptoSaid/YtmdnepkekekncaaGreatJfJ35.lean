/- joined, no condition of its own. -/
import Derived.Test.YtmdnepkekekncaaGreatJfJ34
set_option linter.unusedVariables false
set_option linter.unusedSimpArgs false
set_option maxRecDepth 100000
set_option maxHeartbeats 12000000
namespace Go.Proofs.YtmdnepkekekncaaGreat
open Go.RowKit
def MG(F:Nat->Prop)(w:World)(us:List V2)(es:List (List Int×Int)):Prop:=us.length=es.length/\∀i (h:i<es.length),Wd F w (xG us i).a es[i].1/\(xG us i).b=.int .i64 es[i].2
theorem nK.get{F:Nat->Prop}{w:World}{v:Value}{es:List (List Int×Int)}(h:nK F w v es):∃us,kP F w v us/\MG F w us es:=by
 obtain⟨us,h1,h2,h3⟩:=h;exact⟨us,h1,h2,h3⟩
theorem MG.snp{F:Nat->Prop}{w:World}{v:Value}{us:List V2}{es:List (List Int×Int)}(h:MG F w us es)(hp:kP F w v us):nK F w v es:=⟨us,hp,h.1,h.2⟩
theorem MG.keep{F G:Nat->Prop}{w w':World}{us:List V2}{es:List (List Int×Int)}(h:MG F w us es)(hc:Xv F w w')(hi:∀k,F k->G k):MG G w' us es:=
 ⟨h.1,fun i hi'=>⟨(h.2 i hi').1.keep hc hi,(h.2 i hi').2⟩⟩
theorem MG.snoc{F:Nat->Prop}{w:World}{us:List V2}{es:List (List Int×Int)}{v:Value}{t:List Int}{q:Int}(h:MG F w us es)(ht:Wd F w v t):MG F w (us++[⟨v,.int .i64 q⟩]) (es++[(t,q)]):=by
 refine⟨QE1,fun i hi=>?_⟩;by_cases hlt:i<es.length
 ·rw[AY (by rw[h.1];exact hlt),List.getElem_append_left hlt]
  exact h.2 i hlt
 ·obtain rfl:i=es.length:=by simp at hi;omega
  have:=jN (es:=us) (us:=[⟨v,.int .i64 q⟩]) (i:=0);rw[Yq,h.1]at this;rw[this,List.getElem_append_right (ZB _)];simp only[Nat.sub_self,List.getElem_cons_zero];exact⟨ht,rfl⟩
theorem MG.drop{F:Nat->Prop}{w:World}{us:List V2}{es:List (List Int×Int)}(h:MG F w us es)(k:Nat):MG F w (us.drop k) (es.drop k):=by
 refine⟨QE1,fun i hi=>?_⟩;rw[IC,List.getElem_drop];exact h.2 (k+i) QS
theorem MG.dropLast{F:Nat->Prop}{w:World}{us:List V2}{es:List (List Int×Int)}(h:MG F w us es):MG F w us.dropLast es.dropLast:=by
 refine⟨QE1,fun i hi=>?_⟩;rw[List.length_dropLast]at hi;rw[List.dropLast_eq_take,AX (by rw[h.1];omega),List.getElem_dropLast];exact h.2 i QQ
theorem MG.oks{F:Nat->Prop}{w:World}{us:List V2}{es:List (List Int×Int)}(h:MG F w us es):OkS us:=fun u hu=>by
 obtain⟨i,hi,e⟩:=XN.1 hu;obtain⟨h1,h2⟩:=h.2 i (by rw[<-h.1];exact hi);rw[jO hi,e]at h1 h2;obtain⟨p,hp⟩:=h1.ptr;obtain⟨ua,ub⟩:=u;dsimp only at hp h2;exact⟨p,_,by rw[hp,h2]⟩
theorem Xv.Yf{F:Nat->Prop}{a w:World}{o:Obj}(h:Xv F a w):Xv F a (w.alloc o):=h.trans (Xv.below F (ZR _ _))
theorem Xv.J2{F:Nat->Prop}{a w:World}(h:Xv F a w):Xv F a w.drew:=h
theorem Xv.AP{F:Nat->Prop}{a w:World}{B i:Nat}{u:Value}(hB:¬F B)(h:Xv F a w):Xv F a (w.setCell ⟨B,i,none⟩ u):=h.trans (Xv.setCell (a:=⟨B,i,none⟩) hB u)
theorem kP.Ry{P Q:Nat->Prop}{w w':World}{v:Value}{es:List V2}(h:kP P w v es)(hk:Xv (fun k=>P k/\k<w.heap.size) w w')(hi:∀k,P k->Q k):kP Q w' v es:=(h.lt.keep hk).imp fun k g=>hi k g.1
theorem kP.QUE{T:TypeId}{base:Nat}{w:World}{v:Value}{us:List V2}{F:Nat->Prop}(h:Xd T base w v us)(hi:∀k,base<=k/\k<w.heap.size->F k):kP F w v us:=
 h.bM.lt.imp fun k hk=>hi k ⟨hk.1.1,hk.2⟩
theorem PM(F G:Nat->Prop)(B:Nat)(S:SS)(w:World)(h:YF F G w B S)(hp:S.past.length<=30):
  Calls Tryz.prog 129 #[.pointer (some ⟨B,0,none⟩)] w (VP F G w B S.save YM):=by
 obtain⟨f,hf⟩:=h;have hA:=At.begin hf;obtain⟨p,hpt⟩:=hf.d.text.ptr;obtain⟨us,hps,hsn⟩:=hf.d.past.get;have BC:=hps;obtain⟨a,n,c,hv,-⟩:=hps;rw[hv]at BC;obtain⟨g1,g2,g3,g4,g5⟩:=BC.get;have c0:=hf.cell 0;have c1:=hf.cell 1;have oM:=hf.cell 43;have c44:=hf.cell 44;have z43:=hf.free 43;have z44:=hf.free 44;rw[hpt]at c0;rw[hf.d.pos]at c1;rw[hv]at oM;rw[hf.d.fut]at c44;have HD:=Zy (rC a n c us p S.pos w.drew g4.J2 hsn.oks.all g1 (by rw[<-g1,hsn.1];exact hp) g5);have HA:=Zy hA;have HSN:=Zy hsn;have HPT:=Zy hpt;have HN:=Zy (g1.symm.trans hsn.1);have hBl:=hf.vz;clear hf hA BC hsn hv g1 g2 g3 g4 g5 hpt hp;go_enter Tryz.func129,Tryz.ntmps129
 go_region_law (first|(go_simp;go_at_call 146;refine HD.out.mono ?_;rintro e w2 ⟨v,rfl,o2,hb2⟩;obtain⟨a2,n2,c2,rfl⟩:=o2.form;have hA2:=HA.out.below (w':=w2) (Zp.call hb2 (Zp.drew (ZH _ w)));have x43:=hA2.hf.cell 43;have x44:=hA2.hf.cell 44;have y43:=hA2.hf.free 43;have y44:=hA2.hf.free 44))
 all_goals
  go_wp2
  go_end0
  have hb':Below w.heap.size w w2:=Zp.call hb2 (Zp.drew (ZH _ _));have htx:=hA2.hf.d.text;rw[HPT.out]at htx;have iL:=((HSN.out.keep (Xv.below _ hb') Fx.old).snoc (q:=S.pos) htx).drop (n+1-30);rw[HN.out]at iL o2;have hA3:=hA2.store (S':=S.save) 43 (.slice a2 n2 c2) {hA2.hf.d with past:=iL.snp (kP.QUE o2 Fx.new)};exact⟨rfl,(hA3.store (S':=S.save) 44 (.slice none 0 0) {hA3.hf.d with fut:=rfl}).done⟩
theorem Vl.at{w:World}{B:Nat}{f:Nat->Value}(h:Vl w B f)(i:Nat)(hi:i<58:=by omega):w.cell? ⟨B,i,none⟩=some (f i)/\w.frozen? ⟨B,i,none⟩=false:=⟨h.cell hi,h.free i⟩
theorem Ow{F0 G0 F:Nat->Prop}{w0 w:World}{B:Nat}{f:Nat->Value}{S:SS}{p:Option Addr}(t:List Int)(md q:Int)(h:At F0 G0 w0 F w B f (S.set t q))(hp:f 0=.pointer p)(hq:q=(if md=0 then max 0 ((t.length:Int)-1)else 0)):
  VPs F0 G0 w0 B (S.Js t md) (((((((((w.setCell ⟨B,45,none⟩ (.pointer p)).setCell ⟨B,43,none⟩ (.slice none 0 0)).setCell ⟨B,44,none⟩ (.slice none 0 0)).setCell ⟨B,2,none⟩ (.int .i64 md)).setCell ⟨B,32,none⟩ (.int .i64 0)).setCell ⟨B,33,none⟩ (.int .i64 0)).setCell ⟨B,34,none⟩ (.int .i64 0)).setCell ⟨B,35,none⟩ (.int .i64 0)).setCell ⟨B,36,none⟩ (.int .i64 0)):=by
 have ht:=h.hf.d.text;rw[hp]at ht;have a1:=h.store (S':={S.set t q with first:=t}) 45 (.pointer p) {h.hf.d with first:=ht};have a2:=a1.store (S':={S.set t q with first:=t,past:=[]}) 43 (.slice none 0 0) {a1.hf.d with past:=nK.nil _ _};have a3:=a2.store (S':={S.set t q with first:=t,past:=[]}) 44 (.slice none 0 0) {a2.hf.d with fut:=rfl};have a4:=a3.store (S':={S.set t q with first:=t,past:=[],mode:=md}) 2 (.int .i64 md) {a3.hf.d with mode:=rfl};have a5:=a4.store (S':={S.set t q with first:=t,past:=[],mode:=md,part:=⟨0,S.part.b,S.part.c,S.part.d,S.part.e⟩}) 32 (.int .i64 0) {a4.hf.d with p0:=rfl};have a6:=a5.store (S':={S.set t q with first:=t,past:=[],mode:=md,part:=⟨0,0,S.part.c,S.part.d,S.part.e⟩}) 33 (.int .i64 0) {a5.hf.d with p1:=rfl};have a7:=a6.store (S':={S.set t q with first:=t,past:=[],mode:=md,part:=⟨0,0,0,S.part.d,S.part.e⟩}) 34 (.int .i64 0) {a6.hf.d with p2:=rfl};have a8:=a7.store (S':={S.set t q with first:=t,past:=[],mode:=md,part:=⟨0,0,0,0,S.part.e⟩}) 35 (.int .i64 0) {a7.hf.d with p3:=rfl};have a9:=a8.store (S':={S.set t q with first:=t,past:=[],mode:=md,part:=⟨0,0,0,0,0⟩}) 36 (.int .i64 0) {a8.hf.d with p4:=rfl};have he:S.Js t md={S.set t q with first:=t,past:=[],mode:=md,part:=⟨0,0,0,0,0⟩}:=by
  unfold SS.Js SS.set;rw[hq];rfl
 rw[he];exact a9.done
theorem AZ(F G:Nat->Prop)(B:Nat)(S:SS)(a:Option Addr)(m c:Nat)(t:List Int)(md:Int)(w:World)(h:YF F G w B S)(hs:Sl w (.slice a m c) t)(hm:m<=4096)(hmd:md=0\/md=1):
  Calls Tryz.prog 56 #[.pointer (some ⟨B,0,none⟩),.slice a m c,.int .i64 md] w (VP F G w B (S.Js t md) YM):=by
 have hlen:t.length=m:=by
  obtain⟨a',n',c',e,g⟩:=hs;simp only[Xy]at e;obtain⟨rfl,rfl,rfl⟩:=e;exact g.1
 obtain⟨q,hq⟩:∃q:Int,q=(if md=0 then max 0 ((t.length:Int)-1)else 0):=⟨_,rfl⟩;have hq2:(md=1/\q=0)\/(md=0/\m=0/\q=0)\/(md=0/\0<m/\q=(m:Int)-1):=by
  rw[hlen]at hq;rcases hmd with rfl|rfl
  ·rw[if_pos rfl]at hq
   rcases Xf m with h0|h0
   ·exact .inr (.inl ⟨rfl,h0,QQ⟩)
   ·exact .inr (.inr ⟨rfl,h0,QQ⟩)
  ·exact .inl ⟨rfl,by rw[hq];rfl⟩
 have HT:=Zy (NY F G B S a m c t q w h hs hm);have HQ:=Zy hq;obtain⟨f,hf⟩:=h;have HA:=Zy (At.begin hf);clear hf hs hlen hq hmd;go_enter Tryz.func56,Tryz.ntmps56
 go_upto_if 8 with fail
 go_cut [6] (fun v wx=>v=.int .i64 q/\w=wx)
 case first=>
  rcases hq2 with⟨rfl,rfl⟩|⟨rfl,rfl,rfl⟩|⟨rfl,h0,rfl⟩
  ·go_wp2
   go_meet;exact⟨rfl,rfl⟩
  ·go_wp2
   go_meet;exact⟨rfl,rfl⟩
  ·go_wp2
   all_goals
    go_meet;first|exact⟨rfl,rfl⟩|exact⟨by congr 1;omega,rfl⟩
 case rest=>
  obtain⟨rfl,rfl⟩:=hcut;go_wp2_with fail
  refine HT.out.mono ?_;rintro e w2 ⟨rfl,hv⟩;obtain⟨F',f',hA2,-,-⟩:=hv.get;obtain⟨p,hp⟩:=hA2.hf.d.text.ptr;obtain⟨c0,-⟩:=hA2.hf.m.blk.at 0;rw[hp]at c0;obtain⟨c45,z45⟩:=hA2.hf.m.blk.at 45;obtain⟨oM,z43⟩:=hA2.hf.m.blk.at 43;obtain⟨c44,z44⟩:=hA2.hf.m.blk.at 44;obtain⟨c2,z2⟩:=hA2.hf.m.blk.at 2;obtain⟨c32,z32⟩:=hA2.hf.m.blk.at 32;obtain⟨Ko,z33⟩:=hA2.hf.m.blk.at 33;obtain⟨c34,z34⟩:=hA2.hf.m.blk.at 34;obtain⟨yx,z35⟩:=hA2.hf.m.blk.at 35;obtain⟨c36,z36⟩:=hA2.hf.m.blk.at 36;have HA2:=Zy hA2;have HP:=Zy hp;clear hA2 hp hv hq2;go_wp2
  go_end0
  exact⟨rfl,Ow t md q HA2.out HP.out HQ.out⟩
theorem At.Ph{F0 G0 F:Nat->Prop}{w0 w:World}{B:Nat}{f:Nat->Value}{S:SS}(h:At F0 G0 w0 F w B f S):At F0 G0 w0 F (w.setCell ⟨B,47,none⟩ (.pointer none)) B (KC f 47 (.pointer none)) {S with now:=none}:=by
 have hM:=h.hf.m;have hne:=hM.WU;have hs:∀k,k≠B->(w.setCell ⟨B,47,none⟩ (.pointer none)).heap[k]? =w.heap[k]?:=fun k hk=>Zl _ _ _ _ hk
 have hsz:(w.setCell ⟨B,47,none⟩ (.pointer none)).heap.size=w.heap.size:=size_setCell _ _ _;obtain⟨us,ho,he⟩:=hM.told;have hd:zF F w (KC f 47 (.pointer none)) {S with now:=none}:={h.hf.d with};refine⟨⟨h.step.os,h.step.tape,h.step.output,QD8,fun k hk hn=>?_⟩,fun k hk=>?_,h.sub,⟨?_,?_,hd.setCell hM.nB,?_⟩⟩
 ·rw[Zl _ _ _ _ (fun e=>?_)]
  ·exact h.step.block k hk hn
  ·subst e
   exact QH2
 ·rw[Zl _ _ _ _ (h.neB k hk)];exact h.same k hk
 ·rw[Gx.setCell];exact h.hf.fg
 ·rw[Gx.setCell,hsz];exact h.hf.lt
 ·rw[Gx.setCell]
  exact {
   blk:=hM.blk.set 47 (.pointer none),nB:=hM.nB,gB:=hM.gB,now:=by rw[JE];rfl
   told:=⟨us,ho.moved fun k hk=>hs k (hne k (.inl hk)),he.keep (Xv.setCell hM.nB _) (fun _ h=>h)⟩
   Yi:=hM.Yi
   Yv:=hM.Yv.moved fun k hk=>hs k (hne k (.inr (.inl hk)))
   J3:=hM.J3}
theorem At.vJ{F0 G0 F:Nat->Prop}{w0 w:World}{B:Nat}{f:Nat->Value}{S:SS}{q:C5×List Int}(h:At F0 G0 w0 F w B f S)(hn:S.now=some q):
  ∃F',At F0 G0 w0 F' ((w.setCell ⟨B,46,none⟩ (f 47)).setCell ⟨B,47,none⟩ (.pointer none)) B (KC (KC f 46 (f 47)) 47 (.pointer none)) {S with last:=S.now,now:=none}:=by
 have hM:=h.hf.m;have hne:=hM.WU;have hno:=hM.now;obtain⟨c,ty⟩:=q;rw[hn]at hno;obtain⟨C,tv,h1,h2,h3,h4,h5,h6⟩:=hno;have hs:∀k,k≠B->((w.setCell ⟨B,46,none⟩ (f 47)).setCell ⟨B,47,none⟩ (.pointer none)).heap[k]? =w.heap[k]?:=fun k hk=>(Zl _ _ _ _ hk).trans (Zl _ _ _ _ hk)
 have hsz:((w.setCell ⟨B,46,none⟩ (f 47)).setCell ⟨B,47,none⟩ (.pointer none)).heap.size=w.heap.size:=by rw[size_setCell,size_setCell]
 have hCB:C≠B:=hne C (.inr (.inr ⟨C,h1,.inl rfl⟩));have hrB:∀k,tv.ownBlock=some k->k≠B:=fun k hk=>hne k (.inr (.inr ⟨C,h1,.inr ⟨tv,h4.cell 5,hk⟩⟩))
 let F':Nat->Prop:=fun k=>F k\/k=C\/tv.ownBlock=some k
 have hFF:∀k,F k->F' k:=fun _ h=>.inl h
 have hnB:¬F' B:=fun e=>by
  rcases e with e|e|e
  ·exact hM.nB e
  ·exact hCB e.symm
  ·exact hrB B e rfl
 obtain⟨us,ho,he⟩:=hM.told;have hd0:zF F' w f S:=h.hf.d.keep (Xv.refl _ _) (fun _ _ _ _ h=>h) hFF;have hch:ChP F' w (f 47) (some (c,ty)):=⟨C,tv,h1,.inr (.inl rfl),h4,h5.QZg.imp fun k hk=>.inr (.inr hk)⟩;have hd:zF F' w (KC (KC f 46 (f 47)) 47 (.pointer none)) {S with last:=S.now,now:=none}:={hd0 with last:=by rw[hn];exact hch};have lG:Gx G0 w0 ((w.setCell ⟨B,46,none⟩ (f 47)).setCell ⟨B,47,none⟩ (.pointer none))=Gx G0 w0 w:=by rw[Gx.setCell,Gx.setCell]
 refine⟨F',⟨h.step.os,h.step.tape,h.step.output,QD8,fun k hk hn=>?_⟩,fun k hk=>?_,fun k hk=>hFF k (h.sub k hk),⟨?_,?_,(hd.setCell hnB).setCell hnB,?_⟩⟩
 ·rw[hs k (fun e=>?_)]
  ·exact h.step.block k hk hn
  ·subst e
   exact QH2
 ·rw[hs k (h.neB k hk)];exact h.same k hk
 ·rw[lG]
  rintro k (hk|hk|hk)
  ·exact h.hf.fg k hk
  ·subst hk;exact h3
  ·exact(h6 k hk).2.1
 ·rw[lG,hsz];exact h.hf.lt
 ·rw[lG]
  have hEv:∀k,(f 56).ownBlock=some k->¬F' k:=fun k hk e=>by
   rcases e with e|e|e
   ·exact(hM.Yi k hk).1 e
   ·subst e;exact ho.XP h4 QZ hk.symm
   ·rcases h5.2 with⟨e0,_⟩|⟨g,cap,cur,e0,hb',hgg,rest⟩
    ·rw[e0]at e;simp[Value.ownBlock]at e
    ·rw[e0]at e
     simp only[Value.ownBlock,ZL]at e;subst e;exact ho.XP (show Za w g cur _ from hgg) QZ hk.symm
  have hVi:∀k,(f 57).ownBlock=some k->¬F' k:=fun k hk e=>by
   rcases e with e|e|e
   ·exact(hM.J3 k hk).1 e
   ·subst e;exact hM.Yv.XP h4 QZ hk.symm
   ·exact(h6 k e).2.2 hk
  exact {
   blk:=(hM.blk.set 46 (f 47)).set 47 (.pointer none),nB:=hnB,gB:=hM.gB,now:=rfl
   told:=⟨us,ho.moved fun k hk=>hs k (hne k (.inl hk)),(he.keep (F:=F) (G:=F') (Xv.refl _ _) hFF).keep ((Xv.setCell hnB _).trans (Xv.setCell hnB _)) (fun _ h=>h)⟩
   Yi:=fun k hk=>⟨hEv k hk,(hM.Yi k hk).2⟩
   Yv:=hM.Yv.moved fun k hk=>hs k (hne k (.inr (.inl hk)))
   J3:=fun k hk=>⟨hVi k hk,(hM.J3 k hk).2⟩}
theorem xO{S:SS}(h:S.now=none):S.leave={S with pos:=max 0 (S.pos-1),mode:=0}:=by
 unfold SS.leave;rw[h];obtain⟨a1,a2,a3,a4,a5,a6,a7,a8,a9,b1,b2,b3,b4,b5,b6,b7,b8,b9,d1,d2,d3,d4⟩:=S;simp only at h;subst h;rfl
theorem xN{S:SS}{q:C5×List Int}(h:S.now=some q):S.leave={S with pos:=max 0 (S.pos-1),mode:=0,last:=S.now,now:=none}:=by
 unfold SS.leave;rw[h];rfl
theorem dV(F G:Nat->Prop)(B:Nat)(S:SS)(w:World)(h:YF F G w B S)(hp0:0<=S.pos)(hp1:S.pos<=200):
  Calls Tryz.prog 83 #[.pointer (some ⟨B,0,none⟩)] w (VP F G w B S.leave YM):=by
 obtain⟨f,hf⟩:=h;have hA:=At.begin hf;obtain⟨c1,z1⟩:=hf.m.blk.at 1;obtain⟨c2,z2⟩:=hf.m.blk.at 2;obtain⟨c46,z46⟩:=hf.m.blk.at 46;obtain⟨c47,z47⟩:=hf.m.blk.at 47;rw[hf.d.pos]at c1;obtain⟨sp,hsp⟩:∃sp,sp=S.pos:=⟨_,rfl⟩;rw[<-hsp]at c1 hp0 hp1;have HSP:=Zy hsp;clear hsp;have hcase:sp=0\/sp=1\/1<sp:=QQ;cases hno:S.now with
 | none=>
  have hn47:f 47=.pointer none:=by have:=hf.m.now;rw[hno]at this;exact this
  rw[hn47]at c47;have HA:=Zy hA;have JM:=Zy hno;clear hA hf hn47 hno;rcases hcase with rfl|rfl|hlt
  ·go_enter Tryz.func83,Tryz.ntmps83
   exact QHE
  ·go_enter Tryz.func83,Tryz.ntmps83
   exact QHE
  ·have i1:(0:Int)<sp-1:=by omega
   go_enter Tryz.func83,Tryz.ntmps83
   go_wp2
   go_end0
   have h1:=HA.out.store (S':={S with pos:=max 0 (S.pos-1)}) 1 (.int .i64 (sp-1)) {HA.out.hf.d with pos:=by rw[<-HSP.out,show max 0 (sp-1)=sp-1 from QQ];rfl};exact QMQ
 | some q=>
  obtain⟨C,hn47⟩:∃C,f 47=.pointer (some ⟨C,0,none⟩):=by
   have:=hf.m.now;rw[hno]at this;obtain⟨C,tv,h1,-⟩:=this;exact⟨C,h1⟩
  rw[hn47]at c47;have HA:=Zy hA;have JM:=Zy hno;have H47:=Zy hn47;clear hA hf hn47 hno;rcases hcase with rfl|rfl|hlt
  ·go_enter Tryz.func83,Tryz.ntmps83
   exact QL8
  ·go_enter Tryz.func83,Tryz.ntmps83
   exact QL8
  ·have i1:(0:Int)<sp-1:=by omega
   go_enter Tryz.func83,Tryz.ntmps83
   go_wp2
   go_end0
   have h1:=HA.out.store (S':={S with pos:=max 0 (S.pos-1)}) 1 (.int .i64 (sp-1)) {HA.out.hf.d with pos:=by rw[<-HSP.out,show max 0 (sp-1)=sp-1 from QQ];rfl};exact QGw
theorem QJo{ops:Array Oper}{rest:List Oper}{o:Oper}{a:Act}{Q:Exit->Act->World->Prop}{w:World}(hgd:o.guard=none)(s x:Operand)
  (ho:o.op=.call {callee:=.builtin .append,args:=#[s,x],argTypes:=#[22,22]})
  (base:Nat) (v:Value) (xs ys:List Int) (ad:Addr) (m c:Nat) (hs:a.eval s=v) (hx:a.eval x=.slice (some ad) m c)
  (hown:Own 3 base w v xs) (hy:Ints w (some ad) ys) (hm:ys.length=m) (hl:xs.length+m<=17592186044416) (hbase:base<=w.heap.size)
  (h:∀v' w',Own 3 base w' v' (xs++ys)->w.grownBy w' v.ownBlock->(v'.ownBlock=v.ownBlock\/v'.ownBlock=some w.heap.size)->wpList Tryz.prog ops Q rest (a.put o.dst v') w'):
  wpList Tryz.prog ops Q (o::rest) a w:=by
 obtain⟨i0,hi,hz0,hz1,hz2⟩:=XR JH;refine wpList_append_own_at w hgd s x 22 ho base 3 i0 (.int .i64 0) 1 8 Tryz.underlying22 hi hz0 hz1 hz2 rfl QZ v xs.length _ hs hown ad m c (ys.map (Value.int .i64)) hx (by simp[hm]) ?_ ?_ ?_ ?_ hbase ?_
 ·intro j u hj
  exact QHU
 ·intro u hu
  obtain⟨y,_,rfl⟩:=List.mem_map.1 hu;rfl
 ·unfold maxLen;omega
 ·omega
 ·intro v' w' h1 h2 h3 h4
  refine h v' w' ?_ h2 h4;unfold Own;simpa[hm]using h1
theorem NB{ops:Array Oper}{o:Oper}{a:Act}{K:Act->World->Prop}{Q:Exit->Act->World->Prop}{w:World}{E:Prop}(hw:Region.wanted o (yielded ops a.tmps)=true)(s x:Operand)
  (ho:o.op=.call {callee:=.builtin .append,args:=#[s,x],argTypes:=#[22,22]})
  (base:Nat) (v:Value) (xs:List Int) (y:Int) (ad:Addr) (hs:a.eval s=v) (hx:a.eval x=.slice (some ad) 1 1)
  (hown:Own 3 base w v xs) (hc:w.cell? ad=some (.int .i64 y)) (hl:xs.length<17592186044416) (hbase:base<=w.heap.size)
  (h:∀v' w',Own 3 base w' v' (xs++[y])->w.grownBy w' v.ownBlock->(v'.ownBlock=v.ownBlock\/v'.ownBlock=some w.heap.size)->K (a.put o.dst v') w'):
  if Region.wanted o (yielded ops a.tmps)=true then Oper.wp Tryz.prog o a w K Q else E:=by
 rw[if_pos hw];obtain⟨i0,hi,hz0,hz1,hz2⟩:=XR JH;obtain⟨v',w',hr,h2,h3,h4,h5⟩:=run_append_own_at (P:=Tryz.prog) w base 22 o.type 3 i0 (.int .i64 0) 1 8 Tryz.underlying22 hi hz0 hz1 hz2 rfl QZ v xs.length _ hown ad 1 1 [.int .i64 y] rfl
  (by
   intro j u hj
   match j with
   | 0=>simp at hj;subst hj;simpa[Addr.add]using hc
   | j+1=>simp at hj)
  (by intro u hu;simp at hu;subst hu;rfl) Qg QQ hbase
 unfold Oper.wp execOp;simp only[ho,resolve,invoke,builtin,Sem.run_bind,Sem.run_pure,Y4,List.map_toArray,List.map_cons,List.map_nil,hs,hx,hr];refine h v' w' ?_ h3 h5;unfold Own;simpa using h2
theorem qC.QXn{F G G':Nat->Prop}{w w4:World}{B:Nat}{f:Nat->Value}{S S':SS}{v4:Value}(hM:qC F G w B f S)(hGl:∀k,G k->k<w.heap.size)(hGG:∀k,G k->G' k)(hK:Xv F w w4)
  (hB:Vl w4 B f) (hs:∀k,k≠B->bQ w f k->(f 57).ownBlock≠some k->w4.heap[k]? =w.heap[k]?) (ho:Own 3 0 w4 v4 S'.Yv)
  (hv:∀k,v4.ownBlock=some k->¬F k/\G' k/\((f 57).ownBlock=some k\/w.heap.size<=k)) (hS:S'.now=S.now/\S'.told=S.told):qC F G' (w4.setCell ⟨B,57,none⟩ v4) B (KC f 57 v4) S':=by
 obtain⟨us,ho0,he0⟩:=hM.told;have hne:=hM.WU;have hsc:∀k,k≠B->(w4.setCell ⟨B,57,none⟩ v4).heap[k]? =w4.heap[k]?:=fun k hk=>Zl _ _ _ _ hk
 have hown:∀k,(f 57).ownBlock=some k->(f 56).ownBlock≠some k:=fun k hk e=>by
  rcases hM.Yv.2 with⟨h0,_⟩|⟨g,cap,cur,h0,hb',hgg,rest⟩
  ·rw[h0]at hk;simp[Value.ownBlock]at hk
  ·rw[h0]at hk
   simp only[Value.ownBlock,ZL]at hk;exact QIT
 refine {blk:=hB.set 57 v4,nB:=hM.nB,gB:=hGG _ hM.gB,now:=?_,told:=⟨us,?_,?_⟩,Yi:=?_,Yv:=?_,J3:=?_}
 ·rw[X8 QZ,JE,hS.1]
  have hn:=hM.now;cases hno:S.now with
  | none=>rw[hno]at hn;exact hn
  | some q=>
   obtain⟨c,ty⟩:=q;rw[hno]at hn;obtain⟨C,tv,h1,h2,h3,h4,h5,h6⟩:=hn;have mC:bQ w f C:=.inr (.inr ⟨C,h1,.inl rfl⟩);have mR:∀k,tv.ownBlock=some k->bQ w f k:=fun k hk=>.inr (.inr ⟨C,h1,.inr ⟨tv,h4.cell 5,hk⟩⟩)
   refine⟨C,tv,h1,h2,hGG _ h3,Za.moved h4 ?_,h5.moved fun k hk=>?_,fun k hk=>⟨(h6 k hk).1,hGG _ (h6 k hk).2.1,fun e=>?_⟩⟩
   ·rw[hsc C (hne C mC)];exact hs C (hne C mC) mC (hM.Yv.XP h4 QZ).symm
   ·rw[hsc k (hne k (mR k hk))];exact hs k (hne k (mR k hk)) (mR k hk) (h6 k hk).2.2
   ·rcases(hv k e).2.2 with h|h
    ·exact(h6 k hk).2.2 h
    ·have:=hGl k (h6 k hk).2.1;omega
 ·rw[X8 QZ]
  exact ho0.moved fun k hk=>by
   have mR:bQ w f k:=.inl hk;rw[hsc k (hne k mR)];exact hs k (hne k mR) mR (fun e=>hown k e hk)
 ·rw[hS.2]
  exact(he0.keep hK (fun _ h=>h)).keep (Xv.setCell hM.nB _) (fun _ h=>h)
 ·rw[X8 QZ];exact fun k hk=>⟨(hM.Yi k hk).1,hGG _ (hM.Yi k hk).2⟩
 ·rw[JE]
  exact ho.moved fun k hk=>hsc k (fun e=>by subst e;exact ho.XP hB QZ hk.symm)
 ·rw[JE];exact fun k hk=>⟨(hv k hk).1,(hv k hk).2.1⟩
theorem At.Yv{F0 G0 F:Nat->Prop}{w0 w w1 w4:World}{B:Nat}{f:Nat->Value}{S S':SS}{v4:Value}(h:At F0 G0 w0 F w B f S)(hb:Below w.heap.size w w1)(hg:w1.grownBy w4 (f 57).ownBlock)
  (ho:Own 3 0 w4 v4 S'.Yv) (hat:v4.ownBlock=(f 57).ownBlock\/v4.ownBlock=some w1.heap.size) (hd:zF F w (KC f 57 v4) S') (hS:S'.now=S.now/\S'.told=S.told):
  At F0 G0 w0 F (w4.setCell ⟨B,57,none⟩ v4) B (KC f 57 v4) S':=by
 have hM:=h.hf.m;have hlt:=hM.Fe h.hf.lt;have hsz:w.heap.size<=w4.heap.size:=Zf hb.size hg.size;have hsc:(w4.setCell ⟨B,57,none⟩ v4).heap.size=w4.heap.size:=size_setCell _ _ _;have hblk:∀k,k<w.heap.size->(f 57).ownBlock≠some k->w4.heap[k]? =w.heap[k]?:=fun k hk hn=>by
  exact QIe
 have hF:∀k,F k->w4.heap[k]? =w.heap[k]?:=fun k hk=>hblk k (h.gp k hk) (fun e=>(hM.J3 k e).1 hk)
 have hsame:Same F w w4:=hF;have Rb:∀k,Gx G0 w0 w k->Gx G0 w0 w4 k:=fun k hk=>by
  rcases hk with hk|hk
  ·exact .inl hk
  ·exact .inr ⟨hk.1,QQ⟩
 have hBB:w4.heap[B]? =w.heap[B]?:=hblk B (h.hf.lt B hM.gB) (hM.Yv.XP hM.blk QZ).symm;refine⟨⟨hg.os.trans (hb.os.trans h.step.os),hg.tape.trans (hb.tape.trans h.step.tape),hg.output.trans (hb.output.trans h.step.output),QEH,fun k hk hn=>?_⟩,fun k hk=>?_,h.sub,⟨?_,?_,?_,?_⟩⟩
 ·have hkB:k≠B:=fun e=>by
   subst e;rcases hM.gB with hg|hg
   ·exact hn hg
   ·omega
  rw[Zl _ _ _ _ hkB,hblk k (Zc hk h.step.size) (fun e=>by
   rcases(hM.J3 k e).2 with hg|hg
   ·exact hn hg
   ·omega)]
  exact h.step.block k hk hn
 ·rw[Zl _ _ _ _ (h.neB k hk),hF k (h.sub k hk)];exact h.same k hk
 ·rw[Gx.setCell];exact fun k hk=>Rb k (h.hf.fg k hk)
 ·rw[Gx.setCell,hsc]
  exact QLK
 ·exact(hd.keep hsame.JB hsame.blk (fun _ h=>h)).setCell hM.nB
 ·rw[Gx.setCell]
  refine hM.QXn h.hf.lt Rb hsame.JB (Za.moved hM.blk hBB) (fun k _ hm hne=>hblk k (hlt k hm) hne) ho (fun k hk=>?_) hS;rcases hat with e|e
  ·rw[e]at hk
   exact⟨(hM.J3 k hk).1,Rb k (hM.J3 k hk).2,.inl hk⟩
  ·rw[e]at hk
   simp only[ZL]at hk;subst hk;have:=ho.vz _ e;have h1:=hb.size;have h2:=h.step.size;exact⟨fun hf=>by have:=h.gp _ hf;omega,.inr ⟨QQ,this⟩,.inr QQ⟩
theorem At.typ{F0 G0 F:Nat->Prop}{w0 w w1 w4:World}{B C:Nat}{f:Nat->Value}{S S':SS}{c:C5}{ty:List Int}{tv v4:Value}{key:Int}(h:At F0 G0 w0 F w B f S)(hno:S.now=some (c,ty))(hC:f 47=.pointer (some ⟨C,0,none⟩))
  (htv:w.cell? ⟨C,5,none⟩=some tv) (hb:Below w.heap.size w w1) (hg:w1.grownBy w4 tv.ownBlock)
  (ho:Own 3 0 w4 v4 (ty++[key])) (hat:v4.ownBlock=tv.ownBlock\/v4.ownBlock=some w1.heap.size) (hS:S'={S with now:=some (c,ty++[key])}):
  At F0 G0 w0 F (w4.setCell ⟨C,5,none⟩ v4) B f S':=by
 subst hS;have hM:=h.hf.m;have hlt:=hM.Fe h.hf.lt;have hne:=hM.WU;have hno':=hM.now;rw[hno]at hno';obtain⟨C',dE,h1,h2,h3,h4,h5,h6⟩:=hno';obtain rfl:C'=C:=by
  rw[h1]at hC;simpa using hC
 obtain rfl:dE=tv:=by
  have:=h4.cell 5;rw[show w.cell? ⟨C',5,none⟩=some dE from this]at htv;simpa using htv
 have mC:bQ w f C':=.inr (.inr ⟨C',h1,.inl rfl⟩);have hCB:=hne _ mC;have hsz:w.heap.size<=w4.heap.size:=Zf hb.size hg.size;have hsc:(w4.setCell ⟨C',5,none⟩ v4).heap.size=w4.heap.size:=size_setCell _ _ _;have hcl:∀k,k≠C'->(w4.setCell ⟨C',5,none⟩ v4).heap[k]? =w4.heap[k]?:=fun k hk=>Zl _ _ _ _ hk
 have hblk:∀k,k<w.heap.size->dE.ownBlock≠some k->w4.heap[k]? =w.heap[k]?:=fun k hk hn=>by
  exact QIe
 have hall:∀k,k<w.heap.size->dE.ownBlock≠some k->k≠C'->(w4.setCell ⟨C',5,none⟩ v4).heap[k]? =w.heap[k]?:=fun k hk hn hkC=>(hcl k hkC).trans (hblk k hk hn)
 have hF:∀k,F k->(w4.setCell ⟨C',5,none⟩ v4).heap[k]? =w.heap[k]?:=fun k hk=>hall k (h.gp k hk) (fun e=>(h6 k e).1 hk) (fun e=>h2 (e▸hk))
 have hsame:Same F w (w4.setCell ⟨C',5,none⟩ v4):=hF;have Rb:∀k,Gx G0 w0 w k->Gx G0 w0 (w4.setCell ⟨C',5,none⟩ v4) k:=fun k hk=>by
  rcases hk with hk|hk
  ·exact .inl hk
  ·exact .inr ⟨hk.1,by rw[hsc];omega⟩
 have hrB:dE.ownBlock≠some B:=(h5.XP hM.blk QZ).symm;have hrC:dE.ownBlock≠some C':=(h5.XP h4 QZ).symm;obtain⟨us,ho0,he0⟩:=hM.told;have hrow:∀k,dE.ownBlock=some k->(f 56).ownBlock≠some k:=fun k hk e=>by
  rcases h5.2 with⟨h0,_⟩|⟨g,cap,cur,h0,hb',hgg,rest⟩
  ·rw[h0]at hk;simp[Value.ownBlock]at hk
  ·rw[h0]at hk
   simp only[Value.ownBlock,ZL]at hk;exact QIT
 have hv4:∀k,v4.ownBlock=some k->¬F k/\Gx G0 w0 (w4.setCell ⟨C',5,none⟩ v4) k/\(f 57).ownBlock≠some k/\k≠C':=fun k hk=>by
  rcases hat with e|e
  ·rw[e]at hk
   exact⟨(h6 k hk).1,Rb k (h6 k hk).2.1,(h6 k hk).2.2,fun e2=>hrC (e2▸hk)⟩
  ·rw[e]at hk
   simp only[ZL]at hk;subst hk;have:=ho.vz _ e;have q1:=hb.size;have q2:=h.step.size;have q3:=hlt _ mC;exact⟨fun hf=>by have:=h.gp _ hf;omega,.inr ⟨QQ,by rw[hsc];exact this⟩,fun e2=>by have:=h.hf.lt _ (hM.J3 _ e2).2;omega,fun e2=>QQ⟩
 refine⟨⟨hg.os.trans (hb.os.trans h.step.os),hg.tape.trans (hb.tape.trans h.step.tape),hg.output.trans (hb.output.trans h.step.output),QEH,fun k hk hn=>?_⟩,fun k hk=>?_,h.sub,⟨?_,?_,?_,?_⟩⟩
 ·have hnG:∀j,Gx G0 w0 w j->k≠j:=fun j hj e=>by
   subst e;rcases hj with hj|hj
   ·exact hn hj
   ·omega
  rw[hall k (Zc hk h.step.size) (fun e=>hnG k (h6 k e).2.1 rfl) (hnG C' h3)];exact h.step.block k hk hn
 ·rw[hF k (h.sub k hk)];exact h.same k hk
 ·exact fun k hk=>Rb k (h.hf.fg k hk)
 ·intro k hk
  rw[hsc];rcases hk with hk|hk
  ·exact Zc (h.hf.lt k (.inl hk)) hsz
  ·rw[hsc]at hk;exact hk.2
 ·exact {h.hf.d.keep hsame.JB hsame.blk (fun _ h=>h)with}
 ·have hBB:(w4.setCell ⟨C',5,none⟩ v4).heap[B]? =w.heap[B]?:=hall B (h.hf.lt B hM.gB) hrB (Ne.symm hCB)
  have h4':Za w4 C' #[.int .i64 c.a,.int .i64 c.b,.int .i64 c.c,.int .i64 c.d,.int .i64 c.e,dE] 162:=Za.moved h4 (hblk C' (hlt _ mC) hrC);exact {
   blk:=Za.moved hM.blk hBB
   nB:=hM.nB
   gB:=Rb _ hM.gB
   now:=⟨C',v4,h1,h2,Rb _ h3,h4'.set 5 v4,ho.moved fun k hk=>hcl k (hv4 k hk).2.2.2,fun k hk=>⟨(hv4 k hk).1,(hv4 k hk).2.1,(hv4 k hk).2.2.1⟩⟩
   told:=⟨us,ho0.moved fun k hk=>hall k (hlt k (.inl hk)) (fun e=>hrow k e hk) (fun e=>by subst e;exact ho0.XP h4 QZ hk.symm),he0.keep hsame.JB (fun _ h=>h)⟩
   Yi:=fun k hk=>⟨(hM.Yi k hk).1,Rb k (hM.Yi k hk).2⟩
   Yv:=hM.Yv.moved fun k hk=>hall k (hlt k (.inr (.inl hk))) (fun e=>(h6 k e).2.2 hk) (fun e=>by subst e;exact hM.Yv.XP h4 QZ hk.symm)
   J3:=fun k hk=>⟨(hM.J3 k hk).1,Rb k (hM.J3 k hk).2⟩}
theorem Nz{S:SS}(hno:S.now=none)(t:List Int)(p key:Int):{S.set t p with now:=S.now.map fun q=>(q.1,q.2++[key])}=S.set t p:=by
 obtain⟨a1,a2,a3,a4,a5,a6,a7,a8,a9,b1,b2,b3,b4,b5,b6,b7,b8,b9,d1,d2,d3,d4⟩:=S;simp only at hno;subst hno;rfl
end Go.Proofs.YtmdnepkekekncaaGreat
