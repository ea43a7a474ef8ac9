/- joined, no condition of its own. -/
import Derived.Test.YtmdnepkekekncaaGreatJfJ43
set_option linter.unusedVariables false
set_option linter.unusedSimpArgs false
set_option maxRecDepth 100000
set_option maxHeartbeats 12000000
namespace Go.Proofs.YtmdnepkekekncaaGreat
open Go.RowKit
theorem dS{W:World}{K:Nat}{S:SS}(h:Xz K S)(key:Int):(S.step W key).Yv.length<=S.Yv.length+363:=by
 unfold SS.step;by_cases ho:S.over=true
 ·rw[if_pos ho];omega
 ·rw[if_neg ho]
  have hi:=h.key (W:=W) key;have hv:(S.key W key).Yv=S.Yv:=by
   rcases Ns (W:=W) h key with ht|ht
   ·exact ht.Yv
   ·rw[ht];rfl
  have:=(AO hi).2
  show(_++_:List Int).length<=_
  rw[ZN,hv];exact Nat.add_le_add_left this _
theorem BV{W:World}:∀(l:List Int) {K:Nat} {S:SS},Xz K S->(S.keys W l).Yv.length<=S.Yv.length+363*l.length
 | [],K,S,h=>ZB _
 | k::l,K,S,h=>by
  have h1:=dS (W:=W) h k;have h2:=BV (W:=W) l (h.step (W:=W) k);have hs:S.keys W (k::l)=(S.step W k).keys W l:=rfl;rw[hs,Xq];omega
theorem zg{W:World}(S:SS)(l:List Int)(k:Int):S.keys W (l++[k])=(S.keys W l).step W k:=by unfold SS.keys;rw[List.foldl_append];rfl
theorem LP{W:World}(S:SS)(l m:List Int):S.keys W (l++m)=(S.keys W l).keys W m:=by unfold SS.keys;rw[List.foldl_append]
theorem At.reset{F0 G0 F:Nat->Prop}{w0 w:World}{B:Nat}{f:Nat->Value}{S:SS}(h:At F0 G0 w0 F w B f S)(p:ByteArray):
  At F0 G0 w0 (fun k=>F k\/(f 56).ownBlock=some k) (((w.setCell ⟨B,50,none⟩ (.string p)).setCell ⟨B,56,none⟩ (.slice none 0 0)).setCell ⟨B,57,none⟩ (.slice none 0 0)) B (KC (KC (KC f 50 (.string p)) 56 (.slice none 0 0)) 57 (.slice none 0 0)) {S with pend:=p,told:=[],Yv:=[]}:=by
 have h1:=h.store (S':={S with pend:=p}) 50 (.string p) {h.hf.d with pend:=rfl};have e56:f 56=KC f 50 (.string p) 56:=(X8 QZ).symm;rw[e56];clear e56;generalize w.setCell ⟨B,50,none⟩ (.string p)=w1 at *;generalize KC f 50 (.string p)=f1 at *;obtain⟨us0,ho0,-⟩:=h1.hf.m.told;have hFF:∀k,F k->F k\/(f1 56).ownBlock=some k:=fun k hk=>.inl hk
 have hM:=h1.hf.m;have hne:=hM.WU;have hs:∀k,k≠B->((w1.setCell ⟨B,56,none⟩ (.slice none 0 0)).setCell ⟨B,57,none⟩ (.slice none 0 0)).heap[k]? =w1.heap[k]?:=fun k hk=>(Zl _ _ _ _ hk).trans (Zl _ _ _ _ hk)
 have hsz:((w1.setCell ⟨B,56,none⟩ (.slice none 0 0)).setCell ⟨B,57,none⟩ (.slice none 0 0)).heap.size=w1.heap.size:=by rw[size_setCell,size_setCell]
 have lG:Gx G0 w0 ((w1.setCell ⟨B,56,none⟩ (.slice none 0 0)).setCell ⟨B,57,none⟩ (.slice none 0 0))=Gx G0 w0 w1:=by rw[Gx.setCell,Gx.setCell]
 have hd:zF F w1 (KC (KC f1 56 (.slice none 0 0)) 57 (.slice none 0 0)) {S with pend:=p,told:=[],Yv:=[]}:={h1.hf.d with};have hBo:(f1 56).ownBlock≠some B:=fun e=>hne B (.inl e) rfl
 refine⟨⟨h1.step.os,h1.step.tape,h1.step.output,by rw[hsz];exact h1.step.size,fun k hk hn=>?_⟩,fun k hk=>?_,fun k hk=>.inl (h1.sub k hk),⟨?_,?_,((hd.setCell hM.nB).setCell hM.nB).keep (Xv.refl _ _) (fun _ _ _ _ h=>h) hFF,?_⟩⟩
 ·rw[hs k (fun e=>?_)]
  ·exact h1.step.block k hk hn
  ·subst e
   exact QH2
 ·rw[hs k (h1.neB k hk)];exact h1.same k hk
 ·rw[lG]
  intro k hk;rcases hk with hk|hk
  ·exact h1.hf.fg k hk
  ·exact(hM.Yi k hk).2
 ·rw[lG,hsz];exact h1.hf.lt
 ·rw[lG]
  exact {
   blk:=(hM.blk.set 56 _).set 57 _,nB:=fun e=>by rcases e with e|e;exact hM.nB e;exact hBo e,gB:=hM.gB
   now:=by
    rw[X8 QZ,X8 QZ,JE];have hn:=hM.now;cases ho:S.now with
    | none=>rw[ho]at hn;exact hn
    | some q=>
     obtain⟨c,ty⟩:=q;rw[ho]at hn;obtain⟨C,tv,g1,g2,g3,g4,g5,g6⟩:=hn;exact⟨C,tv,g1,fun e=>by rcases e with e|e;exact g2 e;exact ho0.XP g4 QZ e.symm,g3,Za.moved g4 (hs C (hne C (.inr (.inr ⟨C,g1,.inl rfl⟩)))),g5.moved (fun k hk=>hs k (hne k (.inr (.inr ⟨C,g1,.inr ⟨tv,g4.cell 5,hk⟩⟩)))),fun k hk=>⟨fun e=>by
      rcases e with e|e
      ·exact(g6 k hk).1 e
      ·rcases g5.2 with⟨rfl,_⟩|⟨g,cap,cur,rfl,hb',hgg,rest⟩
       ·simp[Value.ownBlock]at hk
       ·simp only[Value.ownBlock,ZL]at hk
        subst hk;exact ho0.XP (show Za w1 g cur _ from hgg) QZ e.symm,(g6 k hk).2.1,by simp[Value.ownBlock]⟩⟩
   told:=⟨[],by rw[X8 QZ,JE];exact Xd.nil _ _ _,xC.nil _ _⟩
   Yi:=fun k hk=>by rw[X8 QZ,JE]at hk;simp[Value.ownBlock]at hk
   Yv:=by rw[JE];exact Yu _ _ _ _
   J3:=fun k hk=>by rw[JE]at hk;simp[Value.ownBlock]at hk}
def FdS(W0:World)(F G:Nat->Prop)(w:World)(B:Nat)(S:SS)(b:ByteArray)(e:Ending)(w':World):Prop:=
 ∃F' f',At F G w F' w' B f' (S.feed W0 b).1/\
  (((S.feed W0 b).2=0/\e=.returned (.tuple #[f' 56,f' 57,.int .i64 0]))\/((S.feed W0 b).2≠0/\e=.returned (.tuple #[.slice none 0 0,.slice none 0 0,.int .i64 (S.feed W0 b).2])))
theorem IA(W0:World)(F G:Nat->Prop)(B K:Nat)(S:SS)(b:ByteArray)(w:World)(f:Nat->Value)(hf:HF F G w B f S)(hI:Xz K S)(hP:yJ S.pend)(hK:K<=268435456):
  Calls Tryz.prog 18 #[.pointer (some ⟨B,0,none⟩),.string b] w (fun e w'=>FdS W0 F G w B S b e w'/\∀k,(f 56).ownBlock=some k->w'.heap[k]? =w.heap[k]?):=by
 have hA:=At.begin hf;have HKL:=Zy (show∀k,(f 56).ownBlock=some k->k<w.heap.size/\k≠B from fun k hk=>⟨hf.lt k (hf.m.Yi k hk).2,hf.m.WU k (.inl hk)⟩);have c55:=hf.cell 55;have CZ:=hf.cell 50;rw[hf.d.over]at c55;rw[hf.d.pend]at CZ;cases hov:S.over with
 | true=>
  rw[hov]at c55;have Li:S.feed W0 b=(S,6):=by unfold SS.feed;rw[hov];rfl
  have HA:=Zy hA;have HF:=Zy Li;clear hf hA hov Li;go_enter Tryz.func18,Tryz.ntmps18
  go_wp2;go_ret3
  exact⟨⟨F,f,by rw[HF.out];exact HA.out,.inr ⟨by rw[HF.out];exact(by decide:(6:Int)≠0),by rw[HF.out];rfl⟩⟩,fun k hk=>rfl⟩
 | false=>
  rw[hov]at c55;by_cases hb:4096<b.size
  ·have Li:S.feed W0 b=(S,2):=by unfold SS.feed;rw[if_neg (by rw[hov];decide),if_pos hb]
   have HC:=Zy (uS S.pend b w (by have:=hP.len;omega) hP.out hb);have HA:=Zy hA;have HF:=Zy Li;clear hf hA hov Li hb;go_enter Tryz.func18,Tryz.ntmps18
   go_wp2_with fail
   refine HC.out.mono ?_;rintro e w2 ⟨v2,rfl,o2,hb2⟩;obtain⟨a2,n2,k2,rfl⟩:=o2.form;go_wp2;go_ret3
   exact⟨⟨F,f,by rw[HF.out];exact HA.out.JA hb2,.inr ⟨by rw[HF.out];exact(by decide:(2:Int)≠0),by rw[HF.out];rfl⟩⟩,fun k hk=>hb2.block k (HKL.out k hk).1⟩
  ·obtain⟨L,hL⟩:∃L,L=(JU (S.pend++b)).out:=⟨_,rfl⟩
   obtain⟨pd,hpd⟩:∃pd,pd=zJ (JU (S.pend++b)).ah:=⟨_,rfl⟩;have hLl:L.length<=8200:=by
    have:=eP (S.pend++b);rw[<-hL,ByteArray.size_append]at this;have:=hP.len;omega
   obtain⟨S0,hS0⟩:∃S0:SS,S0={S with pend:=pd,told:=[],Yv:=[]}:=⟨_,rfl⟩;have Li:S.feed W0 b=(S0.keys W0 L,0):=by unfold SS.feed;rw[if_neg (by rw[hov];decide),if_neg hb,hS0,hL,hpd]
   have hI0:Xz K S0:=QFJ;have ho0:S0.over=false:=by rw[hS0];exact hov
   have ht0:S0.told=[]:=QDS;have hv0:S0.Yv=[]:=QDS;have HC:=Zy (Gg S.pend b w (by have:=hP.len;omega) hP.out QQ);rw[<-hL,<-hpd]at HC;have HTB:=Zy (show∀j,j<L.length->(S0.keys W0 (L.take j)).told.length+(K+j)+2<=4398046511103 from fun j hj=>by
    obtain⟨m,h1,h2,-⟩:=(vk (W:=W0) (L.take j) hI0 ho0 (K+L.length) QEz).told;rw[h1,ht0,List.nil_append];have h3:(L.take j).length*(K+L.length+2)<=8200*(268435456+8200+2):=Nat.mul_le_mul QEz QQ
    omega)
   have HVB:=Zy (show∀j,j<=L.length->(S0.keys W0 (L.take j)).Yv.length<=4398046511103 from fun j hj=>by
    have:=BV (W:=W0) (L.take j) hI0;rw[hv0,Zi]at this;simp at this
    omega)
   have HIB:=Zy (show∀j,j<=L.length->Xz (K+j) (S0.keys W0 (L.take j))from fun j hj=>by
    have:=Xz.keys (W:=W0) (L.take j) hI0
    rwa[Zi,YJ hj]at this)
   have HS0:=Zy hS0;have HA:=Zy hA;have HF:=Zy Li;have Vf:=Zy hLl;have hKb:K<=268435456:=hK;clear hf hA hov Li hb hL hpd hLl hS0 hI0 ho0 ht0 hv0 hI hP;go_enter Tryz.func18,Tryz.ntmps18
   go_wp2_with fail
   refine HC.out.mono ?_;rintro e w2 ⟨v2,rfl,o2,hb2⟩;obtain⟨la,ln,lc,rfl⟩:=o2.form;have hA2:=HA.out.below hb2;obtain⟨x50,z50⟩:=hA2.hf.m.blk.at 50;obtain⟨x56,z56⟩:=hA2.hf.m.blk.at 56;obtain⟨x57,z57⟩:=hA2.hf.m.blk.at 57;have hA3:=hA2.reset pd;rw[<-HS0.out]at hA3;have hsl:Yn (Fx F w w2) w2 (.slice la ln lc) L:=o2.uX.lt.imp fun k hk=>Fx.new k hk
   have nB:=hA2.hf.m.nB;have QU5:=(((hsl.Ua (i:=50) (u:=.string pd) nB).Ua (i:=56) (u:=.slice none 0 0) nB).Ua (i:=57) (u:=.slice none 0 0) nB).imp (Q:=fun k=>Fx F w w2 k\/(f 56).ownBlock=some k) (fun k h=>.inl h);have HKT:=Zy (show∀k,(f 56).ownBlock=some k->(Fx F w w2 k\/(f 56).ownBlock=some k)/\(((w2.setCell ⟨B,50,none⟩ (.string pd)).setCell ⟨B,56,none⟩ (.slice none 0 0)).setCell ⟨B,57,none⟩ (.slice none 0 0)).heap[k]? =w.heap[k]? from fun k hk=>by
    obtain⟨q1,q2⟩:=HKL.out k hk;exact⟨.inr hk,(Zl _ _ _ _ q2).trans ((Zl _ _ _ _ q2).trans ((Zl _ _ _ _ q2).trans (hb2.block k q1)))⟩)
   have hln:=hsl.get.1;have um:=Zy hA3;have bJ:=Zy QU5;have uh:=Zy hln;have QvF:ln<=8200:=by have:=Vf.out;omega
   clear hA2 hA3 hsl QU5 hb2 o2 nB c55 CZ hln;go_wp2
   go_loopw [41] (fun x wr=>∃(j:Nat) (F':Nat->Prop) (f':Nat->Value),x=.int .i64 (j:Int)/\j<=ln/\At F G w F' wr B f' (S0.keys W0 (L.take j))/\Yn F' wr (.slice la ln lc) L/\∀k,(f 56).ownBlock=some k->F' k/\wr.heap[k]? =w.heap[k]?) (fun x _=>ln-(intOf x).toNat)
   case atStart=>exact⟨0,_,_,rfl,QQ,um.out,bJ.out,HKT.out⟩
   case round=>
    obtain⟨j,F5,f5,rfl,hj,Kn,hs5,hkt⟩:=hrel;have hfin:∀(S':SS) (F6:Nat->Prop) (f6:Nat->Value) (w6:World),S'=S0.keys W0 L->At F G w F6 w6 B f6 S'->(∀k,(f 56).ownBlock=some k->w6.heap[k]? =w.heap[k]?)->FdS W0 F G w B S b (.returned (.tuple #[f6 56,f6 57,.int .i64 0])) w6/\∀k,(f 56).ownBlock=some k->w6.heap[k]? =w.heap[k]?:=fun S' F6 f6 w6 e Wy hk6=>
     ⟨⟨F6,f6,by rw[HF.out];subst e;exact Wy,.inl ⟨by rw[HF.out],rfl⟩⟩,hk6⟩
    have QWo:=Zy hfin;have HK5:=Zy hkt;clear hfin hkt;by_cases hlt:j<ln
    ·have hi0:(0:Int)<=(j:Int):=by omega
     have hin:(j:Int)<(ln:Int):=QQ;have hjt:j<L.length:=by rw[uh.out];exact hlt
     obtain⟨b1,o1,rfl,hcc⟩:=Ints.at hs5.get.2.2.2.1 hjt;have cv:=hcc j hjt;obtain⟨x55,-⟩:=Kn.hf.m.blk.at 55;rw[Kn.hf.d.over]at x55;cases hov:(S0.keys W0 (L.take j)).over with
     | true=>as_aux_lemma=>
      rw[hov]at x55;have heq:S0.keys W0 (L.take j)=S0.keys W0 L:=by
       conv=>rhs;rw[<-List.take_append_drop j L,LP]
       rw[kZ _ hov]
      obtain⟨x56,-⟩:=Kn.hf.m.blk.at 56;obtain⟨x57,-⟩:=Kn.hf.m.blk.at 57;have bz:=Zy Kn;have HEQ:=Zy heq;clear Kn hs5 hcc heq hov;go_upto_region 14 with fail
      go_region
      all_goals
       go_wp2;go_ret3
       exact QWo.out _ F5 f5 _ HEQ.out bz.out.drew (fun k hk=>(HK5.out k hk).2)
     | false=>as_aux_lemma=>
      rw[hov]at x55;have hi:=HIB.out j QQ;have HK:=Zy (QXp W0 F5 _ B (K+j) _ (ix L j) wr ⟨f5,Kn.hf⟩ hi QQ (HTB.out j hjt));have hst:((S0.keys W0 (L.take j)).key W0 (ix L j)).show=S0.keys W0 (L.take (j+1)):=by
       rw[Xx hjt,zg,<-Ya hjt];unfold SS.step;rw[hov];rfl
      have hi2:=hi.key (W:=W0) (ix L j);have hvk:((S0.keys W0 (L.take j)).key W0 (ix L j)).Yv.length<=4398046511103:=by
       have hv:((S0.keys W0 (L.take j)).key W0 (ix L j)).Yv=(S0.keys W0 (L.take j)).Yv:=by
        rcases Ns (W:=W0) hi (ix L j)with ht|ht
        ·exact ht.Yv
        ·rw[ht];rfl
       rw[hv];exact HVB.out j QQ
      have bz:=Zy Kn;have Mr:=Zy hs5;have HST:=Zy hst;have HI2:=Zy hi2;have HVK:=Zy hvk;clear Kn hs5 hcc hst hi hi2 hvk hov;generalize S0.keys W0 (L.take j)=Sj at *;go_wp2_with (first|(go_at_call 34;go_loud (refine(HK.out).mono ?_;rintro e w6 ⟨rfl,hv6⟩;obtain⟨F6,f6,Wy,Ld,BA⟩:=bz.out.call hv6;have HSH:=Zy (pF F6 _ B (K+j+1) _ w6 ⟨f6,Wy.hf⟩ HI2.out HVK.out);have HA6:=Zy Wy;have HS6:=Zy ((Mr.out.keep BA.JB).imp Ld);have HK6:=Zy (show∀k,(f 56).ownBlock=some k->F6 k/\w6.heap[k]? =w.heap[k]? from fun k hk=>⟨Ld k (HK5.out k hk).1,(BA k (HK5.out k hk).1).trans (HK5.out k hk).2⟩);clear hv6 Wy Ld BA))|(go_at_call 35;go_loud (refine(HSH.out).mono ?_;rintro e w7 ⟨rfl,hv7⟩;have HV7:=Zy hv7;clear hv7)))
      obtain⟨F7,f7,kC,QZ1,iN⟩:=HA6.out.call HV7.out;rw[HST.out]at kC;exact⟨⟨j+1,F7,f7,Qy,QQ,kC,(HS6.out.keep iN.JB).imp QZ1,fun k hk=>⟨QZ1 k (HK6.out k hk).1,(iN k (HK6.out k hk).1).trans (HK6.out k hk).2⟩⟩,Qp⟩
    ·as_aux_lemma=>
     obtain rfl:j=ln:=QQ;rw[Z6 (by rw[uh.out];exact ZB _)]at Kn;obtain⟨x56,-⟩:=Kn.hf.m.blk.at 56;obtain⟨x57,-⟩:=Kn.hf.m.blk.at 57;have bz:=Zy Kn;clear Kn hs5 hlt;go_upto_region 14 with fail
     go_region
     all_goals
      go_wp2;go_ret3
      exact QWo.out _ F5 f5 _ rfl bz.out.drew (fun k hk=>(HK5.out k hk).2)
theorem PN(W0:World)(F G:Nat->Prop)(B K:Nat)(S:SS)(b:ByteArray)(w:World)(h:YF F G w B S)(hI:Xz K S)(hP:yJ S.pend)(hK:K<=268435456):
  Calls Tryz.prog 18 #[.pointer (some ⟨B,0,none⟩),.string b] w (FdS W0 F G w B S b):=by
 obtain⟨f,hf⟩:=h;exact(IA W0 F G B K S b w f hf hI hP hK).mono fun e w' h=>h.1
structure Rw (S S':SS):Prop where
 Yv:S'.Yv=S.Yv
 row:S'.row=S.row
 rat:S'.rat=S.rat
 pend:S'.pend=S.pend
theorem Rw.trans{S T U:SS}(h:Rw S T)(g:Rw T U):Rw S U:=⟨g.Yv.trans h.Yv,g.row.trans h.row,g.rat.trans h.rat,g.pend.trans h.pend⟩
theorem Rw.Y2(S:SS):Rw S S.Y2:=⟨rfl,rfl,rfl,rfl⟩
theorem Rw.typed(S:SS)(key:Int):Rw S (S.typed key):=by
 unfold SS.typed;split
 ·exact⟨rfl,rfl,rfl,rfl⟩
 ·split
  ·exact Rw.Y2 S
  ·exact⟨rfl,rfl,rfl,rfl⟩
theorem Rw.Vw:∀(l:List Int) (S:SS),Rw S (l.foldl SS.typed S)
 | [],S=>⟨rfl,rfl,rfl,rfl⟩
 | k::l,S=>(Rw.typed S k).trans (Rw.Vw l (S.typed k))
theorem Rw.moved(S:SS)(r:Hi×List Int×Int):Rw S (S.moved r):=by
 unfold SS.moved;split
 ·exact Rw.Y2 S
 ·exact⟨rfl,rfl,rfl,rfl⟩
theorem Rw.Kz(W:World)(S:SS)(c:C5):Rw S (S.Kz W c).1:=by
 unfold SS.Kz;split
 ·exact Rw.Y2 S
 ·dsimp only
  split<;>split<;>exact⟨rfl,rfl,rfl,rfl⟩
theorem Rw.again(W:World)(S:SS)(n:Int):Rw S (S.again W n):=by
 unfold SS.again;split
 ·exact Rw.Y2 S
 ·rename_i c ty he
  dsimp only;generalize(if 0<n then({c with a:=n}:C5)else c)=c';split
  ·exact Rw.Kz W S _
  ·exact((Rw.Kz W S _).trans (Rw.Vw ty _)).trans (Rw.typed _ 27)
theorem Rw.command(W:World)(S:SS)(c:C5):Rw S (S.command W c):=by
 unfold SS.command;split
 ·exact Rw.Kz W S c
 split
 ·unfold SS.back;split<;>exact⟨rfl,rfl,rfl,rfl⟩
 split
 ·unfold SS.Kv;split<;>exact⟨rfl,rfl,rfl,rfl⟩
 split
 ·exact Rw.again W S c.a
 split
 ·exact Rw.moved S _
 split
 ·exact Rw.moved S _
 split
 ·exact Rw.moved S _
 split
 ·exact Rw.moved S _
 split
 ·exact⟨rfl,rfl,rfl,rfl⟩
 ·exact Rw.Kz W S c
theorem Rw.asked(S:SS)(key:Int):Rw S (S.asked key):=by
 unfold SS.asked;split
 ·have h:=Rw.moved ({S with mode:=0}:SS) (Dj S.XQ S.text S.ask S.older)
  exact⟨h.Yv,h.row,h.rat,h.pend⟩
 split
 ·exact⟨rfl,rfl,rfl,rfl⟩
 split
 ·split<;>exact⟨rfl,rfl,rfl,rfl⟩
 split
 ·exact Rw.Y2 S
 ·exact⟨rfl,rfl,rfl,rfl⟩
theorem Rw.key(W:World)(S:SS)(key:Int):Rw S (S.key W key):=by
 unfold SS.key;split
 ·exact⟨rfl,rfl,rfl,rfl⟩
 split
 ·exact Rw.asked S key
 split
 ·exact⟨rfl,rfl,rfl,rfl⟩
 split
 ·split
  ·exact Rw.Y2 S
  ·exact⟨rfl,rfl,rfl,rfl⟩
 split
 ·exact Rw.typed S key
 dsimp only;split
 ·have h:=Rw.command W ({S with part:=(S.JS key).part}:SS) (S.JS key).cmd
  exact⟨h.Yv,h.row,h.rat,h.pend⟩
 split
 ·exact⟨rfl,rfl,rfl,rfl⟩
 ·exact⟨rfl,rfl,rfl,rfl⟩
theorem dM(m:MS)(b:Int):(m.take b).out.length+(m.take b).ah.length<=m.out.length+m.ah.length+1:=by
 have hput:∀q:MS,(q.put b).out.length+(q.put b).ah.length<=q.out.length+q.ah.length+1:=fun q=>by
  unfold MS.put;split
  ·simp
  ·split
   ·simp
   ·simp only[ZN,Xq,List.length_nil];omega
 unfold MS.take;split
 ·rename_i h
  refine Zf (hput _) ?_;unfold MS.brk;rw[if_neg h.1];have:=Xi.2 h.1;simp;omega
 ·exact hput m
theorem MZ:∀(l:List Int) (m:MS),(l.foldl MS.take m).out.length+(l.foldl MS.take m).ah.length<=m.out.length+m.ah.length+l.length
 | [],m=>ZB _
 | b::l,m=>by
  have h1:=MZ l (m.take b);have h2:=dM m b;rw[List.foldl_cons,Xq];omega
theorem Ir(s:ByteArray):(JU s).out.length+(JU s).ah.length<=s.size:=by
 have h:=MZ (qI s) ⟨[],[]⟩;rw[JK]at h;have e:JU s=(qI s).foldl MS.take ⟨[],[]⟩:=rfl;rw[e];simpa using h
structure UI (N used:Nat) (most:Int) (S:SS) (l:List (Int×List Int)) (m:List Int):Prop where
 inv:∃K,Xz K S/\K+S.pend.size<=used/\l.length<=K*(N+2)/\m.length<=363*K
 pend:yJ S.pend
 lens:∀e∈l,e.2.length<=200
 ends:(S.over=false/\∀e∈l,e.1≠4)\/(S.over=true/\∃k,l=k++[(4,[])]/\∀e∈k,e.1≠4)
 most:S.XQ.most=most
 row:Wn m (List.replicate S.width.toNat 32,0)=(S.row,S.rat.toNat)
theorem LM{W:World}:∀(l:List Int) {K:Nat} {S:SS} (s:List Int×Nat),Xz K S->Wn S.Yv s=(S.row,S.rat.toNat)->Wn (S.keys W l).Yv s=((S.keys W l).row,(S.keys W l).rat.toNat)
 | [],K,S,s,h,hr=>hr
 | k::l,K,S,s,h,hr=>by
  have hs:S.keys W (k::l)=(S.step W k).keys W l:=rfl;rw[hs];refine LM l s (h.step (W:=W) k) ?_;unfold SS.step;by_cases ho:S.over=true
  ·rw[if_pos ho];exact hr
  ·rw[if_neg ho]
   have hi:=h.key (W:=W) k;have hk:(S.key W k).Yv=S.Yv/\(S.key W k).row=S.row/\(S.key W k).rat=S.rat:=⟨(Rw.key W S k).Yv,(Rw.key W S k).row,(Rw.key W S k).rat⟩;have hv:(S.key W k).show.Yv=(S.key W k).Yv++Io (S.key W k).row (S.key W k).rat.toNat (S.key W k).show.row (S.key W k).show.rat.toNat:=rfl;rw[hv,UT,hk.1,hr,<-hk.2.1,<-hk.2.2];exact(AO hi).1
theorem SH{W:World}(S:SS)(key:Int):(S.step W key).pend=S.pend:=by
 unfold SS.step;split
 ·rfl
 ·exact(Rw.key W S key).pend
theorem Ez{W:World}:∀(l:List Int) (S:SS),(S.keys W l).pend=S.pend
 | [],S=>rfl
 | k::l,S=>(Ez l (S.step W k)).trans (SH S k)
theorem UI.new{N:Nat}{most width:Int}(h:1<=most/\most<=50/\2<=width/\width<=120):UI N 0 most (SS.new most width) [] []:=
 {
  inv:=⟨0,Xz.new h.1 h.2.1 h.2.2.1 h.2.2.2,ZB _,Z4 _,Z4 _⟩
  pend:=yJ.nil
  lens:=fun e he=>QEA
  ends:=.inl ⟨rfl,fun e he=>QEA⟩
  most:=rfl
  row:=rfl}
theorem kE{W:World}{S:SS}{b:ByteArray}(he:(S.feed W b).2=0):S.over=false/\b.size<=4096/\(S.feed W b).1=({S with pend:=zJ (JU (S.pend++b)).ah,told:=[],Yv:=[]}:SS).keys W (JU (S.pend++b)).out:=by
 unfold SS.feed at he ⊢;by_cases h1:S.over=true
 ·rw[if_pos h1]at he;exact absurd (show(6:Int)=0 from he) QZ
 ·rw[if_neg h1]at he ⊢
  by_cases h2:4096<b.size
  ·rw[if_pos h2]at he;exact absurd (show(2:Int)=0 from he) QZ
  ·rw[if_neg h2]
   exact⟨QEX,QQ,rfl⟩
theorem UI.step{W:World}{N used:Nat}{most:Int}{S:SS}{l:List (Int×List Int)}{m:List Int}(h:UI N used most S l m)(b:ByteArray)(hN:used+b.size<=N)(he:(S.feed W b).2=0):
  UI N (used+b.size) most (S.feed W b).1 (l++(S.feed W b).1.told) (m++(S.feed W b).1.Yv):=by
 obtain⟨ho,hb,e⟩:=kE he;obtain⟨K,hI,hK,hl,hm⟩:=h.inv;have hcnt:=Ir (S.pend++b);rw[ByteArray.size_append]at hcnt;have hnext:=yJ.next (S.pend++b);have hps:=AL (JU (S.pend++b)).ah;rw[e];generalize(JU (S.pend++b)).out=L at *;generalize zJ (JU (S.pend++b)).ah=pd at *;obtain⟨S0,hS0⟩:∃S0:SS,S0={S with pend:=pd,told:=[],Yv:=[]}:=⟨_,rfl⟩;rw[<-hS0];have hI0:Xz K S0:=QFJ;have ho0:S0.over=false:=by rw[hS0];exact ho
 have ht0:S0.told=[]:=QDS;have hv0:S0.Yv=[]:=QDS;have hp0:S0.pend=pd:=QDS;have hm0:S0.XQ.most=S.XQ.most:=QDS;have hw0:S0.width=S.width:=QDS;have hr0:S0.row=S.row:=QDS;have ha0:S0.rat=S.rat:=QDS;have hk:=vk (W:=W) L hI0 ho0 N QQ;obtain⟨mm,e1,e2,e3,e4⟩:=hk.told;rw[ht0,List.nil_append]at e1;have jZ:=BV (W:=W) L hI0;rw[hv0]at jZ;have hinv:=Xz.keys (W:=W) L hI0;have hkp:=Ez (W:=W) L S0;have hkr:=LM (W:=W) L (S0.row,S0.rat.toNat) hI0 (by rw[hv0];rfl);rw[hr0,ha0]at hkr;have hkw:=hk.width;have hkm:=hk.most;clear hS0 e;generalize S0.keys W L=S' at *;have hl4:∀e∈l,e.1≠4:=by
  rcases h.ends with h|h
  ·exact h.2
  ·rw[ho]at h;exact absurd h.1 QZ
 refine {inv:=⟨K+L.length,hinv,by rw[hkp,hp0];omega,?_,?_⟩,pend:=by rw[hkp,hp0];exact hnext,lens:=fun e he=>?_,ends:=?_,most:=by rw[hkm,hm0];exact h.most,row:=?_}
 ·rw[e1,ZN,Nat.add_mul];omega
 ·rw[ZN,Nat.mul_add]
  simp at jZ;omega
 ·rcases XO.1 he with he|he
  ·exact h.lens e he
  ·rw[e1]at he;exact e3 e he
 ·rw[e1]
  rcases e4 with⟨o,q⟩|⟨o,k,rfl,q⟩
  ·refine .inl ⟨o,fun e he=>?_⟩
   rcases XO.1 he with he|he
   ·exact hl4 e he
   ·exact q e he
  ·refine .inr ⟨o,l++k,by rw[List.append_assoc],fun e he=>?_⟩
   rcases XO.1 he with he|he
   ·exact hl4 e he
   ·exact q e he
 ·rw[UT,hkw,hw0,h.row]
  exact hkr
def Fb(most width:Int)(v:Value):List Value:=
 [.pointer none,.int .i64 0,.int .i64 1]++List.replicate 27 (.slice none 0 0)++[.int .i64 0,.int .i64 0,.int .i64 0,.int .i64 0,.int .i64 0,.int .i64 0,.int .i64 0,.slice none 0 0,.int .i64 most,.int .i64 0,.slice none 0 0,.slice none 0 0,.bool false,.slice none 0 0,.slice none 0 0,.pointer none,.pointer none,.pointer none,.slice none 0 0,.bool false,.string ⟨#[]⟩,.int .i64 0,.int .i64 width,v,.int .i64 0,.bool false,.slice none 0 0,.slice none 0 0]
def gI(most width:Int)(v:Value):Nat->Value:=fun i=>(Fb most width v).getD i undef
theorem QYy(most width:Int)(v:Value):bI (gI most width v)=List.replicate 27 (.slice none 0 0):=rfl
theorem gH(F:Nat->Prop)(w:World)(most width:Int)(v:Value):Yh F w (bI (gI most width v)) (List.replicate 27 []):=by
 rw[QYy];refine⟨rfl,fun i hi=>?_⟩;rw[YD]at hi;rw[VB (by rw[YD];exact hi),Ab (by rw[YD];exact hi),List.getElem_replicate,List.getElem_replicate];exact Yn.nil _ _
theorem QYj{F G:Nat->Prop}{w:World}{B:Nat}{most width:Int}{v:Value}(hFG:∀k,F k->G k)(hG:∀k,G k->k<w.heap.size)(hb:Za w B (Fb most width v).toArray 91)(hB:¬F B)(hGB:G B)
  (hv:Yn F w v (List.replicate width.toNat 32)):HF F G w B (gI most width v) (SS.new most width):=
 {
  fg:=hFG
  lt:=hG
  d:={
   text:=Wd.nil _ _,pos:=rfl,mode:=rfl,lr:=rfl
   regs:=gH F w most width v
   fk:=rfl,fa:=rfl,p0:=rfl,p1:=rfl,p2:=rfl,p3:=rfl,p4:=rfl
   XQ:=⟨⟨[],EM.nil _ _,⟨rfl,fun i hi=>by simp[SS.new]at hi⟩⟩,rfl,rfl,Yn.nil _ _,Yn.nil _ _,rfl⟩
   RN:=rfl,Ey:=rfl,holder:=rfl,past:=nK.nil _ _,fut:=rfl,first:=Wd.nil _ _,last:=rfl,ask:=Yn.nil _ _,older:=rfl,pend:=rfl,off:=rfl,width:=rfl,row:=hv,rat:=rfl,over:=rfl}
  m:={
   blk:=hb,nB:=hB,gB:=hGB,now:=rfl,told:=⟨[],Xd.nil _ _ _,xC.nil _ _⟩,Yi:=fun k hk=>by simp[gI,Fb,Value.ownBlock]at hk
   Yv:=Yu _ _ _ _,J3:=fun k hk=>by simp[gI,Fb,Value.ownBlock]at hk}}
def QWG(most width:Int)(w:World)(e:Ending)(w':World):Prop:=
 Below w.heap.size w w'/\((¬(1<=most/\most<=50/\2<=width/\width<=120)/\e=.returned (.tuple #[.pointer none,.int .i64 1]))\/
  ((1<=most/\most<=50/\2<=width/\width<=120)/\∃B F,e=.returned (.tuple #[.pointer (some ⟨B,0,none⟩),.int .i64 0])/\YF F (fun k=>w.heap.size<=k/\k<w'.heap.size) w' B (SS.new most width)))
theorem QXo(most width:Int)(w:World):Calls Tryz.prog 28 #[.int .i64 most,.int .i64 width] w (QWG most width w):=by
 by_cases hm:most<1\/50<most
 ·have hno:¬(1<=most/\most<=50/\2<=width/\width<=120):=by omega
  have JM:=Zy hno;clear hno;by_cases h1:most<1
  ·clear hm
   exact QIp
  ·have h2:50<most:=by omega
   clear hm;exact QIp
 ·have h1:¬most<1:=by omega
  have h2:¬50<most:=QQ;clear hm;by_cases hw:width<2\/120<width
  ·have JM:=Zy (show¬(1<=most/\most<=50/\2<=width/\width<=120) from QQ)
   have HT:=Zy (E5 width w hw);clear hw;go_enter Tryz.func28,Tryz.ntmps28
   go_wp2_with fail
   refine HT.out.mono ?_;rintro e w2 ⟨rfl,hb2⟩;go_wp2;go_ret2
   exact⟨Zp.alloc hb2,.inl ⟨JM.out,rfl⟩⟩
  ·obtain⟨k,rfl⟩:=Zw (show 0<=width from QQ)
   have QyW:=Zy (show(1<=most/\most<=50/\2<=(k:Int)/\(k:Int)<=120) from QQ);have HT:=Zy (dI k w QQ QQ);clear hw;go_enter Tryz.func28,Tryz.ntmps28
   go_wp2_with fail
   refine HT.out.mono ?_;rintro e w2 ⟨v,rfl,o2,hb2⟩;obtain⟨a2,n2,c2,rfl⟩:=o2.form;have HO:=Zy o2;have HB2:=Zy hb2;clear o2 hb2;go_wp2;go_ret2
   have hb2:=HB2.out;have hz:=hb2.size;have hb4:Below w.heap.size w ((w2.alloc (.cells #[.slice a2 n2 c2,.int .i64 0] 51)).alloc (.cells (Fb most k (.slice a2 n2 c2)).toArray 91)):=Zp.alloc (Zp.alloc hb2);have hs:Yn (fun k=>w.heap.size<=k/\k<w2.heap.size) w2 (.slice a2 n2 c2) (List.replicate k 32):=HO.out.uX.lt;have hs4:=(hs.below (ZR w2 (.cells #[.slice a2 n2 c2,.int .i64 0] 51))).below (ZR _ (.cells (Fb most k (.slice a2 n2 c2)).toArray 91));have hB:=Za.new (w2.alloc (.cells #[.slice a2 n2 c2,.int .i64 0] 51)) (Fb most k (.slice a2 n2 c2)).toArray 91;have hsz:(w2.alloc (.cells #[.slice a2 n2 c2,.int .i64 0] 51)).heap.size=w2.heap.size+1:=Zu _ _;have QU0:((w2.alloc (.cells #[.slice a2 n2 c2,.int .i64 0] 51)).alloc (.cells (Fb most k (.slice a2 n2 c2)).toArray 91)).heap.size=w2.heap.size+1+1:=by rw[Zu,hsz]
   have hfin:QWG most k w (.returned (.tuple #[.pointer (some ⟨(w2.alloc (.cells #[.slice a2 n2 c2,.int .i64 0] 51)).heap.size,0,none⟩),.int .i64 0])) ((w2.alloc (.cells #[.slice a2 n2 c2,.int .i64 0] 51)).alloc (.cells (Fb most k (.slice a2 n2 c2)).toArray 91)):=
    ⟨hb4,.inr ⟨QyW.out,_,(fun k=>w.heap.size<=k/\k<w2.heap.size),rfl,_,QYj (fun j hj=>⟨hj.1,by rw[QU0];omega⟩) (fun j hj=>hj.2) hB (fun e=>by rw[hsz]at e;omega) ⟨by rw[hsz];omega,by rw[QU0,hsz];omega⟩ (by rw[XK];exact hs4)⟩⟩
   rw[hsz]at hfin;exact hfin
theorem qC.QUF{F G:Nat->Prop}{w:World}{B:Nat}{f:Nat->Value}{S:SS}(h:qC F G w B f S):∀k,bQ w f k->G k:=by
 rintro k (hk|hk|⟨C,hC,hk⟩)
 ·exact(h.Yi k hk).2
 ·exact(h.J3 k hk).2
 ·have hn:=h.now
  cases ho:S.now with
  | none=>
   exact QIH
  | some p=>
   rw[ho]at hn;obtain⟨C',tv,h1,h2,h3,h4,h5,h6⟩:=hn;rw[hC]at h1;simp only[Value.pointer.injEq,ZL,YR,and_true]at h1;subst h1;rcases hk with rfl|⟨dE,h7,h8⟩
   ·exact h3
   ·rw[show w.cell? ⟨C,5,none⟩=some tv from h4.cell 5]at h7
    simp only[ZL]at h7;subst h7;exact(h6 k h8).2.1
theorem HF.other{F G:Nat->Prop}{w w':World}{B:Nat}{f:Nat->Value}{S:SS}(h:HF F G w B f S)(hs:∀k,G k->w'.heap[k]? =w.heap[k]?)(hz:w.heap.size<=w'.heap.size):HF F G w' B f S:=by
 have hF:Same F w w':=fun k hk=>hs k (h.fg k hk)
 refine⟨h.fg,fun k hk=>Zc (h.lt k hk) hz,h.d.keep hF.JB hF.blk (fun _ h=>h),h.m.move (fun _ h=>h) hF.JB fun k hk=>hs k ?_⟩;rcases hk with rfl|hk
 ·exact h.m.gB
 ·exact h.m.QUF k hk
theorem qw(w:World)(ty:TypeId)(v:Value)(es:List V2)(base c2:Nat)(a2:Option Addr)(hown:Xd 33 base w v es)(hl:es.length<=4398046511104):
  (Builtin.append_ #[29,29] ty #[v,.slice a2 0 c2]).run Tryz.prog w=.ok v w:=by
 obtain⟨i0,hi,hz0,hz1,hz2⟩:=XR Gu;have hu:=Tryz.underlying29;rcases hown.2 with⟨rfl,h0⟩|⟨g,cap,cur,rfl,hb,hg,hn,hm,hs,ht⟩
 ·cases a2<;>simp[Builtin.append_,Y1 hu,sizeOf,typeInfo,hi,Builtin.lenOf,Builtin.firstCells,loadCells,loadCellsFrom,storeCells]
 ·cases a2<;>simp[Builtin.append_,Y1 hu,sizeOf,typeInfo,hi,Builtin.lenOf,Builtin.firstCells,loadCells,loadCellsFrom,storeCells,hn]
theorem QXV{ops:Array Oper}{rest:List Oper}{o:Oper}{a:Act}{Q:Exit->Act->World->Prop}{w:World}(hgd:o.guard=none)(s x:Operand)
  (ho:o.op=.call {callee:=.builtin .append,args:=#[s,x],argTypes:=#[29,29]})
  (base:Nat) (v:Value) (es us:List V2) (ad:Option Addr) (m c:Nat) (hs:a.eval s=v) (hx:a.eval x=.slice ad m c)
  (hown:Xd 33 base w v es) (hy:X0 w ad us) (hok:∀u∈us,V2.ok u) (hm:us.length=m) (h0:ad=none->m=0) (hl:es.length+m<=4398046511104) (hbase:base<=w.heap.size)
  (h:∀v' w',Xd 33 base w' v' (es++us)->w.grownBy w' v.ownBlock->(v'.ownBlock=v.ownBlock\/v'.ownBlock=some w.heap.size)->wpList Tryz.prog ops Q rest (a.put o.dst v') w'):
  wpList Tryz.prog ops Q (o::rest) a w:=by
 rcases Xf m with hz|hz
 ·subst hz
  obtain rfl:us=[]:=ZM hm;refine Lib.wpList_append_run w hgd s x _ _ ho v (.slice ad 0 c) hs hx v w (qw w _ v es base c ad hown QQ) ?_;exact h v w QEd ⟨rfl,rfl,rfl,ZB _,fun _ _ _=>rfl⟩ (.inl rfl)
 ·rcases ad with _|ad
  ·have:=h0 rfl;omega
  ·exact QYJ (T:=33) (ST:=29) Tryz.underlying29 Gu rfl QZ hgd s x ho base v es us ad m c hs hx hown hy hok hm hl hbase hz h
def Strs(w:World)(a:Option Addr)(T:List ByteArray):Prop:=T=[]\/∃b o,a=some ⟨b,o,none⟩/\∀i (h:i<T.length),w.cell? ⟨b,o+i,none⟩=some (.string T[i])
def Uu(T:List ByteArray):Nat:=(T.map ByteArray.size).sum
noncomputable def Ur(W:World):List ByteArray->SS->List (Int×List Int)->List Int->Option (SS×List (Int×List Int)×List Int)
 | [],S,l,m=>some (S,l,m)
 | b::T,S,l,m=>if(S.feed W b).2=0 then Ur W T (S.feed W b).1 (l++(S.feed W b).1.told) (m++(S.feed W b).1.Yv)else none
theorem Bi{W:World}{N:Nat}{most:Int}:∀(T:List ByteArray) {used:Nat} {S:SS} {l:List (Int×List Int)} {m:List Int} {S':SS} {l':List (Int×List Int)} {m':List Int},UI N used most S l m->used+Uu T<=N->Ur W T S l m=some (S',l',m')->UI N (used+Uu T) most S' l' m'
 | [],used,S,l,m,S',l',m',h,hN,e=>by
  simp only[Ur,ZL,YP]at e;obtain⟨rfl,rfl,rfl⟩:=e;exact h
 | b::T,used,S,l,m,S',l',m',h,hN,e=>by
  have hs:Uu (b::T)=b.size+Uu T:=rfl;rw[hs]at hN ⊢;unfold Ur at e;by_cases hz:(S.feed W b).2=0
  ·rw[if_pos hz]at e
   have:=Bi T (h.step (W:=W) b QQ hz) QQ e
   rwa[Nat.add_assoc]at this
  ·rw[if_neg hz]at e;cases e
structure uo (w0 w:World) (B:Nat) (G F:Nat->Prop) (f:Nat->Value) (S:SS) (v1 v2:Value) (l:List (Int×List Int)) (m:List Int):Prop where
 hf:HF F G w B f S
 ev:∃us,Xd 33 w0.heap.size w v1 us/\xC F w us l
 sg:Own 3 w0.heap.size w v2 m
 n1:∀k,v1.ownBlock=some k->¬G k
 n2:∀k,v2.ownBlock=some k->¬G k
 gl:∀k,G k->w0.heap.size<=k
 Xw:Below w0.heap.size w0 w
def QjK(W:World)(most width:Int)(T:List ByteArray)(w:World)(e:Ending)(w':World):Prop:=
 Below w.heap.size w w'/\((e=.returned (.tuple #[.pointer none,.slice none 0 0,.slice none 0 0,.bool false])/\((1<=most/\most<=50/\2<=width/\width<=120)->Ur W T (SS.new most width) [] []=none))\/
  ((1<=most/\most<=50/\2<=width/\width<=120)/\∃B G F f S v1 v2 l m,Ur W T (SS.new most width) [] []=some (S,l,m)/\e=.returned (.tuple #[.pointer (some ⟨B,0,none⟩),v1,v2,.bool true])/\uo w w' B G F f S v1 v2 l m))
theorem xC.ok{F:Nat->Prop}{w:World}{us:List V2}{es:List (Int×List Int)}(h:xC F w us es):∀u∈us,V2.ok u:=fun u hu=>by
 obtain⟨i,hi,e⟩:=XN.1 hu;obtain⟨h1,h2⟩:=h.2 i (by rw[<-h.1];exact hi);rw[jO hi,e]at h1 h2;obtain⟨a,n,c,h3⟩:=h2.form;exact⟨by rw[h1];rfl,by rw[h3];rfl⟩
theorem xC.append{F:Nat->Prop}{w:World}{us vs:List V2}{es fs:List (Int×List Int)}(h:xC F w us es)(g:xC F w vs fs):xC F w (us++vs) (es++fs):=by
 refine⟨by simp[h.1,g.1],fun i hi=>?_⟩;by_cases hlt:i<es.length
 ·rw[AY (by rw[h.1];exact hlt),List.getElem_append_left hlt]
  exact h.2 i hlt
 ·obtain⟨k,rfl⟩:∃k,i=es.length+k:=⟨i-es.length,QQ⟩
  have h1:xG (us++vs) (es.length+k)=xG vs k:=by rw[<-h.1];exact jN
  rw[h1,List.getElem_append_right QQ];simp only[Nat.add_sub_cancel_left];exact g.2 k (by rw[ZN]at hi;omega)
theorem Own.blk{e:TypeId}{base:Nat}{w:World}{v:Value}{xs:List Int}(h:Own e base w v xs){k:Nat}(hk:v.ownBlock=some k):∃cur,Za w k cur e:=by
 rcases h.2 with⟨h0,_⟩|⟨g,cap,cur,h0,hb',hgg,rest⟩
 ·rw[h0]at hk;simp[Value.ownBlock]at hk
 ·rw[h0]at hk
  simp only[Value.ownBlock,ZL]at hk;subst hk;exact⟨cur,hgg⟩
theorem uo.feed{w0 w w6:World}{B:Nat}{G F F6:Nat->Prop}{f f6:Nat->Value}{S S6:SS}{v1 v2:Value}{l:List (Int×List Int)}{m:List Int}(h:uo w0 w B G F f S v1 v2 l m)(hA:At F G w F6 w6 B f6 S6):
  uo w0 w6 B (Gx G w w6) F6 f6 S6 v1 v2 l m:=by
 obtain⟨us,h1,h2⟩:=h.ev;have hz:=hA.step.size;have hb:∀k,k<w.heap.size->¬G k->w6.heap[k]? =w.heap[k]?:=hA.step.block;refine⟨hA.hf,⟨us,h1.moved fun k hk=>hb k (h1.lt k hk) (h.n1 k hk),h2.keep hA.same.JB hA.sub⟩,h.sg.moved fun k hk=>hb k (h.sg.vz k hk) (h.n2 k hk),fun k hk e=>?_,fun k hk e=>?_,fun k hk=>?_,⟨hA.step.os.trans h.Xw.os,hA.step.tape.trans h.Xw.tape,hA.step.output.trans h.Xw.output,Zf h.Xw.size hz,fun k hk=>?_⟩⟩
 ·rcases e with e|e
  ·exact h.n1 k hk e
  ·have:=h1.lt k hk;omega
 ·rcases e with e|e
  ·exact h.n2 k hk e
  ·have:=h.sg.vz k hk;omega
 ·rcases hk with hk|hk
  ·exact h.gl k hk
  ·have:=h.Xw.size;omega
 ·rw[hb k (Zc hk h.Xw.size) (fun e=>by have:=h.gl k e;omega)]
  exact h.Xw.block k hk
theorem uo.evs{w0 w w7:World}{B:Nat}{G F:Nat->Prop}{f:Nat->Value}{S:SS}{v1 v2 v7:Value}{l fs:List (Int×List Int)}{m:List Int}{us vs:List V2}(h:uo w0 w B G F f S v1 v2 l m)(hu:Xd 33 w0.heap.size w v1 us)(hl:xC F w us l)(hf:xC F w vs fs)
  (o:Xd 33 w0.heap.size w7 v7 (us++vs)) (hg:w.grownBy w7 v1.ownBlock) (hat:v7.ownBlock=v1.ownBlock\/v7.ownBlock=some w.heap.size):uo w0 w7 B G F f S v7 v2 (l++fs) m:=by
 have hG:∀k,G k->w7.heap[k]? =w.heap[k]?:=fun k hk=>hg.block k (h.hf.lt k hk) (fun e=>h.n1 k e.symm hk)
 have hF:Same F w w7:=fun k hk=>hG k (h.hf.fg k hk)
 refine⟨h.hf.other hG hg.size,⟨us++vs,o,(hl.append hf).keep hF.JB (fun _ h=>h)⟩,h.sg.moved fun k hk=>hg.block k (h.sg.vz k hk) (fun e=>?_),fun k hk e=>?_,h.n2,h.gl,h.Xw.grown hg h.Xw.size fun k hk=>hu.row k hk⟩
 ·obtain⟨cur,hc⟩:=h.sg.blk hk
  exact hu.XP hc QZ e
 ·rcases hat with q|q
  ·rw[q]at hk;exact h.n1 k hk e
  ·rw[q]at hk
   simp only[ZL]at hk;have:=h.hf.lt k e;omega
theorem uo.sgs{w0 w w8:World}{B:Nat}{G F:Nat->Prop}{f:Nat->Value}{S:SS}{v1 v2 v8:Value}{l:List (Int×List Int)}{m ms:List Int}(h:uo w0 w B G F f S v1 v2 l m)
  (o:Own 3 w0.heap.size w8 v8 (m++ms)) (hg:w.grownBy w8 v2.ownBlock) (hat:v8.ownBlock=v2.ownBlock\/v8.ownBlock=some w.heap.size):uo w0 w8 B G F f S v1 v8 l (m++ms):=by
 have hG:∀k,G k->w8.heap[k]? =w.heap[k]?:=fun k hk=>hg.block k (h.hf.lt k hk) (fun e=>h.n2 k e.symm hk)
 have hF:Same F w w8:=fun k hk=>hG k (h.hf.fg k hk)
 obtain⟨us,h1,h2⟩:=h.ev;refine⟨h.hf.other hG hg.size,⟨us,h1.moved fun k hk=>hg.block k (h1.lt k hk) (fun e=>?_),h2.keep hF.JB (fun _ h=>h)⟩,o,h.n1,fun k hk e=>?_,h.gl,h.Xw.grown hg h.Xw.size fun k hk=>h.sg.row k hk⟩
 ·obtain⟨cur,hc⟩:=h.sg.blk e.symm
  exact h1.XP hc QZ hk.symm
 ·rcases hat with q|q
  ·rw[q]at hk;exact h.n2 k hk e
  ·rw[q]at hk
   simp only[ZL]at hk;have:=h.hf.lt k e;omega
theorem SG{T:List ByteArray}{j:Nat}(hj:j<T.length):Uu (T.take (j+1))=Uu (T.take j)+T[j].size:=by
 unfold Uu;rw[Xx hj,List.map_append,List.sum_append,List.map_cons,List.map_nil,List.sum_cons,List.sum_nil,Yq]
theorem ry{T:List ByteArray}(j:Nat):Uu (T.take j)<=Uu T:=by
 have:Uu T=Uu (T.take j)+Uu (T.drop j):=by
  unfold Uu;rw[<-List.sum_append,<-List.map_append,List.take_append_drop]
 omega
end Go.Proofs.YtmdnepkekekncaaGreat
