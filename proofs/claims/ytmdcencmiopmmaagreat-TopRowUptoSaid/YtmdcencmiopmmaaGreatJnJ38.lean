/- joined, no condition of its own. -/
import Derived.Test.YtmdcencmiopmmaaGreatJnT
import Derived.Test.YtmdcencmiopmmaaGreatJnJ1
import Derived.Test.YtmdcencmiopmmaaGreatJnJ19
import Derived.Test.YtmdcencmiopmmaaGreatJnJ37
set_option linter.unusedVariables false
set_option linter.unusedSimpArgs false
set_option maxRecDepth 100000
set_option maxHeartbeats 12000000
namespace Go.Proofs.YtmdcencmiopmmaaGreat
open Go.RowKit
theorem QXB{ops:Array Oper}{rest:List Oper}{o:Oper}{a:Act}{Q:Exit->Act->World->Prop}{w:World}(hgd:o.guard=none)(s x:Operand)
  (ho:o.op=.call {callee:=.builtin .append,args:=#[s,x],argTypes:=#[26,26]})
  (base:Nat) (v:Value) (xs ys:List Int) (ad:Addr) (m c:Nat) (hs:a.eval s=v) (hx:a.eval x=.slice (some ad) m c)
  (hown:Own 3 base w v xs) (hy:Ints w (some ad) ys) (hm:ys.length=m) (hl:xs.length+m<=17592186044416) (hbase:base<=w.heap.size)
  (h:∀v' w',Own 3 base w' v' (xs++ys)->w.grownBy w' v.ownBlock->(v'.ownBlock=v.ownBlock\/v'.ownBlock=some w.heap.size)->wpList Tryz.prog ops Q rest (a.put o.dst v') w'):
  wpList Tryz.prog ops Q (o::rest) a w:=by
 obtain⟨i0,hi,hz0,hz1,hz2⟩:=Xf JI;refine wpList_append_own_at w hgd s x 26 ho base 3 i0 (.int .i64 0) 1 8 Tryz.underlying26 hi hz0 hz1 hz2 rfl QZ v xs.length _ hs hown ad m c (ys.map (Value.int .i64)) hx (by simp[hm]) ?_ ?_ ?_ ?_ hbase ?_
 ·intro j u hj
  exact QDr
 ·intro u hu
  obtain⟨y,_,rfl⟩:=List.mem_map.1 hu;rfl
 ·unfold maxLen;omega
 ·omega
 ·intro v' w' h1 h2 h3 h4
  refine h v' w' ?_ h2 h4;unfold Own;simpa[hm]using h1
theorem MQ{ops:Array Oper}{o:Oper}{a:Act}{K:Act->World->Prop}{Q:Exit->Act->World->Prop}{w:World}{E:Prop}(hw:Region.wanted o (yielded ops a.tmps)=true)(s x:Operand)
  (ho:o.op=.call {callee:=.builtin .append,args:=#[s,x],argTypes:=#[26,26]})
  (base:Nat) (v:Value) (xs:List Int) (y:Int) (ad:Addr) (hs:a.eval s=v) (hx:a.eval x=.slice (some ad) 1 1)
  (hown:Own 3 base w v xs) (hc:w.cell? ad=some (.int .i64 y)) (hl:xs.length<17592186044416) (hbase:base<=w.heap.size)
  (h:∀v' w',Own 3 base w' v' (xs++[y])->w.grownBy w' v.ownBlock->(v'.ownBlock=v.ownBlock\/v'.ownBlock=some w.heap.size)->K (a.put o.dst v') w'):
  if Region.wanted o (yielded ops a.tmps)=true then Oper.wp Tryz.prog o a w K Q else E:=by
 rw[if_pos hw];obtain⟨i0,hi,hz0,hz1,hz2⟩:=Xf JI;obtain⟨v',w',hr,h2,h3,h4,h5⟩:=run_append_own_at (P:=Tryz.prog) w base 26 o.type 3 i0 (.int .i64 0) 1 8 Tryz.underlying26 hi hz0 hz1 hz2 rfl QZ v xs.length _ hown ad 1 1 [.int .i64 y] rfl
  (by
   intro j u hj
   match j with
   | 0=>simp at hj;subst hj;simpa[Addr.add]using hc
   | j+1=>simp at hj)
  (by intro u hu;simp at hu;subst hu;rfl) Qo QQ hbase
 unfold Oper.wp execOp;simp only[ho,resolve,invoke,builtin,Sem.run_bind,Sem.run_pure,Yr,List.map_toArray,List.map_cons,List.map_nil,hs,hx,hr];refine h v' w' ?_ h3 h5;unfold Own;simpa using h2
theorem W9.QQN{F G G':Nat->Prop}{w w4:World}{B:Nat}{f:Nat->Value}{S S':SS}{v4:Value}(hM:W9 F G w B f S)(hGl:∀k,G k->k<w.heap.size)(nE:∀k,G k->G' k)(hK:Xv F w w4)
  (hB:VF w4 B f) (hs:∀k,k≠B->Sk w f k->(f 57).ownBlock≠some k->w4.heap[k]? =w.heap[k]?) (ho:Own 3 0 w4 v4 S'.YC)
  (hv:∀k,v4.ownBlock=some k->¬F k/\G' k/\((f 57).ownBlock=some k\/w.heap.size<=k)) (hS:S'.now=S.now/\S'.told=S.told):W9 F G' (w4.setCell ⟨B,57,none⟩ v4) B (KR f 57 v4) S':=by
 obtain⟨us,ho0,he0⟩:=hM.told;have hne:=hM.WO;have hsc:∀k,k≠B->(w4.setCell ⟨B,57,none⟩ v4).heap[k]? =w4.heap[k]?:=fun k hk=>Zm _ _ _ _ hk
 have hown:∀k,(f 57).ownBlock=some k->(f 56).ownBlock≠some k:=fun k hk e=>by
  rcases hM.YC.2 with⟨h0,_⟩|⟨g,cap,cur,h0,hb',hgg,rest⟩
  ·rw[h0]at hk;simp[Value.ownBlock]at hk
  ·rw[h0]at hk
   simp only[Value.ownBlock,ZM]at hk;exact QFx
 refine {blk:=hB.set 57 v4,nB:=hM.nB,gB:=nE _ hM.gB,now:=?_,told:=⟨us,?_,?_⟩,Y0:=?_,YC:=?_,J6:=?_}
 ·rw[X7 QZ,JF,hS.1]
  have hn:=hM.now;cases hno:S.now with
  | none=>rw[hno]at hn;exact hn
  | some q=>
   obtain⟨c,ty⟩:=q;rw[hno]at hn;obtain⟨C,tv,h1,h2,h3,h4,h5,h6⟩:=hn;have mC:Sk w f C:=.inr (.inr ⟨C,h1,.inl rfl⟩);have mR:∀k,tv.ownBlock=some k->Sk w f k:=fun k hk=>.inr (.inr ⟨C,h1,.inr ⟨tv,h4.cell 5,hk⟩⟩)
   refine⟨C,tv,h1,h2,nE _ h3,Za.moved h4 ?_,h5.moved fun k hk=>?_,fun k hk=>⟨(h6 k hk).1,nE _ (h6 k hk).2.1,fun e=>?_⟩⟩
   ·rw[hsc C (hne C mC)];exact hs C (hne C mC) mC (hM.YC.Xa h4 QZ).symm
   ·rw[hsc k (hne k (mR k hk))];exact hs k (hne k (mR k hk)) (mR k hk) (h6 k hk).2.2
   ·rcases(hv k e).2.2 with h|h
    ·exact(h6 k hk).2.2 h
    ·have:=hGl k (h6 k hk).2.1;omega
 ·rw[X7 QZ]
  exact ho0.moved fun k hk=>by
   have mR:Sk w f k:=.inl hk;rw[hsc k (hne k mR)];exact hs k (hne k mR) mR (fun e=>hown k e hk)
 ·rw[hS.2]
  exact(he0.keep hK (fun _ h=>h)).keep (Xv.setCell hM.nB _) (fun _ h=>h)
 ·rw[X7 QZ];exact fun k hk=>⟨(hM.Y0 k hk).1,nE _ (hM.Y0 k hk).2⟩
 ·rw[JF]
  exact ho.moved fun k hk=>hsc k (fun e=>by subst e;exact ho.Xa hB QZ hk.symm)
 ·rw[JF];exact fun k hk=>⟨(hv k hk).1,(hv k hk).2.1⟩
theorem At.YC{F0 G0 F:Nat->Prop}{w0 w w1 w4:World}{B:Nat}{f:Nat->Value}{S S':SS}{v4:Value}(h:At F0 G0 w0 F w B f S)(hb:Below w.heap.size w w1)(hg:w1.grownBy w4 (f 57).ownBlock)
  (ho:Own 3 0 w4 v4 S'.YC) (hat:v4.ownBlock=(f 57).ownBlock\/v4.ownBlock=some w1.heap.size) (hd:qi F w (KR f 57 v4) S') (hS:S'.now=S.now/\S'.told=S.told):
  At F0 G0 w0 F (w4.setCell ⟨B,57,none⟩ v4) B (KR f 57 v4) S':=by
 have hM:=h.hf.m;have hlt:=hM.EH h.hf.lt;have hsz:w.heap.size<=w4.heap.size:=Zh hb.size hg.size;have hsc:(w4.setCell ⟨B,57,none⟩ v4).heap.size=w4.heap.size:=size_setCell _ _ _;have hblk:∀k,k<w.heap.size->(f 57).ownBlock≠some k->w4.heap[k]? =w.heap[k]?:=fun k hk hn=>by
  exact QFv
 have hF:∀k,F k->w4.heap[k]? =w.heap[k]?:=fun k hk=>hblk k (h.bF k hk) (fun e=>(hM.J6 k e).1 hk)
 have hsame:Same F w w4:=hF;have Oc:∀k,Gx G0 w0 w k->Gx G0 w0 w4 k:=fun k hk=>by
  rcases hk with hk|hk
  ·exact .inl hk
  ·exact .inr ⟨hk.1,QQ⟩
 have nI:w4.heap[B]? =w.heap[B]?:=hblk B (h.hf.lt B hM.gB) (hM.YC.Xa hM.blk QZ).symm;refine⟨⟨hg.os.trans (hb.os.trans h.step.os),hg.tape.trans (hb.tape.trans h.step.tape),hg.output.trans (hb.output.trans h.step.output),QBz,fun k hk hn=>?_⟩,fun k hk=>?_,h.sub,⟨?_,?_,?_,?_⟩⟩
 ·have hkB:k≠B:=fun e=>by
   subst e;rcases hM.gB with hg|hg
   ·exact hn hg
   ·omega
  rw[Zm _ _ _ _ hkB,hblk k (Zc hk h.step.size) (fun e=>by
   rcases(hM.J6 k e).2 with hg|hg
   ·exact hn hg
   ·omega)]
  exact h.step.block k hk hn
 ·rw[Zm _ _ _ _ (h.sG k hk),hF k (h.sub k hk)];exact h.same k hk
 ·rw[Gx.setCell];exact fun k hk=>Oc k (h.hf.fg k hk)
 ·rw[Gx.setCell,hsc]
  exact QFi
 ·exact(hd.keep hsame.JB hsame.blk (fun _ h=>h)).setCell hM.nB
 ·rw[Gx.setCell]
  refine hM.QQN h.hf.lt Oc hsame.JB (Za.moved hM.blk nI) (fun k _ hm hne=>hblk k (hlt k hm) hne) ho (fun k hk=>?_) hS;rcases hat with e|e
  ·rw[e]at hk
   exact⟨(hM.J6 k hk).1,Oc k (hM.J6 k hk).2,.inl hk⟩
  ·rw[e]at hk
   simp only[ZM]at hk;subst hk;have:=ho.uq _ e;have h1:=hb.size;have h2:=h.step.size;exact⟨fun hf=>by have:=h.bF _ hf;omega,.inr ⟨QQ,this⟩,.inr QQ⟩
theorem At.typ{F0 G0 F:Nat->Prop}{w0 w w1 w4:World}{B C:Nat}{f:Nat->Value}{S S':SS}{c:C5}{ty:List Int}{tv v4:Value}{key:Int}(h:At F0 G0 w0 F w B f S)(hno:S.now=some (c,ty))(hC:f 47=.pointer (some ⟨C,0,none⟩))
  (htv:w.cell? ⟨C,5,none⟩=some tv) (hb:Below w.heap.size w w1) (hg:w1.grownBy w4 tv.ownBlock)
  (ho:Own 3 0 w4 v4 (ty++[key])) (hat:v4.ownBlock=tv.ownBlock\/v4.ownBlock=some w1.heap.size) (hS:S'={S with now:=some (c,ty++[key])}):
  At F0 G0 w0 F (w4.setCell ⟨C,5,none⟩ v4) B f S':=by
 subst hS;have hM:=h.hf.m;have hlt:=hM.EH h.hf.lt;have hne:=hM.WO;have hno':=hM.now;rw[hno]at hno';obtain⟨C',TL,h1,h2,h3,h4,h5,h6⟩:=hno';obtain rfl:C'=C:=by
  rw[h1]at hC;simpa using hC
 obtain rfl:TL=tv:=by
  have:=h4.cell 5;rw[show w.cell? ⟨C',5,none⟩=some TL from this]at htv;simpa using htv
 have mC:Sk w f C':=.inr (.inr ⟨C',h1,.inl rfl⟩);have hCB:=hne _ mC;have hsz:w.heap.size<=w4.heap.size:=Zh hb.size hg.size;have hsc:(w4.setCell ⟨C',5,none⟩ v4).heap.size=w4.heap.size:=size_setCell _ _ _;have hcl:∀k,k≠C'->(w4.setCell ⟨C',5,none⟩ v4).heap[k]? =w4.heap[k]?:=fun k hk=>Zm _ _ _ _ hk
 have hblk:∀k,k<w.heap.size->TL.ownBlock≠some k->w4.heap[k]? =w.heap[k]?:=fun k hk hn=>by
  exact QFv
 have hall:∀k,k<w.heap.size->TL.ownBlock≠some k->k≠C'->(w4.setCell ⟨C',5,none⟩ v4).heap[k]? =w.heap[k]?:=fun k hk hn hkC=>(hcl k hkC).trans (hblk k hk hn)
 have hF:∀k,F k->(w4.setCell ⟨C',5,none⟩ v4).heap[k]? =w.heap[k]?:=fun k hk=>hall k (h.bF k hk) (fun e=>(h6 k e).1 hk) (fun e=>h2 (e▸hk))
 have hsame:Same F w (w4.setCell ⟨C',5,none⟩ v4):=hF;have Oc:∀k,Gx G0 w0 w k->Gx G0 w0 (w4.setCell ⟨C',5,none⟩ v4) k:=fun k hk=>by
  rcases hk with hk|hk
  ·exact .inl hk
  ·exact .inr ⟨hk.1,by rw[hsc];omega⟩
 have hrB:TL.ownBlock≠some B:=(h5.Xa hM.blk QZ).symm;have hrC:TL.ownBlock≠some C':=(h5.Xa h4 QZ).symm;obtain⟨us,ho0,he0⟩:=hM.told;have hrow:∀k,TL.ownBlock=some k->(f 56).ownBlock≠some k:=fun k hk e=>by
  rcases h5.2 with⟨h0,_⟩|⟨g,cap,cur,h0,hb',hgg,rest⟩
  ·rw[h0]at hk;simp[Value.ownBlock]at hk
  ·rw[h0]at hk
   simp only[Value.ownBlock,ZM]at hk;exact QFx
 have hv4:∀k,v4.ownBlock=some k->¬F k/\Gx G0 w0 (w4.setCell ⟨C',5,none⟩ v4) k/\(f 57).ownBlock≠some k/\k≠C':=fun k hk=>by
  rcases hat with e|e
  ·rw[e]at hk
   exact⟨(h6 k hk).1,Oc k (h6 k hk).2.1,(h6 k hk).2.2,fun e2=>hrC (e2▸hk)⟩
  ·rw[e]at hk
   simp only[ZM]at hk;subst hk;have:=ho.uq _ e;have q1:=hb.size;have q2:=h.step.size;have q3:=hlt _ mC;exact⟨fun hf=>by have:=h.bF _ hf;omega,.inr ⟨QQ,by rw[hsc];exact this⟩,fun e2=>by have:=h.hf.lt _ (hM.J6 _ e2).2;omega,fun e2=>QQ⟩
 refine⟨⟨hg.os.trans (hb.os.trans h.step.os),hg.tape.trans (hb.tape.trans h.step.tape),hg.output.trans (hb.output.trans h.step.output),QBz,fun k hk hn=>?_⟩,fun k hk=>?_,h.sub,⟨?_,?_,?_,?_⟩⟩
 ·have hnG:∀j,Gx G0 w0 w j->k≠j:=fun j hj e=>by
   subst e;rcases hj with hj|hj
   ·exact hn hj
   ·omega
  rw[hall k (Zc hk h.step.size) (fun e=>hnG k (h6 k e).2.1 rfl) (hnG C' h3)];exact h.step.block k hk hn
 ·rw[hF k (h.sub k hk)];exact h.same k hk
 ·exact fun k hk=>Oc k (h.hf.fg k hk)
 ·intro k hk
  rw[hsc];rcases hk with hk|hk
  ·exact Zc (h.hf.lt k (.inl hk)) hsz
  ·rw[hsc]at hk;exact hk.2
 ·exact {h.hf.d.keep hsame.JB hsame.blk (fun _ h=>h)with}
 ·have nI:(w4.setCell ⟨C',5,none⟩ v4).heap[B]? =w.heap[B]?:=hall B (h.hf.lt B hM.gB) hrB (Ne.symm hCB)
  have h4':Za w4 C' #[.int .i64 c.a,.int .i64 c.b,.int .i64 c.c,.int .i64 c.d,.int .i64 c.e,TL] 219:=Za.moved h4 (hblk C' (hlt _ mC) hrC);exact {
   blk:=Za.moved hM.blk nI
   nB:=hM.nB
   gB:=Oc _ hM.gB
   now:=⟨C',v4,h1,h2,Oc _ h3,h4'.set 5 v4,ho.moved fun k hk=>hcl k (hv4 k hk).2.2.2,fun k hk=>⟨(hv4 k hk).1,(hv4 k hk).2.1,(hv4 k hk).2.2.1⟩⟩
   told:=⟨us,ho0.moved fun k hk=>hall k (hlt k (.inl hk)) (fun e=>hrow k e hk) (fun e=>by subst e;exact ho0.Xa h4 QZ hk.symm),he0.keep hsame.JB (fun _ h=>h)⟩
   Y0:=fun k hk=>⟨(hM.Y0 k hk).1,Oc k (hM.Y0 k hk).2⟩
   YC:=hM.YC.moved fun k hk=>hall k (hlt k (.inr (.inl hk))) (fun e=>(h6 k e).2.2 hk) (fun e=>by subst e;exact hM.YC.Xa h4 QZ hk.symm)
   J6:=fun k hk=>⟨(hM.J6 k hk).1,Oc k (hM.J6 k hk).2⟩}
theorem Lr{S:SS}(hno:S.now=none)(t:List Int)(p key:Int):{S.set t p with now:=S.now.map fun q=>(q.1,q.2++[key])}=S.set t p:=by
 obtain⟨a1,a2,a3,a4,a5,a6,a7,a8,a9,b1,b2,b3,b4,b5,b6,b7,b8,b9,d1,d2,d3,d4⟩:=S;simp only at hno;subst hno;rfl
theorem oq(I:In)(hI:Je I)(fk fa:Int)(cm:C5)(hc0:0<=cm.a)(hc1:cm.a<=999):
  Calls Tryz.prog 202 #[.agg #[.slice I.a I.n I.c,.int .i64 (I.k:Int)],.agg (XP I.vs),.agg #[.int .i64 fk,.int .i64 fa],.agg #[.int .i64 cm.a,.int .i64 cm.b,.int .i64 cm.c,.int .i64 cm.d,.int .i64 cm.e]] I.w0 (gq (Lj I cm fk fa).1 (Lj I cm fk fa).2 I.w0):=by
 have hlE:lnE I.n I.k=0:=by
  have:=hI.top;have:=hI.k1;unfold lnE;rw[if_neg QQ,if_neg QQ]
 have hlv:=hI.MB.lv;have HI:=Zy hI;have HD:=Zy (fun(w:World) (hb:Below I.w0.heap.size I.w0 w)=>ou hI cm hb);have HT:=Zy (show I.t.length=I.n from hI.len);have htop:=hI.top;have HR:=Zy (fun(wx:World) (hb:Below I.w0.heap.size I.w0 wx)=>hI.ints.below hb);have HN0:=Zy hI.none;clear hI;have QKV:I.X.length=27:=HI.out.MB.lx;have HDR:=Zy (show Lj I cm fk fa=Lj I cm fk fa from rfl);obtain⟨w,a,n,c,t,k,vs,X⟩:=I;dsimp only at *;have hal:=Dz;have hbl:=R7;have HE:=Zy hlE;clear hlE;have hbx:=QXv w #[.slice a n c,.int .i64 (k:Int)] #[.int .i64 fk,.int .i64 fa] #[.int .i64 cm.a,.int .i64 cm.b,.int .i64 cm.c,.int .i64 cm.d,.int .i64 cm.e] vs YJ 30 36 34 87 277;dsimp only at hbx;rw[show XP YJ=#[.slice none 0 0,.int .i64 0,.slice none 0 0,.slice none 0 0,.slice none 0 0,.slice none 0 0,.slice none 0 0,.slice none 0 0,.slice none 0 0,.slice none 0 0,.slice none 0 0,.slice none 0 0,.slice none 0 0,.slice none 0 0,.slice none 0 0,.slice none 0 0,.slice none 0 0,.slice none 0 0,.slice none 0 0,.slice none 0 0,.slice none 0 0,.slice none 0 0,.slice none 0 0,.slice none 0 0,.slice none 0 0,.slice none 0 0,.slice none 0 0,.slice none 0 0,.slice none 0 0,.int .i64 0,.int .i64 0,.int .i64 0,.slice none 0 0]from rfl]at hbx;go_enter Tryz.func202,Tryz.ntmps202
 go_upto_region 1 with fail
 generalize(((((w.alloc (.cells #[.slice a n c,.int .i64 (k:Int)] 30)).alloc (.cells (XP vs) 36)).alloc (.cells #[.int .i64 fk,.int .i64 fa] 34)).alloc (.cells #[.int .i64 cm.a,.int .i64 cm.b,.int .i64 cm.c,.int .i64 cm.d,.int .i64 cm.e] 87)).alloc (.cells #[.slice none 0 0,.int .i64 0,.slice none 0 0,.slice none 0 0,.slice none 0 0,.slice none 0 0,.slice none 0 0,.slice none 0 0,.slice none 0 0,.slice none 0 0,.slice none 0 0,.slice none 0 0,.slice none 0 0,.slice none 0 0,.slice none 0 0,.slice none 0 0,.slice none 0 0,.slice none 0 0,.slice none 0 0,.slice none 0 0,.slice none 0 0,.slice none 0 0,.slice none 0 0,.slice none 0 0,.slice none 0 0,.slice none 0 0,.slice none 0 0,.slice none 0 0,.slice none 0 0,.int .i64 0,.int .i64 0,.int .i64 0,.slice none 0 0] 277))=w5 at *;obtain⟨hLn,hRg,hFd,hCm,hZ,hbw,hsz⟩:=hbx;obtain⟨l0,l1,-,-⟩:=hLn.two;go_upto_region 7 with(first|(go_at_call 228;go_loud (refine(Nz a n c (k:Int) _).mono ?_;rintro e w8 ⟨rfl,XF⟩;rw[HE.out];have hZ8:=hZ.below XF hZ.lt;have qY:=Zy (hbw.trans (XF.mono QQ));have JY:=hCm.below XF hCm.lt;obtain⟨d0,d1,d2,d3,d4⟩:=Za.five JY;have QZl:=hLn.below XF hLn.lt;obtain⟨p0,p1,-,-⟩:=Za.two QZl;have QUV:=Zy QZl;clear QZl;have QXR:=Zy (hRg.below XF hRg.lt);have QUy:=Zy (hFd.below XF hFd.lt);have O0:=Zy JY;clear JY XF))|(refine Uk rfl _ rfl (w.heap.size+1) rfl vs _ QXR.out hlv ?_)|((with_reducible show wpList _ _ _ (⟨_,Op.build _ _,_,_,_,_⟩::_) _ _);refine Nj rfl _ _ _ rfl a n c (k:Int) vs cm rfl rfl rfl hlv ?_))
 have h9:=HD.out w8 qY.out;have QZi:=QUV.out.alloc (.cells (XP (Vu a n c (k:Int) vs cm)) 302);have QKx:=QXR.out.alloc (.cells (XP (Vu a n c (k:Int) vs cm)) 302);have QZr:=QUy.out.alloc (.cells (XP (Vu a n c (k:Int) vs cm)) 302);have hC9:=O0.out.alloc (.cells (XP (Vu a n c (k:Int) vs cm)) 302);have hZ9:=hZ8.alloc (.cells (XP (Vu a n c (k:Int) vs cm)) 302);have Jv:=qY.out.alloc qY.out.size (.cells (XP (Vu a n c (k:Int) vs cm)) 302);have Sw:w.heap.size+4<w8.heap.size:=hZ8.lt;clear qY QUV QXR QUy O0 hZ8 HD d0 d1 d2 d3 d4 p0 p1 l0 l1 hLn hRg hFd hCm hZ hbw hsz HE hal;generalize(w8.alloc (.cells (XP (Vu a n c (k:Int) vs cm)) 302))=w9 at *;generalize w8.heap.size=P at *;obtain⟨p0,p1,-,-⟩:=Za.two QZi;obtain⟨q0,q1,-,-⟩:=Za.two QZr;have qy:=h9.lt;have CL:=Zy (fun(wx:World) (hb:Below w9.heap.size w9 wx)=>Zw a n c t wx ((HR.out w9 Jv).below hb) HT.out QQ HN0.out);have H9:=Zy h9;have HB9:=Zy Jv;have HZ9:=Zy hZ9;have HC9:=Zy hC9;have HF9:=Zy QZr;have HG9:=Zy QKx;have HL9:=Zy QZi;clear h9 Jv hZ9 hC9 QZr QKx QZi
 go_cut [9] (fun v wx=>v=.int .i64 0/\(∃us,DI P wx us ⟨w,a,n,c,t,k,vs,X⟩ ⟨cm,t,k,Vn,fk,fa,0,[]⟩)/\Yx P w9 wx)
 case first=>
  refine wp_region_held_drew (S:=(fun w'=>w'.cell? ⟨w.heap.size,0,none⟩=some (.slice a n c)/\w'.cell? ⟨w.heap.size,1,none⟩=some (.int .i64 (k:Int))/\w'.cell? ⟨w.heap.size+1+1,0,none⟩=some (.int .i64 fk)/\w'.cell? ⟨w.heap.size+1+1,1,none⟩=some (.int .i64 fa))) QX ⟨p0,p1,q0,q1⟩ ?_;intro hSd;refine ZP 0 ⟨some 34,.move (.tmp 11),_,_,_,_⟩ ((.pointer (some ⟨P,0,none⟩))) ?_;simp only[Act.put,Zj,Zk,Zu];refine ZP 1 ⟨some 35,.fieldAddr 30 (.tmp 4) 0,_,_,_,_⟩ ((.pointer (some ⟨w.heap.size,0,none⟩))) ?_;simp only[Act.put,Zj,Zk,Zu];refine ZP 2 ⟨some 36,.load 26 (.tmp 35),_,_,_,_⟩ ((.slice a n c)) ?_;simp only[Act.put,Zj,Zk,Zu];refine ZP 4 ⟨some 38,.fieldAddr 30 (.tmp 4) 1,_,_,_,_⟩ ((.pointer (some ⟨w.heap.size,1,none⟩))) ?_;simp only[Act.put,Zj,Zk,Zu];refine ZP 5 ⟨some 39,.load 3 (.tmp 38),_,_,_,_⟩ ((.int .i64 (k:Int))) ?_;simp only[Act.put,Zj,Zk,Zu];refine ZP 7 ⟨some 41,.load 34 (.tmp 6),_,_,_,_⟩ ((.agg #[.int .i64 fk,.int .i64 fa])) ?_;simp only[Act.put,Zj,Zk,Zu];refine Zl (rs:=[3]) QX QJ ?_;refine ZO (o:=⟨some 37,_,_,_,_,_⟩) rfl (fun K hK=>?_) Zg;go_simp;refine(CL.out _ (ZH _ _).drew).mono ?_;rintro e qB ⟨v10,rfl,LK,JN⟩;obtain⟨a10,n10,c10,rfl⟩:=LK.form;obtain⟨rs,hrs⟩:∃rs,EY (.slice a10 n10 c10) (k:Int) fk fa=rs:=⟨_,rfl⟩;have QJm:=bq (v:=.slice a10 n10 c10) rfl (k:Int) fk fa;have QJ2:(EY (.slice a10 n10 c10) (k:Int) fk fa).length=33:=rfl;have h10:=H9.out.to ((ZH _ _).drew.trans JN);have QV1:qB.there P 34 33:=fun j hj=>⟨by rw[h10.cell QQ];rfl,h10.free _⟩
  have H11:=Zy (h10.QQe (s':=⟨cm,t,k,Vn,fk,fa,0,[]⟩) _ (aK (LK.mono qy) cm k fk fa));rw[hrs]at QJm QJ2 H11;have iY:=(Yx.of (P:=P) ((ZH w9.heap.size w9).drew.trans JN));have iX:=iY.trans (Yx.setCells (o:=34) rs);have e0:=iY.cell QQ p0;have e1:=iY.cell QQ p1;have e2:=iY.cell QQ q0;have e3:=iY.cell QQ q1;have g0:=iX.cell QQ p0;have g1:=iX.cell QQ p1;have g2:=iX.cell QQ q0;have g3:=iX.cell QQ q1;have QX1:=Zy iX;have Cq:=Zy hrs;clear iX iY h10 hrs;dsimp only;refine hK.out _ _ ⟨e0,e1,e2,e3⟩ (fun hHeld=>?_);clear hK K;refine Zl (rs:=[6]) QX QJ ?_;refine ZO (o:=⟨some 40,_,_,_,_,_⟩) rfl (fun K hK=>?_) Zg;go_simp;refine hK.out _ _ QH (fun hHeld=>?_);clear hK K;refine Zl (rs:=[8]) QX QJ ?_;refine ZO (o:=⟨some 42,_,_,_,_,_⟩) rfl (fun K hK=>?_) Zg;rw[if_pos QAQ];refine BV _ _ rfl a10 n10 c10 (k:Int) fk fa rfl rfl ?_;rw[Cq.out];simp only[Act.put,Zj,Zk,Zu];refine hK.out _ _ QH (fun hHeld=>?_);clear hK K;refine ZP 9 ⟨some 43,.nilCheck (.tmp 34),_,_,_,_⟩ ((.pointer (some ⟨P,0,none⟩))) ?_;simp only[Act.put,Zj,Zk,Zu];refine ZP 10 ⟨some 44,.fieldAddr 302 (.tmp 43) 3,_,_,_,_⟩ ((.pointer (some ⟨P,34,none⟩))) ?_;simp only[Act.put,Zj,Zk,Zu];refine Zl (rs:=[11]) QX QJ ?_;refine ZO (o:=⟨none,_,_,_,_,_⟩) rfl (fun K hK=>?_) Zg;rw[if_pos QAQ];refine Dk _ _ rfl P 34 rfl rs rfl QV1 QJ2 QJm ?_;simp only[Act.put,Zj,Zk,Zu];refine hK.out _ _ ⟨g0,g1,g2,g3⟩ (fun hHeld=>?_);clear hK K;refine Ya QX ?_ _;go_wp2;go_meet;exact⟨rfl,⟨_,H11.out⟩,QX1.out⟩
 obtain⟨rfl,⟨PU,h1⟩,hA1⟩:=hcut;clear p0 p1;go_wp2
 go_loopw [45] (fun i wr=>∃j:Nat,i=.int .i64 (j:Int)/\j<=27/\(∃us,DI P wr us ⟨w,a,n,c,t,k,vs,X⟩ ⟨cm,t,k,X.take j++Vn.drop j,fk,fa,0,[]⟩)/\Yx P w9 wr) (fun i _=>27-(intOf i).toNat)
 case atStart=>exact⟨0,rfl,QQ,⟨PU,QA1⟩,hA1⟩
 case round=>
  obtain⟨j,rfl,hj,⟨us2,h2⟩,hA2⟩:=hrel;by_cases hlt:j<27
  ·obtain⟨aj,nj,cj,mr,hl,-,-,hi,h0⟩:=(h2.rg HI.out).sl j hlt
   dsimp only at mr;replace hl:(rx X j).length=nj:=hl;replace hi:Ints wr aj (rx X j):=hi;have r0:=hA2.cell (b:=w.heap.size+1) QQ (HG9.out.cell (i:=j) (by rw[hlv];exact hlt));rw[mr]at r0;have hsm:(rx X j).length<=1048576:=HI.out.small j hlt;have CLJ:=Zy (Zw aj nj cj (rx X j) wr.drew (hi.drewN 1) hl QQ h0);have c36:=h2.cell (i:=36+j) QQ;have f36:=h2.free (36+j);have H2:=Zy h2;have HA2:=Zy hA2;have hPr:=h2.lt;have hBr:w.heap.size+1<wr.heap.size:=XU r0;clear hi hl h0 hsm h2 hA2 mr;go_upto_region 11 with fail
   go_region_held3 (fun w'=>w'.cell? ⟨w.heap.size+1,j,none⟩=some (.slice aj nj cj)) (first|exact r0|(with_reducible assumption)|exact e0|exact g0) (first|(go_at_call 43;go_loud (refine(CLJ.out).mono ?_;rintro e qB ⟨v10,rfl,LK,JN⟩;obtain⟨a10,n10,c10,rfl⟩:=LK.form;have h10:=H2.out.to ((ZH _ _).drew.trans JN);have iY:=Yx.of (P:=P) ((ZH wr.heap.size wr).drew.trans JN);have e0:=iY.cell QQ r0;have iX:=iY.trans (Yx.set (P:=P) (i:=36+j) (.slice a10 n10 c10));have g0:=iX.cell QQ r0;have c37:=h10.cell (i:=36+j) QQ;have f37:=h10.free (36+j);have H11:=Zy (h10.QQf j hlt _ _ (LK.mono (Nat.succ_le_of_lt hPr)));have QX1:=Zy (HA2.out.trans iX);clear h10 iY iX)))
   all_goals
    go_wp2;go_roundw
    case rel=>exact⟨j+1,Qk,QQ,⟨_,by rw[<-L8 QKV hlt];exact H11.out⟩,QX1.out⟩
    case measure=>simp[intOf];omega
  ·obtain rfl:j=27:=by omega
   rw[L9 QKV]at h2;have q2:=hA2.cell (b:=w.heap.size+2) QQ q0;obtain⟨d0,d1,d2,d3,d4⟩:=Za.five (hA2.blk (B:=w.heap.size+3) QQ HC9.out);have hZr:=hA2.blk (B:=w.heap.size+4) QQ HZ9.out;have HBr:=Zy (show Below w.heap.size w wr from h2.YX);have H2:=Zy h2;have hna:¬(cm.a<0\/999<cm.a):=QQ;have HNA:=Zy hna;clear h2 hA2 q0 q1 hna d0 d1 d3 d4 HR CL HT;by_cases S9:fk=0\/zP fk=true
   ·have HF:=Zy S9
    have hds:fk=0\/fk=102\/fk=70\/fk=116\/fk=84:=by simpa[zP]using S9
    clear S9;by_cases hop:bU cm.c=true
    ·have I8:=Zy hop
     have hos:cm.c=0\/cm.c=100\/cm.c=99\/cm.c=121:=by simpa[bU]using hop
     clear hop;have CO:=eY P us2 ⟨w,a,n,c,t,k,vs,X⟩ HI.out ⟨cm,t,k,X,fk,fa,0,[]⟩ wr H2.out hc0 hc1 HF.out;obtain⟨r1,r2,hr⟩:∃r1 r2,Lx ⟨w,a,n,c,t,k,vs,X⟩ ⟨BJ cm,t,k,X,fk,fa,0,[]⟩=(r1,r2):=⟨_,_,rfl⟩;dsimp only at CO;rw[hr]at CO;have HCO:=Zy CO;have hdo:Lj ⟨w,a,n,c,t,k,vs,X⟩ cm fk fa=if r1≠0 then(r1,TV cm)else(0,r2):=by
      unfold Lj;rw[if_neg HNA.out,if_neg (fun h=>h HF.out),if_neg (by rw[I8.out];decide),hr]
     have gQ:=Zy hdo;clear CO hr hdo;go_upto_block 2 with fail
     go_cut [62] (fun v wx=>v=.bool true/\wr=wx)
     case first=>
      rcases hds with rfl|rfl|rfl|rfl|rfl
      all_goals
       exact QDL
     obtain⟨rfl,rfl⟩:=hcut;clear hds q2;go_upto_block 3 with fail
     go_cut [71] (fun v wx=>v=.bool true/\wr=wx)
     case first=>
      rcases hos with e|e|e|e
      ·have x0:(cm.c==0)=true:=by rw[e];rfl
       have x1:(cm.c==100)=false:=Qv7;have x2:(cm.c==99)=false:=Qv7;exact QGL
      ·have x0:(cm.c==0)=false:=by rw[e];rfl
       have x1:(cm.c==100)=true:=Qv7;have x2:(cm.c==99)=false:=Qv7;exact QGL
      ·have x0:(cm.c==0)=false:=by rw[e];rfl
       have x1:(cm.c==100)=false:=Qv7;have x2:(cm.c==99)=true:=Qv7;exact QGL
      ·have x0:(cm.c==0)=false:=by rw[e];rfl
       have x1:(cm.c==100)=false:=Qv7;have x2:(cm.c==99)=false:=Qv7;have x3:(cm.c==121)=true:=Qv7;clear e;exact QDL
     obtain⟨rfl,rfl⟩:=hcut;clear hos d2;by_cases hz:r1=0
     ·subst hz
      go_wp2_with (first|(go_at_call 229;go_loud (refine(HCO.out).mono ?_;rintro e w3 ⟨rfl,⟨us3,h3⟩,hA3⟩;have hZ3:=hA3.blk (B:=w.heap.size+4) QQ hZr;have HB3:=Zy (show Below w.heap.size w w3 from h3.YX);have hl3:=vB h3.lu;have hr3:=h3.res.left (Y6 w3 (w.heap.size+4) 0 (Gr us3)) QQ;have hg3:=h3.QQi;have ho3:=h3.res.one;generalize Gr us3=rs at hl3 hr3 hg3 ho3;clear h3 hA3))|((with_reducible show wpList _ _ _ (⟨_,Op.load _ _,_,_,_,_⟩::_) _ _);refine az rfl _ rfl P 34 rfl rs hg3 hl3 ?_)|((with_reducible show wpList _ _ _ (⟨none,Op.store _ _ _,_,_,_,_⟩::_) _ _);refine zW rfl _ _ rfl (w.heap.size+4) 0 rfl rs rfl YJ _ hZ3 (ZB 33) hl3 ho3 ?_;have qO:=WC hZ3 Jk HB3.out QQ rs hl3;generalize w3.setCells (w.heap.size+4) 0 rs=w9' at qO hr3 ⊢))
      rw[gQ.out,if_neg QJ];exact ZC (Jw Tryz.results202 rfl (VM qO.1 hl3)) rfl ⟨rs,rfl,hr3.mono QQ,qO.2⟩
     ·have nz:(r1 !=0)=true:=by simpa using hz
      have HZ:=Zy hz;clear hz;go_wp2_with (first|(go_at_call 229;go_loud (refine(HCO.out).mono ?_;rintro e w3 ⟨rfl,⟨us3,h3⟩,hA3⟩;have hZ3:=hA3.blk (B:=w.heap.size+4) QQ hZr;have HB3:=Zy (show Below w.heap.size w w3 from h3.YX);clear h3 hA3))|((with_reducible show wpList _ _ _ (⟨none,Op.store _ _ _,_,_,_,_⟩::_) _ _);go_loud (refine zW rfl _ _ rfl (w.heap.size+4) 0 rfl YJ rfl YJ _ hZ3 (ZB 33) rfl zi ?_;have qO:=WC hZ3 Jk HB3.out QQ YJ rfl;generalize w3.setCells (w.heap.size+4) 0 YJ=w9 at qO ⊢)))
      rw[gQ.out,if_pos HZ.out];exact ZC (Jw Tryz.results202 rfl (VM qO.1 Jk)) rfl ⟨YJ,rfl,vW _ _ _,qO.2⟩
    ·have hdo:Lj ⟨w,a,n,c,t,k,vs,X⟩ cm fk fa=(9,TV cm):=by
      unfold Lj;rw[if_neg HNA.out,if_neg (fun h=>h HF.out),if_pos (by simpa using hop)]
     have gQ:=Zy hdo;have hos:¬(cm.c=0\/cm.c=100\/cm.c=99\/cm.c=121):=by simpa[bU]using hop
     have x0:(cm.c==0)=false:=QY;have x1:(cm.c==100)=false:=QY;have x2:(cm.c==99)=false:=QY;have x3:(cm.c==121)=false:=QY;clear hdo hop hos;go_upto_block 2 with fail
     go_cut [62] (fun v wx=>v=.bool true/\wr=wx)
     case first=>
      rcases hds with rfl|rfl|rfl|rfl|rfl
      all_goals
       exact QDL
     obtain⟨rfl,rfl⟩:=hcut;clear hds q2;exact QDl
   ·have hdo:Lj ⟨w,a,n,c,t,k,vs,X⟩ cm fk fa=(1,TV cm):=by
     unfold Lj;rw[if_neg HNA.out,if_pos S9]
    have gQ:=Zy hdo;have hds:¬(fk=0\/fk=102\/fk=70\/fk=116\/fk=84):=by simpa[zP]using S9
    have x0:(fk==0)=false:=QY;have x1:(fk==102)=false:=QY;have x2:(fk==70)=false:=QY;have x3:(fk==116)=false:=QY;have x4:(fk==84)=false:=QY;clear hdo S9 hds;exact QDl
end Go.Proofs.YtmdcencmiopmmaaGreat
