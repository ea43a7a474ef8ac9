/- joined, no condition of its own. -/
import Derived.Test.YtmdcencmiopmmaaGreatJnT
import Derived.Test.YtmdcencmiopmmaaGreatJnJ19
import Derived.Test.YtmdcencmiopmmaaGreatJnJ33
import Derived.Test.YtmdcencmiopmmaaGreatJnJ36
import Derived.Test.YtmdcencmiopmmaaGreatJnJ38
set_option linter.unusedVariables false
set_option linter.unusedSimpArgs false
set_option maxRecDepth 100000
set_option maxHeartbeats 12000000
namespace Go.Proofs.YtmdcencmiopmmaaGreat
open Go.RowKit
theorem At.stB{F0 G0 F:Nat->Prop}{w0 w w':World}{B:Nat}{f f':Nat->Value}{S S':SS}(h:At F0 G0 w0 F w B f S)(hb:VF w' B f')(hos:w'.os=w.os)(htp:w'.tape=w.tape)(hou:w'.output=w.output)(hsz:w'.heap.size=w.heap.size)
  (hs:∀k,k≠B->w'.heap[k]? =w.heap[k]?) (e47:f' 47=f 47) (e56:f' 56=f 56) (e57:f' 57=f 57) (hd:qi F w f' S') (hS:S'.now=S.now/\S'.told=S.told/\S'.YC=S.YC):At F0 G0 w0 F w' B f' S':=by
 have hM:=h.hf.m;have hne:=hM.WO;have hF:Same F w w':=fun k hk=>hs k (fun e=>hM.nB (e▸hk))
 have dO:Gx G0 w0 w'=Gx G0 w0 w:=by unfold Gx;rw[hsz]
 obtain⟨us,ho,he⟩:=hM.told;obtain⟨s1,s2,s3⟩:=hS;refine⟨⟨hos.trans h.step.os,htp.trans h.step.tape,hou.trans h.step.output,QAo,fun k hk hn=>?_⟩,fun k hk=>?_,h.sub,⟨?_,?_,?_,?_⟩⟩
 ·rw[hs k (fun e=>?_)]
  ·exact h.step.block k hk hn
  ·subst e
   exact QEb
 ·rw[hs k (h.sG k hk)];exact h.same k hk
 ·rw[dO];exact h.hf.fg
 ·rw[dO,hsz];exact h.hf.lt
 ·exact hd.keep hF.JB hF.blk (fun _ h=>h)
 ·rw[dO]
  exact {
   blk:=hb,nB:=hM.nB,gB:=hM.gB
   now:=by
    rw[e47,e57,s1];exact QEe
   told:=by
    rw[e56,s2];exact⟨us,ho.moved fun k hk=>hs k (hne k (.inl hk)),he.keep hF.JB (fun _ h=>h)⟩
   Y0:=by rw[e56];exact hM.Y0
   YC:=by
    rw[e57,s3];exact hM.YC.moved fun k hk=>hs k (hne k (.inr (.inl hk)))
   J6:=by rw[e57];exact hM.J6}
theorem At.QQc{F0 G0 F:Nat->Prop}{w0 w:World}{B:Nat}{f:Nat->Value}{S:SS}(c:C5)(h:At F0 G0 w0 F w B f S):
  At F0 G0 w0 F ((w.alloc (.cells #[.int .i64 c.a,.int .i64 c.b,.int .i64 c.c,.int .i64 c.d,.int .i64 c.e,.slice none 0 0] 219)).setCell ⟨B,47,none⟩ (.pointer (some ⟨w.heap.size,0,none⟩))) B (KR f 47 (.pointer (some ⟨w.heap.size,0,none⟩))) {S with now:=some (c,[])}:=by
 have hb:=ZT w (.cells #[.int .i64 c.a,.int .i64 c.b,.int .i64 c.c,.int .i64 c.d,.int .i64 c.e,.slice none 0 0] 219);have hC:=Za.new w #[.int .i64 c.a,.int .i64 c.b,.int .i64 c.c,.int .i64 c.d,.int .i64 c.e,.slice none 0 0] 219;have h1:=h.JA hb;have hsize:(w.alloc (.cells #[.int .i64 c.a,.int .i64 c.b,.int .i64 c.c,.int .i64 c.d,.int .i64 c.e,.slice none 0 0] 219)).heap.size=w.heap.size+1:=Zv _ _;have hstep:=h.step.size;have hnF:¬F w.heap.size:=fun e=>by have:=h.bF _ e;omega
 generalize(w.alloc (.cells #[.int .i64 c.a,.int .i64 c.b,.int .i64 c.c,.int .i64 c.d,.int .i64 c.e,.slice none 0 0] 219))=W at *;have hM:=h1.hf.m;have hne:=hM.WO;have hs:∀k,k≠B->(W.setCell ⟨B,47,none⟩ (.pointer (some ⟨w.heap.size,0,none⟩))).heap[k]? =W.heap[k]?:=fun k hk=>Zm _ _ _ _ hk
 have hsz:(W.setCell ⟨B,47,none⟩ (.pointer (some ⟨w.heap.size,0,none⟩))).heap.size=W.heap.size:=size_setCell _ _ _;have hBlt:=h.hf.lt _ h.hf.m.gB;obtain⟨us,ho,he⟩:=hM.told;have hd:qi F W (KR f 47 (.pointer (some ⟨w.heap.size,0,none⟩))) {S with now:=some (c,[])}:={h1.hf.d with};refine⟨⟨h1.step.os,h1.step.tape,h1.step.output,by rw[hsz];exact h1.step.size,fun k hk hn=>?_⟩,fun k hk=>?_,h1.sub,⟨?_,?_,hd.setCell hM.nB,?_⟩⟩
 ·rw[hs k (fun e=>?_)]
  ·exact h1.step.block k hk hn
  ·subst e
   exact QEb
 ·rw[hs k (h1.sG k hk)];exact h1.same k hk
 ·rw[Gx.setCell];exact h1.hf.fg
 ·rw[Gx.setCell,hsz];exact h1.hf.lt
 ·rw[Gx.setCell]
  exact {
   blk:=hM.blk.set 47 _,nB:=hM.nB,gB:=hM.gB
   now:=by
    rw[JF];exact⟨w.heap.size,.slice none 0 0,rfl,hnF,.inr ⟨hstep,QQ⟩,Za.moved hC (hs _ QQ),YR _ _ _ _,fun k hk=>QBa⟩
   told:=⟨us,ho.moved fun k hk=>hs k (hne k (.inl hk)),he.keep (Xv.setCell hM.nB _) (fun _ h=>h)⟩
   Y0:=hM.Y0
   YC:=hM.YC.moved fun k hk=>hs k (hne k (.inr (.inl hk)))
   J6:=hM.J6}
theorem YI{B:Nat}(vs:List Value):∀(w:World) (o:Nat),(∀k,k≠B->(w.setCells B o vs).heap[k]? =w.heap[k]?)/\(w.setCells B o vs).os=w.os/\(w.setCells B o vs).tape=w.tape/\(w.setCells B o vs).output=w.output:=by
 induction vs with
 | nil=>intro w o;exact⟨fun _ _=>rfl,rfl,rfl,rfl⟩
 | cons v r ih=>
  intro w o;obtain⟨h1,h2,h3,h4⟩:=ih (w.setCell ⟨B,o,none⟩ v) (o+1);exact⟨fun k hk=>(h1 k hk).trans (Zm _ _ _ _ hk),h2,h3,h4⟩
def iE(f:Nat->Value)(vs:List Value):Nat->Value:=fun x=>if 3<=x/\x<30 then vx vs (x-3)else f x
theorem VF.regs{w:World}{B:Nat}{f:Nat->Value}(h:VF w B f)(vs:List Value)(hl:vs.length=27):VF (w.setCells B 3 vs) B (iE f vs):=by
 have h1:=Za.setCells vs 3 h;have e:ow (vJ f) 3 vs=vJ (iE f vs):=by
  apply Array.ext_getElem?;intro i;by_cases hi:i<58
  ·rw[bJ _ _ _ _ (by simp[vJ];exact hi),D9 _ hi,D9 _ hi]
   unfold iE;by_cases hc:3<=i/\i<30
   ·rw[if_pos QQ,if_pos hc,VY QQ,XJ QQ]
   ·rw[if_neg QQ,if_neg hc]
  ·rw[Array.getElem?_eq_none (by rw[EC];simp[vJ];omega),Array.getElem?_eq_none (by simp[vJ];omega)]
 rw[e]at h1;exact h1
theorem aW(f:Nat->Value)(vs:List Value)(hl:vs.length=27):Sg (iE f vs)=vs:=by
 refine List.ext_getElem (by rw[hl];rfl) fun i h1 h2=>?_
 have hi:i<27:=by rw[<-hl];exact h2
 have:=VY h2;rw[<-this]
 match i,hi with
 | 0,_|1,_|2,_|3,_|4,_|5,_|6,_|7,_|8,_|9,_|10,_|11,_|12,_|13,_|14,_|15,_|16,_|17,_|18,_|19,_|20,_|21,_|22,_|23,_|24,_|25,_|26,_=>rfl
 | n+27,h=>exact absurd h QQ
theorem HF.range{F G:Nat->Prop}{w:World}{B:Nat}{f:Nat->Value}{S:SS}(h:HF F G w B f S):w.rangeAt B 3 (Sg f):=fun j v hv=>by
 have hj:j<27:=by
  rcases Z7 j 27 with h|h
  ·exact h
  ·rw[List.getElem?_eq_none (by show 27<=j;exact h)]at hv;cases hv
 rw[h.m.blk.cell QQ];rw[<-hv]
 match j,hj with
 | 0,_|1,_|2,_|3,_|4,_|5,_|6,_|7,_|8,_|9,_|10,_|11,_|12,_|13,_|14,_|15,_|16,_|17,_|18,_|19,_|20,_|21,_|22,_|23,_|24,_|25,_|26,_=>rfl
 | n+27,h=>exact absurd h QQ
theorem HF.MB{F G:Nat->Prop}{w:World}{B:Nat}{f:Nat->Value}{S:SS}(h:HF F G w B f S):yL w (Sg f) S.regs:=⟨rfl,h.d.lr,fun i hi=>(h.d.regs.2 i (by rw[h.d.lr];exact hi)).sl⟩
abbrev RdS(R:Nat)(rs:List Value)(oa:Option Addr)(on oc:Nat)(p fk fa md:Int)(yv:List Value)(w':World):Prop:=
 w'.rangeAt R 2 yv/\w'.cell? ⟨R,0,none⟩=some (.slice oa on oc)/\w'.cell? ⟨R,1,none⟩=some (.int .i64 p)/\w'.cell? ⟨R,29,none⟩=some (.int .i64 fk)/\w'.cell? ⟨R,30,none⟩=some (.int .i64 fa)/\w'.cell? ⟨R,31,none⟩=some (.int .i64 md)
theorem rdK{R B:Nat}{rs:List Value}{oa:Option Addr}{on oc:Nat}{p fk fa md:Int}{yv:List Value}{wa wb:World}(hRB:R≠B)(h:RdS R rs oa on oc p fk fa md yv wa)(hk:∀k,k≠B->wb.heap[k]? =wa.heap[k]?):RdS R rs oa on oc p fk fa md yv wb:=by
 have hc:∀i,wb.cell? ⟨R,i,none⟩=wa.cell? ⟨R,i,none⟩:=fun i=>by unfold World.cell?;rw[hk R hRB]
 obtain⟨h1,h2,h3,h4,h5,h6⟩:=h;exact⟨fun j v hv=>(hc _).trans (h1 j v hv),(hc _).trans h2,(hc _).trans h3,(hc _).trans h4,(hc _).trans h5,(hc _).trans h6⟩
def qw:Obj:=.cells (XP YJ) 277
theorem NH(w:World):(Instr.alloc 277 true (.tuple #[])).run Tryz.prog w=.ok (.pointer (some ⟨w.heap.size,0,none⟩)) (w.alloc qw):=Dz w
theorem uD{w:World}{R:Nat}(h:w.heap.size=R):Xj (w.alloc qw) R YJ 277:=by subst h;exact Xj.new w YJ _
theorem Cx{w:World}{R:Nat}(h:w.heap.size=R):Xj (w.alloc (.cells #[.slice none 0 0,.int .i64 0,.slice none 0 0,.slice none 0 0,.slice none 0 0,.slice none 0 0,.slice none 0 0,.slice none 0 0,.slice none 0 0,.slice none 0 0,.slice none 0 0,.slice none 0 0,.slice none 0 0,.slice none 0 0,.slice none 0 0,.slice none 0 0,.slice none 0 0,.slice none 0 0,.slice none 0 0,.slice none 0 0,.slice none 0 0,.slice none 0 0,.slice none 0 0,.slice none 0 0,.slice none 0 0,.slice none 0 0,.slice none 0 0,.slice none 0 0,.slice none 0 0,.int .i64 0,.int .i64 0,.int .i64 0,.slice none 0 0] 277)) R YJ 277:=uD h
theorem Xj.J5{w:World}{B:Nat}{vs:List Value}{e:TypeId}(h:Xj w B vs e):Xj w.drew B vs e:=h
theorem Xj.YP{w w':World}{B:Nat}{vs:List Value}{e:TypeId}(hb:Below w.heap.size w w')(h:Xj w B vs e):Xj w' B vs e:=h.below hb h.lt
theorem Xj.Ls{w:World}{B:Nat}(h:Xj w B YJ 277):w.there B 0 33:=fun j hj=>⟨by rw[XN,h.cell (by rw[Jk];exact hj)];rfl,h.free _⟩
theorem D5{W:World}{R:Nat}{rs:List Value}(ht:W.there R 0 33)(hl:rs.length=33)(h1:∀v∈rs,v.oneCell'=true):(storeCells ⟨R,0,none⟩ (XP rs).toList).run Tryz.prog W=.ok () (W.setCells R 0 rs):=by
 have:=run_storeCells_cells (P:=Tryz.prog) R 0 rs 0 W (fun j hj=>by have:=(ht j QQ).1;simpa using this) (fun j hj=>by have:=(ht j QQ).2;simpa using this) h1;simpa[XP]using this
theorem TT{w:World}{rs:List Value}(hl:rs.length=33)(h1:∀v∈rs,v.oneCell'=true):(storeCells ⟨w.heap.size,0,none⟩ (XP rs).toList).run Tryz.prog (w.alloc (.cells #[.slice none 0 0,.int .i64 0,.slice none 0 0,.slice none 0 0,.slice none 0 0,.slice none 0 0,.slice none 0 0,.slice none 0 0,.slice none 0 0,.slice none 0 0,.slice none 0 0,.slice none 0 0,.slice none 0 0,.slice none 0 0,.slice none 0 0,.slice none 0 0,.slice none 0 0,.slice none 0 0,.slice none 0 0,.slice none 0 0,.slice none 0 0,.slice none 0 0,.slice none 0 0,.slice none 0 0,.slice none 0 0,.slice none 0 0,.slice none 0 0,.slice none 0 0,.slice none 0 0,.int .i64 0,.int .i64 0,.int .i64 0,.slice none 0 0] 277))=.ok () ((w.alloc qw).setCells w.heap.size 0 rs):=D5 (W:=w.alloc qw) (uD rfl).Ls hl h1
def DoS(B C:Nat)(f:Nat->Value)(S:SS)(c:C5)(w1 w':World):Prop:=
 w'.cell? ⟨B,30,none⟩=some (.int .i64 S.fk)/\w'.cell? ⟨B,31,none⟩=some (.int .i64 S.fa)/\w'.rangeAt B 3 (Sg f)/\w'.cell? ⟨C,0,none⟩=some (.int .i64 c.a)/\w'.cell? ⟨C,1,none⟩=some (.int .i64 c.b)/\w'.cell? ⟨C,2,none⟩=some (.int .i64 c.c)/\w'.cell? ⟨C,3,none⟩=some (.int .i64 c.d)/\w'.cell? ⟨C,4,none⟩=some (.int .i64 c.e)/\Below w1.heap.size w1 w'
theorem doK{B C:Nat}{f:Nat->Value}{S:SS}{c:C5}{w1 wa wb:World}(hB:B<w1.heap.size)(hC:C<w1.heap.size)(h:DoS B C f S c w1 wa)(hb:Below w1.heap.size wa wb):DoS B C f S c w1 wb:=by
 obtain⟨h1,h2,h3,h4,h5,h6,h7,h8,h9⟩:=h;exact⟨QBp,QBo,fun j v hv=>by rw[hb.cell hB];exact h3 j v hv,by rw[hb.cell hC];exact h4,by rw[hb.cell hC];exact h5,by rw[hb.cell hC];exact h6,by rw[hb.cell hC];exact h7,by rw[hb.cell hC];exact h8,h9.trans hb⟩
theorem QKd{B C:Nat}{f:Nat->Value}{S:SS}{c:C5}{w1 wa wb:World}(hB:B<w1.heap.size)(hC:C<w1.heap.size)(h:DoS B C f S c w1 wa)(hb:Below wa.heap.size wa wb):DoS B C f S c w1 wb:=doK hB hC h (hb.mono h.2.2.2.2.2.2.2.2.size)
theorem QqJ{B C:Nat}{f:Nat->Value}{S:SS}{c:C5}{w1 wa:World}(hB:B<w1.heap.size)(hC:C<w1.heap.size)(h:DoS B C f S c w1 wa)(o:Obj):DoS B C f S c w1 (wa.alloc o):=QKd hB hC h (ZT _ _)
theorem QqY{B C:Nat}{f:Nat->Value}{S:SS}{c:C5}{w1 wa:World}(hB:B<w1.heap.size)(hC:C<w1.heap.size)(h:DoS B C f S c w1 wa)(R:Nat)(cs:List Value)(hR:w1.heap.size<=R):DoS B C f S c w1 (wa.setCells R 0 cs):=doK hB hC h (below_setCells hR cs 0 (ZH _ _))
structure Sz (base:Nat) (w:World) (rs:List Value) (s:St):Prop where
 lr:rs.length=33
 o:Own 3 base w (vx rs 0) s.O
 p:vx rs 1=.int .i64 s.p
 ly:s.Y.length=27
 y:∀i,i<27->Own 3 base w (vx rs (2+i)) (rx s.Y i)
 f1:vx rs 29=.int .i64 s.fk
 f2:vx rs 30=.int .i64 s.fa
 m:vx rs 31=.int .i64 s.md
theorem Ir.rsv{base:Nat}{w:World}{rs:List Value}{s:St}(h:Ir base w rs s):Sz base w rs s:=⟨h.lr,h.o,h.p,h.ly,h.y,h.f1,h.f2,h.m⟩
def LH(rs:List Value):List Value:=(rs.drop 2).take 27
theorem zQ{rs:List Value}(h:rs.length=33):(LH rs).length=27:=by simp[LH,h]
theorem LG{rs:List Value}{i:Nat}(hi:i<27):vx (LH rs) i=vx rs (2+i):=by unfold LH;rw[iW hi,DD]
theorem O4{w:World}{R:Nat}{rs:List Value}{e:TypeId}(h:Xj w R rs e)(hl:rs.length=33):w.rangeAt R 2 (LH rs):=fun j v hv=>by
 have hj:j<27:=by
  rcases Z7 j 27 with h|h
  ·exact h
  ·rw[List.getElem?_eq_none (by rw[zQ hl];exact h)]at hv;cases hv
 rw[h.cell QQ,<-LG hj,VY (by rw[zQ hl];exact hj)];rw[XJ (by rw[zQ hl];exact hj)]at hv;exact hv
theorem Sz.one{base:Nat}{w:World}{rs:List Value}{s:St}(h:Sz base w rs s):∀v∈LH rs,v.oneCell'=true:=fun v hv=>by
 obtain⟨i,hi,e⟩:=Xw.1 hv;have hi':i<27:=by rw[<-zQ h.lr];exact hi
 rw[<-e,<-VY hi,LG hi'];obtain⟨a,n,c,e⟩:=(h.y i hi').form;rw[e];rfl
theorem Sz.lists{base:Nat}{w:World}{rs:List Value}{s:St}{F:Nat->Prop}(h:Sz base w rs s)(hF:∀k,base<=k/\k<w.heap.size->F k):Yd F w (LH rs) s.Y:=
 ⟨by rw[zQ h.lr,h.ly],fun i hi=>by
  rw[h.ly]at hi;rw[LG hi];exact(h.y i hi).jr.lt.imp hF⟩
theorem Sz.moved{base:Nat}{w w':World}{rs:List Value}{s:St}(h:Sz base w rs s)(hk:∀k,base<=k->k<w.heap.size->w'.heap[k]? =w.heap[k]?):Sz base w' rs s:=
 {h with o:=h.o.moved fun k e=>hk k (h.o.row k e) (h.o.uq k e),y:=fun i hi=>(h.y i hi).moved fun k e=>hk k ((h.y i hi).row k e) ((h.y i hi).uq k e)}
theorem Sz.mono{base base':Nat}{w:World}{rs:List Value}{s:St}(h:Sz base w rs s)(hb:base'<=base):Sz base' w rs s:={h with o:=h.o.mono hb,y:=fun i hi=>(h.y i hi).mono hb}
theorem Ll(c:C5)(w:World):Calls Tryz.prog 203 #[.agg #[.int .i64 c.a,.int .i64 c.b,.int .i64 c.c,.int .i64 c.d,.int .i64 c.e]] w fun e w'=>e=.returned (.bool (Fv c))/\Below w.heap.size w w':=by
 obtain⟨ca,cb,cc,cd,ce⟩:=c;have hb:=ZT w (.cells #[.int .i64 ca,.int .i64 cb,.int .i64 cc,.int .i64 cd,.int .i64 ce] 87);obtain⟨d0,d1,d2,d3,d4⟩:=Za.five (Za.new w #[.int .i64 ca,.int .i64 cb,.int .i64 cc,.int .i64 cd,.int .i64 ce] 87);go_enter Tryz.func203,Tryz.ntmps203
 go_wp2
 all_goals
  go_ret;exact⟨Yu (by unfold Fv;clear d0 d1 d2 d3 d4 hb;first|(simp_all;done)|trace_state),hb⟩
theorem QXU(W0 W:World)(S:SS)(a:Option Addr)(n k q:Nat)(vs:List Value)(c:C5)(hn:n=S.text.length)(hq:q=S.pos.toNat):Lj ⟨W,a,n,k,S.text,q,vs,S.regs⟩ c S.fk S.fa=S.Ah W0 c:=by
 subst hn hq;unfold SS.Ah cZ Lj Lx vT Cg Ej Fg eG Uq;rfl
structure DoQ (W0:World) (S:SS) (c:C5) (w1 wx:World) (R:Nat) (rs:List Value):Prop where
 lo:w1.heap.size<=R
 blk:Xj wx R rs 277
 res:Sz w1.heap.size wx rs (S.Ah W0 c).2
 YX:Below w1.heap.size w1 wx
theorem QqX{W0:World}{S:SS}{c:C5}{w1 w8:World}{rs:List Value}{b:Nat}(hb:w1.heap.size<=b)(r8:Ir b w8 rs (S.Ah W0 c).2)(UW:Below w1.heap.size w1 w8):DoQ W0 S c w1 ((w8.alloc qw).setCells w8.heap.size 0 rs) w8.heap.size rs:=by
 have hR:=uD (w:=w8) rfl;have h2:=hR.setCells 0 rs;rw[UH (by rw[Jk,r8.lr])]at h2;exact⟨UW.size,h2,(r8.rsv.moved (fun k _ hk=>by rw[(YI rs _ 0).1 k QQ];exact(ZT w8 qw).block k hk)).mono hb,below_setCells UW.size rs 0 (Zo.alloc UW)⟩
theorem QqZ{W0:World}{S:SS}{c:C5}{w1 w8:World}{rs:List Value}{b R:Nat}(hR:Xj w8 R YJ 277)(hlo:w1.heap.size<=R)(hb:R<b)(r8:Ir b w8 rs (S.Ah W0 c).2)(UW:Below w1.heap.size w1 w8):DoQ W0 S c w1 (w8.setCells R 0 rs) R rs:=by
 have h2:=hR.setCells 0 rs;rw[UH (by rw[Jk,r8.lr])]at h2;exact⟨hlo,h2,(r8.rsv.moved (fun k hk _=>(YI rs w8 0).1 k QQ)).mono QQ,below_setCells hlo rs 0 UW⟩
def Wl(S:SS)(c:C5):SS:=if Fv c then {S.save with now:=some (c,[])}else S
def oz(S1:SS)(s:St):SS:={S1 with text:=s.O,pos:=s.p,regs:=s.Y,fk:=s.fk,fa:=s.fa,mode:=s.md}
theorem QKc(W0:World)(S:SS)(c:C5)(h:(S.Ah W0 c).1=0):S.Ko W0 c=(if(S.Ah W0 c).2.md=0/\(Wl S c).now.isSome then {oz (Wl S c) (S.Ah W0 c).2 with last:=(Wl S c).now,now:=none}else oz (Wl S c) (S.Ah W0 c).2,true):=by
 unfold SS.Ko;rw[if_neg (fun e=>e h)];rfl
theorem QXJ(W0:World)(S:SS)(c:C5)(h:(S.Ah W0 c).1≠0):S.Ko W0 c=(S.Yt,false):=by
 unfold SS.Ko;rw[if_pos h]
theorem Lh(W0:World)(F G:Nat->Prop)(B K:Nat)(S:SS)(c:C5)(w:World)(h:Yv F G w B S)(hI:XW K S)(hm:S.mode=0)(hc:Va c)(hn:S.told.length<=4398046511103):
  Calls Tryz.prog 141 #[.pointer (some ⟨B,0,none⟩),.agg #[.int .i64 c.a,.int .i64 c.b,.int .i64 c.c,.int .i64 c.d,.int .i64 c.e]] w fun e w'=>e=.returned (.bool (S.Ko W0 c).2)/\VPs F G w B (S.Ko W0 c).1 w':=by
 obtain⟨f,hf⟩:=h;have hb1:=ZT w (.cells #[.int .i64 c.a,.int .i64 c.b,.int .i64 c.c,.int .i64 c.d,.int .i64 c.e] 87);have KO:=Za.new w #[.int .i64 c.a,.int .i64 c.b,.int .i64 c.c,.int .i64 c.d,.int .i64 c.e] 87;have hA1:=(At.begin hf).below hb1;have hFC:Fx F w (w.alloc (.cells #[.int .i64 c.a,.int .i64 c.b,.int .i64 c.c,.int .i64 c.d,.int .i64 c.e] 87)) w.heap.size:=.inr ⟨ZB _,QJ⟩;obtain⟨q,hq⟩:∃q:Nat,S.pos=q:=⟨S.pos.toNat,by have:=hI.p0;omega⟩;have hBl:=hf.uq;have HI:=Zy hI;have HN:=Zy hn;have HQ:=Zy hq;have HM:=Zy hm;clear hI hn hq hf hb1;go_enter Tryz.func141,Tryz.ntmps141
 go_upto_region 1 with fail
 generalize(w.alloc (.cells #[.int .i64 c.a,.int .i64 c.b,.int .i64 c.c,.int .i64 c.d,.int .i64 c.e] 87))=w1 at *;have hdr:w1.drew.heap.size=w1.heap.size:=rfl;obtain⟨d0,d1,d2,d3,d4⟩:=Za.five KO;have UB:=hA1.hf.cell 30;have c31:=hA1.hf.cell 31;rw[hA1.hf.d.fk]at UB;rw[hA1.hf.d.fa]at c31;have hr:=hA1.hf.range;have HA1:=Zy hA1;have kT:=Zy (fun(w':World) (hb:Below w1.heap.size w1 w')=>DL _ _ B S w' ⟨f,(HA1.out.JA hb).hf⟩ QBt);have gQ:=Zy (fun(W:World) (a:Option Addr) (n k:Nat) (vs:List Value) (hn:n=S.text.length)=>QXU W0 W S a n k q vs c hn (by have:=HQ.out;omega));have HIO:=Zy (fun(W:World) (hb:Below w1.heap.size w1 W) (a:Option Addr) (k:Nat) (hk:S.text.length<=k) (hk2:k<=9223372036854775807) (hi:Ints W a S.text) (h0:a=none->S.text.length=0)=>mf W0 HI.out (.inl HM.out) hk hk2 hi h0 (HA1.out.JA hb).hf.MB);have hSq:S.pos.toNat=q:=by have:=HQ.out;omega
 rw[hSq]at HIO;have HDM:=Zy (fun(W:World) (hb:Below w1.heap.size w1 W) (a:Option Addr) (k:Nat) (hk:S.text.length<=k) (hk2:k<=9223372036854775807) (hi:Ints W a S.text) (h0:a=none->S.text.length=0)=>
  (show Calls Tryz.prog 202 #[.agg #[.slice a S.text.length k,.int .i64 (q:Int)],.agg (XP (Sg f)),.agg #[.int .i64 S.fk,.int .i64 S.fa],.agg #[.int .i64 c.a,.int .i64 c.b,.int .i64 c.c,.int .i64 c.d,.int .i64 c.e]] W (gq (S.Ah W0 c).1 (S.Ah W0 c).2 W)from by
   have:=oq ⟨W,a,S.text.length,k,S.text,q,Sg f,S.regs⟩ (HIO.out W hb a k hk hk2 hi h0) S.fk S.fa c hc.1 hc.2;rw[gQ.out _ _ _ _ _ rfl]at this;exact this))
 clear hA1 hSq HIO gQ;have hB1:B<w1.heap.size:=HA1.out.hf.uq;have QZs:w.heap.size<w1.heap.size:=KO.lt;have hal:=NH;have hu:=Ju;have hz:(Tryz.prog.info? 36).map (·.size)=some (Sg f).length:=Yo
 go_cut [5,6] (fun v5 v6 wx=>∃R rs,v5=.pointer (some ⟨R,0,none⟩)/\v6=.int .i64 (S.Ah W0 c).1/\DoQ W0 S c w1 wx R rs)
 case first=>
  go_region_held3 (fun w'=>w'.cell? ⟨B,30,none⟩=some (.int .i64 S.fk)/\w'.cell? ⟨B,31,none⟩=some (.int .i64 S.fa)/\w'.rangeAt B 3 (Sg f)/\w'.cell? ⟨w.heap.size,0,none⟩=some (.int .i64 c.a)/\w'.cell? ⟨w.heap.size,1,none⟩=some (.int .i64 c.b)/\w'.cell? ⟨w.heap.size,2,none⟩=some (.int .i64 c.c)/\w'.cell? ⟨w.heap.size,3,none⟩=some (.int .i64 c.d)/\w'.cell? ⟨w.heap.size,4,none⟩=some (.int .i64 c.e)/\Below w1.heap.size w1 w') (first|exact⟨UB,c31,hr,d0,d1,d2,d3,d4,(ZH _ _).drew⟩|(with_reducible assumption)|exact QKd hB1 QZs ‹_› ‹_› | exact QqJ hB1 QZs ‹_› _|exact QqY hB1 QZs ‹_› _ _ ‹_›)
   (first|(go_at_call 42;refine(kT.out _ ?_).mono ?_;(·repeat' (first|(with_reducible exact ZH _ _)|(with_reducible refine Zo.alloc ?_)|(with_reducible refine Zo.drew ?_)));rintro e w5 ⟨v5,rfl,o5,hb5⟩;rw[HQ.out];obtain⟨a5,n5,k5,rfl⟩:=o5.form;have JS:Below w1.heap.size w1 w5:=QG;have s5:=o5.sl)|(go_at_call 202;obtain⟨rfl,-⟩:n5=S.text.length/\True:=⟨o5.get.1.symm,trivial⟩;refine(HDM.out _ ?_ a5 k5 ?_ ?_ ?_ ?_).mono ?_;(·repeat' (first|(with_reducible exact JS)|(with_reducible exact ZH _ _)|(with_reducible refine Zo.alloc ?_)|(with_reducible refine Zo.drew ?_)));(·exact o5.cap.1);(·exact o5.cap.2.1);(·first|exact o5.get.2.1|exact o5.get.2.1.below (ZT _ _));(·exact fun e=>s5.get.2.2.2.2 e);rintro e w8 ⟨rs,rfl,r8,XF⟩;have UW:Below w1.heap.size w1 w8:=(by refine Zo.call XF ?_;repeat' (first|(with_reducible exact JS)|(with_reducible exact ZH _ _)|(with_reducible refine Zo.alloc ?_)|(with_reducible refine Zo.drew ?_)));have qR:=r8.lr;have Sr:=r8.one;have uj:(Tryz.prog.info? 277).map (·.size)=some rs.length:=qE.trans (YA some qR.symm);(first|(refine yA (P:=Xj w8 (w1.heap.size) YJ 277) ?_ ?_;(·repeat' (first|((with_reducible refine Cx ?_);(first|rfl|(simp;done)))|(with_reducible refine Xj.YP XF ?_)|(with_reducible refine Xj.YP hb5 ?_)|(with_reducible refine Xj.J5 ?_)|(with_reducible refine Xj.alloc ?_ _)));intro VC;have QJL:=D5 VC.Ls qR Sr;have hq8:=ZB w1.heap.size)|(refine yA (P:=Xj w8 (w5.heap.size) YJ 277) ?_ ?_;(·repeat' (first|((with_reducible refine Cx ?_);(first|rfl|(simp;done)))|(with_reducible refine Xj.YP XF ?_)|(with_reducible refine Xj.YP hb5 ?_)|(with_reducible refine Xj.J5 ?_)|(with_reducible refine Xj.alloc ?_ _)));intro VC;have QJL:=D5 VC.Ls qR Sr;have hq8:=JS.size)|(have QJL:=TT (w:=w8) qR Sr;have hq8:=UW.size))))
  all_goals
   go_wp2;go_meet;first|exact⟨_,_,rfl,rfl,QqZ VC hq8 QAh r8 UW⟩|exact⟨_,_,rfl,rfl,QqX JS.size r8 UW⟩
 case rest=>
  obtain⟨R,rs,rfl,rfl,hQ⟩:=hcut;have hA2:=HA1.out.below hQ.YX;have e0:=ZL hQ.YX _ _ d0;have e1:=ZL hQ.YX _ _ d1;have e2:=ZL hQ.YX _ _ d2;have e3:=ZL hQ.YX _ _ d3;have e4:=ZL hQ.YX _ _ d4;clear UB c31 hr d0 d1 d2 d3 d4 kT HDM hal hu hz;have HA2:=Zy hA2;have HQQ:=Zy hQ;by_cases hE:(S.Ah W0 c).1=0
  ·have HD:=Zy (QKc W0 S c hE)
   have QKu:(S.Ah W0 c).2.O.length<=200:=(eU (OH W0 HI.out (.inl HM.out)) HI.out.rs hE).len;rw[hE];clear hE hA2 hQ;generalize hs:(S.Ah W0 c).2=s at HD QKu;go_upto_if 27 with(go_at_call 203;refine(Ll c _).mono ?_;rintro e w3 ⟨rfl,hb3⟩)
   have hA3:=HA2.out.JA hb3;have kg:=Zy hA3;have HS3:=Zy (Same.below (F:=Fx (Fx F w w1) w1 wc) (HA2.out.bF) hb3)
   go_cut [28] (fun _ wx=>∃F3 f3,At F G w F3 wx B f3 (Wl S c)/\(∀k,Fx (Fx F w w1) w1 wc k->F3 k)/\Same (Fx (Fx F w w1) w1 wc) wc wx)
   case first=>
    cases hch:Fv c with
    | false=>
     have h1:Wl S c=S:=by unfold Wl;rw[hch];rfl
     have H1:=Zy h1;clear h1;go_wp2;go_meet;exact⟨_,f,by rw[H1.out];exact kg.out,fun _ h=>h,HS3.out⟩
    | true=>
     have h1:Wl S c={S.save with now:=some (c,[])}:=by unfold Wl;rw[hch];rfl
     have H1:=Zy h1;clear h1;have HSV:=Zy (Nr _ _ B S w3 ⟨f,kg.out.hf⟩ HI.out.pl);go_wp2_with fail
     refine HSV.out.mono ?_;rintro e w4 ⟨rfl,hv4⟩;obtain⟨F4,f4,UY,hsub,hsame⟩:=kg.out.call hv4;have hk4:∀i v,wc.cell? ⟨w.heap.size,i,none⟩=some v->w4.cell? ⟨w.heap.size,i,none⟩=some v:=fun i v h=>hsame.JB _ _ (.inl hFC) (ZL hb3 _ _ h)
     have k0:=hk4 _ _ e0;have k1:=hk4 _ _ e1;have k2:=hk4 _ _ e2;have k3:=hk4 _ _ e3;have k4:=hk4 _ _ e4;have z47:=UY.hf.free 47;have y47:=UY.hf.cell 47;have hbl:=UY.hf.uq;have Kn:=UY.QQc c;have hS5:=(((HS3.out.trans hsame).trans (Same.below (fun k hk=>UY.bF k (hsub k hk)) (ZT w4 (.cells #[.int .i64 c.a,.int .i64 c.b,.int .i64 c.c,.int .i64 c.d,.int .i64 c.e,.slice none 0 0] 219)))).trans (Same.setCell (i:=47) HA2.out.hf.m.nB (.pointer (some ⟨w4.heap.size,0,none⟩))));rw[World.setCell_alloc_past _ _ _ _ hbl]at Kn hS5;have SG:=Zy Kn;have LB:=Zy hS5;have HSU:=Zy hsub;clear hv4 UY hsame hk4 hsub Kn hS5;go_wp2;go_meet;exact⟨F4,_,by rw[H1.out];exact SG.out,HSU.out,LB.out⟩
   case rest=>
    obtain⟨F3,f3,Kn,hsub,hs5⟩:=hcut;obtain⟨W5,nW⟩:∃W5,W5=wc:=⟨_,rfl⟩;subst nW;have KF:Xj W5 R rs 277:=Za.moved HQQ.out.blk (hs5 R (.inr ⟨HQQ.out.lo,HQQ.out.blk.lt⟩));have gH:Sz w1.heap.size W5 rs s:=by
     have:=HQQ.out.res.moved (fun k h1 h2=>hs5 k (.inr ⟨h1,h2⟩));rw[hs]at this;exact this
    have hYl:Yd F3 W5 (LH rs) s.Y:=by
     have:=(HQQ.out.res.lists (F:=Fx (Fx F w w1) w1 wc) fun k hk=>.inr hk).imp fun v xs g=>(g.keep hs5.JB).imp hsub
     rw[hs]at this;exact this
    have hlr:=gH.lr;have hyl:=zQ hlr;have hrg:=O4 KF hlr;obtain⟨oa,on,oc,hov⟩:=gH.o.form;have r0:=KF.cell (i:=0) QQ;have r1:=KF.cell (i:=1) QQ;have r29:=KF.cell (i:=29) QQ;have r30:=KF.cell (i:=30) QQ;have r31:=KF.cell (i:=31) QQ;rw[hov]at r0;rw[gH.p]at r1;rw[gH.f1]at r29;rw[gH.f2]at r30;rw[gH.m]at r31;have nH:VF W5.drew B f3:=Kn.hf.m.blk;have ht5:W5.drew.there B 3 27:=fun j hj=>⟨by rw[nH.cell QQ];rfl,nH.free _⟩
    have QKB:=nH.regs (LH rs) hyl;have Vt:=Kn.drew.stB (S':={Wl S c with regs:=s.Y}) QKB (YI _ _ _).2.1 (YI _ _ _).2.2.1 (YI _ _ _).2.2.2 (size_setCells _ _ _) (YI _ _ _).1 rfl rfl rfl
     {Kn.drew.hf.d with lr:=gH.ly,regs:=by rw[aW f3 _ hyl];exact hYl} ⟨rfl,rfl,rfl⟩
    have jP:=Vt.store (S':={Wl S c with regs:=s.Y,fk:=s.fk}) 30 (.int .i64 s.fk) {Vt.hf.d with fk:=rfl};have qj:=jP.store (S':={Wl S c with regs:=s.Y,fk:=s.fk,fa:=s.fa}) 31 (.int .i64 s.fa) {jP.hf.d with fa:=rfl};have Wq:=qj.store (S':={Wl S c with regs:=s.Y,fk:=s.fk,fa:=s.fa,mode:=s.md}) 2 (.int .i64 s.md) {qj.hf.d with mode:=rfl};have y30:=Vt.hf.cell 30;have z30:=Vt.hf.free 30;have y31:=Vt.hf.cell 31;have z31:=Vt.hf.free 31;have y2:=Vt.hf.cell 2;have z2:=Vt.hf.free 2;have hRB:R≠B:=fun e=>Kn.hf.m.nB (e▸hsub R (.inr ⟨HQQ.out.lo,HQQ.out.blk.lt⟩))
    have HA9:=Zy Wq;have hq0:RdS R rs oa on oc s.p s.fk s.fa s.md (LH rs) W5.drew:=⟨hrg,r0,r1,r29,r30,r31⟩;have hq1:=rdK (B:=B) hRB hq0 (YI (B:=B) (LH rs) W5.drew 3).1;have hq3:=rdK (B:=B) hRB (rdK (B:=B) hRB hq1 (fun k hk=>Zm (W5.drew.setCells B 3 (LH rs)) ⟨B,30,none⟩ (.int .i64 s.fk) k hk)) (fun k hk=>Zm _ ⟨B,31,none⟩ (.int .i64 s.fa) k hk);have hq4:=rdK (B:=B) hRB hq3 (fun k hk=>Zm _ ⟨B,2,none⟩ (.int .i64 s.md) k hk);have Q1:=Zy hq1;have Q3:=Zy hq3;have Q4:=Zy hq4;clear hq0 hq1 hq3 hq4;have hal:=Ju;have hz:(Tryz.prog.info? 36).map (·.size)=some (LH rs).length:=by rw[hyl];exact Yo
    have ho:=gH.one;have HV5:=Zy gH;have hsl:Yf F3 W5.drew (.slice oa on oc) s.O:=by
     have:=((HQQ.out.res.o.jr.lt.imp (Q:=Fx (Fx F w w1) w1 wc) fun k hk=>.inr hk).keep hs5.JB).imp hsub;rw[hs,hov]at this;exact this
    have hO4:on<=4096:=by have:=hsl.get.1;omega
    have QJO:=hsl.keep (w':=(((W5.drew.setCells B 3 (LH rs)).setCell ⟨B,30,none⟩ (.int .i64 s.fk)).setCell ⟨B,31,none⟩ (.int .i64 s.fa)).setCell ⟨B,2,none⟩ (.int .i64 s.md))
     (Same.JB (F:=F3) fun k hk=>by
      have hkB:k≠B:=fun e=>Kn.hf.m.nB (e▸hk)
      rw[Zm _ _ _ _ hkB,Zm _ _ _ _ hkB,Zm _ _ _ _ hkB,(YI _ _ _).1 k hkB])
    have HST:=Zy (Lf F3 _ B {Wl S c with regs:=s.Y,fk:=s.fk,fa:=s.fa,mode:=s.md} oa on oc s.O s.p _ ⟨_,Wq.hf⟩ QJO.sl hO4);clear Kn Vt jP qj Wq nH QKB gH hYl hsl QJO;go_upto_region 8 with fail
    go_region_held3 (fun w'=>w'.rangeAt R 2 (LH rs)/\w'.cell? ⟨R,0,none⟩=some (.slice oa on oc)/\w'.cell? ⟨R,1,none⟩=some (.int .i64 s.p)/\w'.cell? ⟨R,29,none⟩=some (.int .i64 s.fk)/\w'.cell? ⟨R,30,none⟩=some (.int .i64 s.fa)/\w'.cell? ⟨R,31,none⟩=some (.int .i64 s.md)) (first|exact⟨hrg,r0,r1,r29,r30,r31⟩|(with_reducible assumption)|(with_reducible exact Q1.out)|(with_reducible exact Q3.out)|(with_reducible exact Q4.out)) (fail)
    all_goals
     dsimp only[Exit.then];go_wp2_with fail
     refine HST.out.mono ?_;rintro e w7 ⟨rfl,hv7⟩;obtain⟨F7,f7,Ij,-,-⟩:=HA9.out.call hv7;obtain⟨x2,v2⟩:=Ij.hf.m.blk.at 2;obtain⟨x46,v46⟩:=Ij.hf.m.blk.at 46;obtain⟨ru,v47⟩:=Ij.hf.m.blk.at 47;have QJt:f7 2=.int .i64 s.md:=Ij.hf.d.mode;rw[QJt]at x2;have Es:=Ij.hf.m.now;have hst:SS.set {Wl S c with regs:=s.Y,fk:=s.fk,fa:=s.fa,mode:=s.md} s.O s.p=oz (Wl S c) s:=rfl;rw[hst]at Ij Es;have hno:(oz (Wl S c) s).now=(Wl S c).now:=rfl;have QX2:=Zy Ij;have Kj:=Zy hno;clear Ij hv7 hst QJt;rw[hno]at Es;clear hno;by_cases hmd:s.md=0
     ·rw[hmd]at x2
      have HMD:=Zy hmd;clear hmd;cases yV:(Wl S c).now with
      | none=>
       rw[yV]at Es;have Es:f7 47=.pointer none:=Es;rw[Es]at ru;have TJ:=Zy yV;clear Es yV;go_wp2;go_ret;exact⟨by rw[HD.out];rfl,by rw[HD.out,TJ.out,if_neg (fun e=>by cases e.2)];exact QX2.out.done⟩
      | some qq=>
       rw[yV]at Es;obtain⟨c7,Ff⟩:=qq;obtain⟨C7,tv7,h47,-⟩:=Es;rw[h47]at ru;have TJ:=Zy yV;have H47:=Zy h47;clear h47 yV;go_wp2;go_ret;obtain⟨F9,QKI⟩:=QX2.out.uK (Kj.out.trans TJ.out);rw[H47.out]at QKI;exact⟨by rw[HD.out];rfl,by rw[HD.out,if_pos ⟨HMD.out,by rw[TJ.out];rfl⟩];exact QKI.done⟩
     ·have hmb:(s.md==0)=false:=by simpa using hmd
      have HMD:=Zy hmd;clear hmd Es;go_wp2;go_ret;exact⟨by rw[HD.out];rfl,by rw[HD.out,if_neg (fun e=>HMD.out e.1)];exact QX2.out.done⟩
  ·have HD:=Zy (QXJ W0 S c hE)
   have HB:=Zy (U2 _ _ B S _ ⟨f,hA2.hf⟩ HN.out);have hE2:((S.Ah W0 c).1 !=0)=true:=QBC;clear hA2 hQ hE;generalize(S.Ah W0 c).1=er at hE2 ⊢;go_wp2_with fail
   refine HB.out.mono ?_;rintro e w7 ⟨rfl,hv⟩;go_wp2;go_ret;obtain⟨F',f',hA3,-,-⟩:=HA2.out.call hv;exact⟨by rw[HD.out];rfl,by rw[HD.out];exact hA3.done⟩
theorem El(mode key b:Int)(hm:mode=1\/mode=2)(h:32<=key/\key≠127):Jy [] 0 mode key b=([key],1,0):=by
 unfold Jy;rw[if_neg QJ,if_neg QY,if_pos h,if_neg QJ,if_neg QJ];simp
theorem Ei(mode key b:Int)(hm:mode=1\/mode=2)(h:¬(32<=key/\key≠127))(h2:key≠8/\key≠127/\key≠21/\key≠23):Jy [] 0 mode key b=([],0,9):=by
 unfold Jy;rw[if_neg QJ,if_neg QY,if_neg h,if_pos h2]
theorem Bh(mode key b:Int)(hm:mode=1\/mode=2)(h:¬(32<=key/\key≠127))(h2:¬(key≠8/\key≠127/\key≠21/\key≠23)):Jy [] 0 mode key b=([],0,5):=by
 unfold Jy;rw[if_neg QJ,if_neg QY,if_neg h,if_neg h2,if_pos rfl]
theorem bn(w:World)(x:Int):Ints (w.alloc (.cells #[.int .i64 x] 3)) (some ⟨w.heap.size,0,none⟩) [x]:=
 .inr ⟨_,_,rfl,fun i hi=>by
  obtain rfl:i=0:=QAs;exact Y8 w (.int .i64 x) 3⟩
theorem Fj(mode key:Int)(w:World)(hmode:mode=1\/mode=2):
  Calls Tryz.prog 136 #[.agg #[.slice none 0 0,.int .i64 0],.int .i64 mode,.int .i64 key] w (Yp True (KH [] false 0) [] 0 mode key w):=by
 have hb:=Zn w (.cells #[.slice none 0 0,.int .i64 0] 30) (.cells #[.slice none 0 0,.int .i64 0] 30);have hA:=Za.new (w.alloc (.cells #[.slice none 0 0,.int .i64 0] 30)) #[.slice none 0 0,.int .i64 0] 30;have hP:=(Za.new w #[.slice none 0 0,.int .i64 0] 30).alloc (.cells #[.slice none 0 0,.int .i64 0] 30);rw[Zv]at hA;have hnb:¬U1 [] 0 mode key:=fun h=>by have:=h.2.1;omega
 go_enter Tryz.func136,Tryz.ntmps136
 go_upto_region 4 with fail
 obtain⟨w2,hW2⟩:∃w2,w2=(w.alloc (.cells #[.slice none 0 0,.int .i64 0] 30)).alloc (.cells #[.slice none 0 0,.int .i64 0] 30):=⟨_,rfl⟩;rw[<-hW2]at hb hA hP ⊢;clear hW2;obtain⟨c0,c1,-,-⟩:=hP.two;obtain⟨d0,d1,f0,f1⟩:=hA.two;have hz:=hA.lt
 go_cut [34] (fun v wx=>v=.bool false/\wx=w2)
 case first=>
  rcases hmode with rfl|rfl
  all_goals
   exact QDL
 case rest=>
  obtain⟨rfl,rfl⟩:=hcut;go_upto_region 6 with fail
  go_quiet (fail)
  by_cases hpr:32<=key/\key≠127
  ·have HK:=Zy (El mode key 0 hmode hpr)
   obtain⟨k1,k2⟩:=hpr;have g1:(key !=127)=true:=QBB;have DZ:=bn (wc.drewN nq) key;have hres:=(hA.drewN nq).alloc (.cells #[.int .i64 key] 3);have hbw:=(below_drewN (ZT wc (.cells #[.int .i64 key] 3)) nq);obtain⟨mb,hmb⟩:∃mb:Bool,(mode==2)=mb:=⟨_,rfl⟩;go_upto_region 25 with fail
   all_goals
    obtain⟨w3,hw3⟩:∃w3,w3=(wc.drewN nq).alloc (.cells #[.int .i64 key] 3):=⟨_,rfl⟩;have hB3:Below wc.heap.size wc w3:=by rw[hw3];exact(below_drewN (ZH _ _) nq).alloc (ZB _) _
    rw[show(wc.drewN nq).heap.size=wc.heap.size from rfl]at DZ;rw[<-hw3]at DZ hres ⊢;have e0:=ZL hB3 _ _ c0;have hz3:w.heap.size+1<w3.heap.size:=hres.lt;have hbx:=ZE hb hb.size hB3;clear hw3 c0 c1 d0 d1 f0 f1 hA hP hb;have IK:=(Nu w3 26 (n0:=0) (n1:=1) (n2:=0) 0 1 0 (Ints.nil w3 none) DZ (Ints.nil w3 none) rfl rfl rfl QJ QJ QJ (fun _=>rfl) (fun h=>QBQ) (fun _=>rfl)).drew;have hck:=ZT w3 (.cells #[.slice none 0 0,.slice (some ⟨wc.heap.size,0,none⟩) 1 1,.slice none 0 0] 26);generalize wc.heap.size=G3 at IK hck DZ ⊢;have iw:IntKind.i64.wrap (1:Int)=1:=QAz
    go_region_law (first|(go_simp;go_at_call 200;refine(Vi _ 3 _ _ _ _ _ IK QQ).mono ?_;rintro e w8 ⟨v8,rfl,o8,XF⟩;obtain⟨a8,n8,c8,rfl⟩:=o8.form;have IX:Za w8 (w.heap.size+1) #[.slice none 0 0,.int .i64 0] 30:=Za.below ((hres.alloc _).drew) XF (by show _<(w3.alloc _).heap.size;rw[Zv];omega);obtain⟨kd0,kd1,kf0,kf1⟩:=IX.two))
    all_goals
     have Jv:Below w3.heap.size w3 w8:=hck.drew.trans (XF.mono (by show _<=(w3.alloc _).heap.size;rw[Zv];omega));rw[Mc]at o8;have hG:=((IX.set 0 (.slice a8 n8 c8)).set 1 (.int .i64 1));obtain⟨y0,y1,-,-⟩:=Za.two hG;have o8:=o8.mono (base':=w3.heap.size+1) (by show w3.heap.size+1<=(w3.alloc _).heap.size;rw[Zv];omega);have o9:=(o8.setCell (a:=⟨w.heap.size+1,0,none⟩) QAe (.slice a8 n8 c8)).setCell (a:=⟨w.heap.size+1,1,none⟩) QAe (.int .i64 1);go_simp;go_wp2;refine ZC (v:=.tuple #[.agg #[.slice a8 n8 c8,.int .i64 1],.int .i64 0]) QA rfl ?_;refine Yp.of (hcap:=o9.QXV (by have:=hbx.size;omega)) HK.out (fun h=>absurd h hnb) (by simpa using o9.get.2.1) (by simpa using o9.get.1) (by have:=o9.get.1;simp at this;omega) ?_;exact QFV
  ·by_cases h4:key≠8/\key≠127/\key≠21/\key≠23
   ·have HK:=Zy (Ei mode key 0 hmode hpr h4)
    obtain⟨k1,k2,k3,k4⟩:=h4;have g1:(key !=8)=true:=by simpa using k1
    have g2:(key !=127)=true:=QBB;have g3:(key !=21)=true:=by simpa using k3
    have g4:(key !=23)=true:=by simpa using k4
    have k5:¬32<=key:=fun h=>hpr ⟨h,k2⟩
    clear hpr;go_wp2;obtain⟨y0,y1,-,-⟩:=Za.two (((hA.drewN nq).set 0 (.slice none 0 0)).set 1 (.int .i64 0));refine ZC (v:=.tuple #[.agg #[.slice none 0 0,.int .i64 0],.int .i64 9]) QA rfl ?_;exact QEc
   ·have HK:=Zy (Bh mode key 0 hmode hpr h4)
    have h5:key=8\/key=127\/key=21\/key=23:=QQ;clear hpr h4;rcases h5 with rfl|rfl|rfl|rfl
    all_goals
     go_wp2;obtain⟨y0,y1,-,-⟩:=Za.two (((hA.drewN nq).set 0 (.slice none 0 0)).set 1 (.int .i64 0));refine ZC (v:=.tuple #[.agg #[.slice none 0 0,.int .i64 0],.int .i64 5]) QA rfl ?_;exact QEc
end Go.Proofs.YtmdcencmiopmmaaGreat
