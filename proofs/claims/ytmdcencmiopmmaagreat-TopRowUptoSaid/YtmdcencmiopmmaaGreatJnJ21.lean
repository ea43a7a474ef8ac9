/- joined, no condition of its own. -/
import Derived.Test.YtmdcencmiopmmaaGreatJnT
import Derived.Test.YtmdcencmiopmmaaGreatJnJ20
set_option linter.unusedVariables false
set_option linter.unusedSimpArgs false
set_option maxRecDepth 100000
set_option maxHeartbeats 12000000
namespace Go.Proofs.YtmdcencmiopmmaaGreat
open Go.RowKit
structure kS (base:Nat) (w:World) (lv sv pv:Value) (ls:List (List Int)) (XQ pat:List Int):Prop where
 row:∃vs,XT 26 base w lv vs/\UE base w vs ls
 XQ:Own 3 base w sv XQ
 pat:Own 3 base w pv pat
theorem kS.setCell{base:Nat}{w:World}{lv sv pv:Value}{ls:List (List Int)}{XQ pat:List Int}(h:kS base w lv sv pv ls XQ pat){a:Addr}(ha:a.block<base)(u:Value):kS base (w.setCell a u) lv sv pv ls XQ pat:=by
 obtain⟨vs,h1,h2⟩:=h.row;exact⟨⟨vs,h1.setCell ha u,h2.imp fun _ _ k=>k.setCell ha u⟩,h.XQ.setCell ha u,h.pat.setCell ha u⟩
theorem kS.kept{base:Nat}{w w':World}{lv sv pv:Value}{ls:List (List Int)}{XQ pat:List Int}(h:kS base w lv sv pv ls XQ pat)(hb:Below w.heap.size w w'):kS base w' lv sv pv ls XQ pat:=by
 obtain⟨vs,h1,h2⟩:=h.row;exact⟨⟨vs,h1.kept hb,h2.imp fun _ _ k=>k.kept hb⟩,h.XQ.kept hb,h.pat.kept hb⟩
theorem kS.mono{base base':Nat}{w:World}{lv sv pv:Value}{ls:List (List Int)}{XQ pat:List Int}(h:kS base w lv sv pv ls XQ pat)(hb:base'<=base):kS base' w lv sv pv ls XQ pat:=by
 obtain⟨vs,h1,h2⟩:=h.row;exact⟨⟨vs,h1.mono hb,h2.imp fun _ _ k=>k.mono hb⟩,h.XQ.mono hb,h.pat.mono hb⟩
theorem kS.form{base:Nat}{w:World}{lv sv pv:Value}{ls:List (List Int)}{XQ pat:List Int}(h:kS base w lv sv pv ls XQ pat):(∃a n c,lv=.slice a n c)/\(∃a n c,sv=.slice a n c)/\(∃a n c,pv=.slice a n c):=by
 obtain⟨vs,h1,h2⟩:=h.row;exact⟨h1.form,h.XQ.form,h.pat.form⟩
structure Vw (P:Nat->Prop) (w:World) (lv:Value) (most Zi:Int) (sv pv:Value) (older:Bool) (h:Hi):Prop where
 ls:∃vs,Dx P w lv vs/\Yd P w vs h.ls
 most:most=h.most
 Zi:Zi=h.Zi
 XQ:Yf P w sv h.XQ
 pat:Yf P w pv h.pat
 older:older=h.older
theorem Vw.hir{P:Nat->Prop}{w:World}{lv:Value}{most Zi:Int}{sv pv:Value}{older:Bool}{h:Hi}(r:Vw P w lv most Zi sv pv older h):WB w lv most Zi sv pv older h:=by
 obtain⟨vs,h1,h2⟩:=r.ls;exact⟨⟨vs,h1.vs,h2.lists⟩,r.most,r.Zi,r.XQ.sl,r.pat.sl,r.older⟩
theorem Vw.keep{P:Nat->Prop}{w w':World}{lv:Value}{most Zi:Int}{sv pv:Value}{older:Bool}{h:Hi}(r:Vw P w lv most Zi sv pv older h)(hc:∀p v,P p.block->w.cell? p=some v->w'.cell? p=some v):Vw P w' lv most Zi sv pv older h:=by
 obtain⟨vs,h1,h2⟩:=r.ls;exact⟨⟨vs,h1.keep hc,h2.imp fun _ _ k=>k.keep hc⟩,r.most,r.Zi,r.XQ.keep hc,r.pat.keep hc,r.older⟩
theorem Vw.imp{P Q:Nat->Prop}{w:World}{lv:Value}{most Zi:Int}{sv pv:Value}{older:Bool}{h:Hi}(r:Vw P w lv most Zi sv pv older h)(hi:∀k,P k->Q k):Vw Q w lv most Zi sv pv older h:=by
 obtain⟨vs,h1,h2⟩:=r.ls;exact⟨⟨vs,h1.imp hi,h2.imp fun _ _ k=>k.imp hi⟩,r.most,r.Zi,r.XQ.imp hi,r.pat.imp hi,r.older⟩
theorem Vw.setCell{P:Nat->Prop}{w:World}{lv:Value}{most Zi:Int}{sv pv:Value}{older:Bool}{h:Hi}(r:Vw P w lv most Zi sv pv older h){a:Addr}(ha:¬P a.block)(u:Value):Vw P (w.setCell a u) lv most Zi sv pv older h:=
 r.keep fun p v hp hc=>Zr hc (fun e=>ha (e▸hp))
theorem Vw.below{P:Nat->Prop}{w w':World}{lv:Value}{most Zi:Int}{sv pv:Value}{older:Bool}{h:Hi}(r:Vw P w lv most Zi sv pv older h)(hb:Below w.heap.size w w'):Vw P w' lv most Zi sv pv older h:=r.keep fun p v _ hc=>ZL hb p v hc
theorem Vw.lt{P:Nat->Prop}{w:World}{lv:Value}{most Zi:Int}{sv pv:Value}{older:Bool}{h:Hi}(r:Vw P w lv most Zi sv pv older h):Vw (fun k=>P k/\k<w.heap.size) w lv most Zi sv pv older h:=by
 obtain⟨vs,h1,h2⟩:=r.ls;exact⟨⟨vs,h1.lt,h2.lt⟩,r.most,r.Zi,r.XQ.lt,r.pat.lt,r.older⟩
theorem kS.hip{base:Nat}{w:World}{lv sv pv:Value}{ls:List (List Int)}{XQ pat:List Int}(h:kS base w lv sv pv ls XQ pat)(most Zi:Int)(older:Bool):Vw (fun k=>base<=k) w lv most Zi sv pv older ⟨ls,most,Zi,XQ,pat,older⟩:=by
 obtain⟨vs,h1,h2⟩:=h.row;exact⟨⟨vs,h1.vsp,⟨h2.1,fun i hi=>(h2.2 i hi).jr⟩⟩,rfl,rfl,h.XQ.jr,h.pat.jr,rfl⟩
def JC(P:Nat->Prop)(h:Hi)(line:List Int)(E:Int)(w:World)(e:Ending)(w':World):Prop:=
 ∃lv sv pv nv,e=.returned (.tuple #[.agg (X3 lv h.most h.Zi sv pv h.older),nv,.int .i64 E])/\Vw P w' lv h.most h.Zi sv pv h.older h/\Yf P w' nv line/\Below w.heap.size w w'
def hi0:Hi:=⟨[],0,0,[],[],false⟩
theorem xX(P:Nat->Prop)(w:World):Vw P w (.slice none 0 0) 0 0 (.slice none 0 0) (.slice none 0 0) false hi0:=⟨⟨[],Dx.nil _ _,⟨rfl,fun i hi=>by simp[hi0]at hi⟩⟩,rfl,rfl,Yf.nil _ _,Yf.nil _ _,rfl⟩
structure qW (h:Hi):Prop where
 Hm:1<=h.most
 UQ:h.most<=50
 len:(h.ls.length:Int)<=h.most
 VX:0<=h.Zi
 Us:h.Zi<=h.ls.length
 lines:∀i,i<h.ls.length->(rx h.ls i).length<=200
 XQ:h.XQ.length<=200
 pat:h.pat.length<=200
theorem We{h:Hi}(hE:xC h=0):qW h:=by
 unfold xC at hE;split at hE
 ·simp at hE
 ·split at hE
  ·simp at hE
  ·rename_i h1 h2
   simp only[Bool.not_eq_true,Bool.or_eq_false_iff,Kg,ZG,List.any_eq_false,XI]at h2;refine⟨QQ,QQ,QQ,QQ,QQ,fun i hi=>?_,QQ,QQ⟩;have:=h2.1.1 (rx h.ls i) (Mj hi);omega
def Xd(h:Hi)(nn:Nat)(n:Int):Int:=if xC h≠0 then xC h else if 200<nn then 2 else if n<0\/999<n then 1 else 0
theorem YW(lv:Value)(most Zi:Int)(sv pv:Value)(older:Bool)(h:Hi)(a:Option Addr)(nn c:Nat)(n:Int)(w:World)(r:WB w lv most Zi sv pv older h):
  Calls Tryz.prog 191 #[.agg (X3 lv most Zi sv pv older),.slice a nn c,.int .i64 n] w fun e w'=>e=.returned (.int .i64 (Xd h nn n))/\Below w.heap.size w w':=by
 obtain⟨E,hE⟩:∃E,xC h=E:=⟨_,rfl⟩;have hR:Xd h nn n=if E≠0 then E else if 200<nn then 2 else if n<0\/999<n then 1 else 0:=by rw[Xd,hE]
 have HC:=Zy (Vz lv most Zi sv pv older h);have HE:=Zy hE;have hrr:=r;obtain⟨⟨vs,hvs,hls⟩,-,-,Xl,Xm,-⟩:=r;obtain⟨la,ln,lc,rfl,-⟩:=hvs;obtain⟨sa,sn,sc,rfl,-⟩:=Xl;obtain⟨pa,pn,pc,rfl,-⟩:=Xm;have HRR:=Zy hrr;clear hls hE hrr;unfold X3 at *;have hB:=Za.new w #[.slice la ln lc,.int .i64 most,.int .i64 Zi,.slice sa sn sc,.slice pa pn pc,.bool older] 65;obtain⟨c0,c1,c2,c3,c4,c5⟩:=hB.six;have hacc:=ZT w (.cells #[.slice la ln lc,.int .i64 most,.int .i64 Zi,.slice sa sn sc,.slice pa pn pc,.bool older] 65);have QXS:=Zy (HRR.out.below hacc);by_cases h0:E=0
 ·rw[if_neg Q7]at hR
  subst h0;rcases(show 200<nn\/(nn<=200/\n<0)\/(nn<=200/\0<=n/\999<n)\/(nn<=200/\0<=n/\n<=999) from QQ)with h1|⟨h1,h2⟩|⟨h1,h2,h3⟩|⟨h1,h2,h3⟩
  ·rw[if_pos h1]at hR
   have HR:=Zy hR;clear hR;exact QDh
  all_goals
   rw[if_neg QQ]at hR;first|rw[if_pos QQ]at hR|rw[if_neg QQ]at hR
   have HR:=Zy hR;clear hR;exact QDh
 ·rw[if_pos h0]at hR
  have HR:=Zy hR;have h0':(E !=0)=true:=Q7;clear hR h0;exact QDh
theorem Oe{w:World}{B:Nat}{u0 u1 u2 u3 u4 u5:Value}{p:Addr}{v:Value}(hc:w.cell? p=some v)(hne:p.block≠B):
  ((((((w.setCell ⟨B,0,none⟩ u0).setCell ⟨B,1,none⟩ u1).setCell ⟨B,2,none⟩ u2).setCell ⟨B,3,none⟩ u3).setCell ⟨B,4,none⟩ u4).setCell ⟨B,5,none⟩ u5).cell? p=some v:=
 Zr (Zr (Zr (Zr (Zr (Zr hc hne) hne) hne) hne) hne) hne
theorem Jd{N B:Nat}{w0 w:World}{u0 u1 u2 u3 u4 u5:Value}(h:Below N w0 w)(hB:N<=B):
  Below N w0 ((((((w.setCell ⟨B,0,none⟩ u0).setCell ⟨B,1,none⟩ u1).setCell ⟨B,2,none⟩ u2).setCell ⟨B,3,none⟩ u3).setCell ⟨B,4,none⟩ u4).setCell ⟨B,5,none⟩ u5):=
 (((((h.setCell (p:=⟨B,0,none⟩) hB u0).setCell (p:=⟨B,1,none⟩) hB u1).setCell (p:=⟨B,2,none⟩) hB u2).setCell (p:=⟨B,3,none⟩) hB u3).setCell (p:=⟨B,4,none⟩) hB u4).setCell (p:=⟨B,5,none⟩) hB u5
theorem Yf.six{P:Nat->Prop}{w:World}{B:Nat}{u0 u1 u2 u3 u4 u5:Value}{v:Value}{xs:List Int}(h:Yf P w v xs)(hB:¬P B):
  Yf P ((((((w.setCell ⟨B,0,none⟩ u0).setCell ⟨B,1,none⟩ u1).setCell ⟨B,2,none⟩ u2).setCell ⟨B,3,none⟩ u3).setCell ⟨B,4,none⟩ u4).setCell ⟨B,5,none⟩ u5) v xs:=
 h.keep fun p v hp hc=>Oe hc (fun e=>hB (e▸hp))
theorem Vw.six{P:Nat->Prop}{w:World}{B:Nat}{u0 u1 u2 u3 u4 u5:Value}{lv:Value}{most Zi:Int}{sv pv:Value}{older:Bool}{h:Hi}(r:Vw P w lv most Zi sv pv older h)(hB:¬P B):
  Vw P ((((((w.setCell ⟨B,0,none⟩ u0).setCell ⟨B,1,none⟩ u1).setCell ⟨B,2,none⟩ u2).setCell ⟨B,3,none⟩ u3).setCell ⟨B,4,none⟩ u4).setCell ⟨B,5,none⟩ u5) lv most Zi sv pv older h:=
 r.keep fun p v hp hc=>Oe hc (fun e=>hB (e▸hp))
theorem Za.six'{w:World}{B:Nat}{a0 a1 a2 a3 a4 a5:Value}{e:TypeId}(h:Za w B #[a0,a1,a2,a3,a4,a5] e)(u0 u1 u2 u3 u4 u5:Value):
  Za ((((((w.setCell ⟨B,0,none⟩ u0).setCell ⟨B,1,none⟩ u1).setCell ⟨B,2,none⟩ u2).setCell ⟨B,3,none⟩ u3).setCell ⟨B,4,none⟩ u4).setCell ⟨B,5,none⟩ u5) B #[u0,u1,u2,u3,u4,u5] e:=by
 have hG:=((((((h.set 0 u0).set 1 u1).set 2 u2).set 3 u3).set 4 u4).set 5 u5);simpa only[Zj,Zk,Zu]using hG
end Go.Proofs.YtmdcencmiopmmaaGreat
