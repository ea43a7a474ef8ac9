/- LiftTopBounds: joined, no condition of its own. -/
import Derived.Test.YtmdcencmiopmmaaGreatTbJoinT
import Derived.Test.YtmdcencmiopmmaaGreatTbJoinJ5
set_option linter.unusedVariables false
set_option linter.unusedSimpArgs false
set_option maxRecDepth 100000
set_option maxHeartbeats 12000000
namespace Go.Proofs.YtmdcencmiopmmaaGreat
open Go.RowKit
def gJ(r:Option Int):Int:=match r with|some x=>x|none=>0
def gY(r:Option Int):Int:=match r with|some x=>0|none=>5
def Vr(r:Option Int)(w:World)(e:Ending)(w':World):Prop:=e=.returned (.tuple #[.int .i64 (gJ r),.int .i64 (gY r)])/\Below w.heap.size w w'
theorem Vr.of{r:Option Int}{A E:Int}{w w':World}(h:r=if E=0 then some A else none)(hE:E=0\/(E=5/\A=0))(hb:Below w.heap.size w w'):Vr r w (.returned (.tuple #[.int .i64 A,.int .i64 E])) w':=by
 subst h;rcases hE with rfl|⟨rfl,rfl⟩
 ·exact⟨rfl,hb⟩
 ·exact⟨rfl,hb⟩
theorem KG(a:Option Addr)(n c:Nat)(l:List Int)(k m:Nat)(op:Bool)(ch:Int)(w:World)(hl:Ints w a l)(hn:l.length=n)(hn2:n<=4096)(hk:k<=n)(hm0:1<=m)(hm:m<=1000):
  Calls Tryz.prog 297 #[Yf a n c k (m:Int) op,.int .i64 ch,.int .i64 1] w (Vr ((Xo l k ch)[m-1]?) w):=by
 unfold Yf;have HR:=QQ (show(Lf l ch (k+1) (n-(k+1)))[m-1]? =(Xo l k ch)[m-1]? by rw[Xo,hn]);have HN:=QQ hn;clear hn;have hB:=QD.new w #[.slice a n c,.int .i64 (k:Int),.int .i64 (m:Int),.bool op] 359;obtain⟨c0,c1,c2,c3⟩:=hB.four;have hacc:=QC w (.cells #[.slice a n c,.int .i64 (k:Int),.int .i64 (m:Int),.bool op] 359);have hI:=hl.below hacc;go_enter Tryz.func297,Tryz.ntmps297
 go_wp2
 go_loop [8,9] (fun mv iv=>∃i m':Nat,mv=.int .i64 (m':Int)/\iv=.int .i64 (i:Int)/\i<=n+1/\1<=m'/\m'<=m/\(Lf l ch i (n-i))[m'-1]? =(Xo l k ch)[m-1]?) (fun _ iv=>n+1-(intOf iv).toNat)
 case atStart=>exact⟨k+1,m,rfl,by go_num,by omega,by omega,by omega,HR.out⟩
 case round=>
  obtain⟨i,m',rfl,rfl,hi,hm1,hm2,hp⟩:=hrel;by_cases hlt:i<n
  ·obtain⟨b1,o1,rfl,hc⟩:=hI.at (k:=i) (by rw[HN.out];exact hlt)
   have e1:=hc i (by rw[HN.out];exact hlt);rw[show n-i=(n-(i+1))+1 from by omega]at hp;clear hc hl hI;by_cases hh:ix l i=ch
   ·rw[dP hh]at hp
    have hb:(ix l i==ch)=true:=by simpa using hh
    clear hh;by_cases h1:m'=1
    ·subst h1
     exact Qv7
    ·have HP:=QQ (show(Lf l ch (i+1) (n-(i+1)))[m'-1-1]? =(Xo l k ch)[m-1]? by
      rw[<-hp,show m'-1=(m'-1-1)+1 from by omega];simp)
     have hz:((m':Int)-1==0)=false:=by simp;omega
     clear hp;go_wp2
     go_round
     case rel=>exact⟨i+1,m'-1,by congr 1;omega,by go_num,by omega,by omega,by omega,HP.out⟩
     case measure=>simp[intOf];omega
   ·rw[Rf hh]at hp
    have hb:(ix l i==ch)=false:=by simpa using hh
    have HP:=QQ hp;clear hh hp;go_wp2
    go_round
    case rel=>exact⟨i+1,m',rfl,by go_num,by omega,by omega,by omega,HP.out⟩
    case measure=>simp[intOf];omega
  ·rw[show n-i=0 from by omega]at hp
   have HP:=QQ (show(Xo l k ch)[m-1]? =none by rw[<-hp];simp[Lf]);exact QAL
theorem JN(a:Option Addr)(n c:Nat)(l:List Int)(k m:Nat)(op:Bool)(ch:Int)(w:World)(hl:Ints w a l)(hn:l.length=n)(hn2:n<=4096)(hk:k<=n)(hm0:1<=m)(hm:m<=1000):
  Calls Tryz.prog 297 #[Yf a n c k (m:Int) op,.int .i64 ch,.int .i64 (-1)] w (Vr ((X6 l k ch)[m-1]?) w):=by
 unfold Yf;have HR:=QQ (show(Lg l ch k)[m-1]? =(X6 l k ch)[m-1]? from rfl);have HN:=QQ hn;clear hn;have hB:=QD.new w #[.slice a n c,.int .i64 (k:Int),.int .i64 (m:Int),.bool op] 359;obtain⟨c0,c1,c2,c3⟩:=hB.four;have hacc:=QC w (.cells #[.slice a n c,.int .i64 (k:Int),.int .i64 (m:Int),.bool op] 359);have hI:=hl.below hacc;go_enter Tryz.func297,Tryz.ntmps297
 go_wp2
 go_loop [8,9] (fun mv iv=>∃i m':Nat,mv=.int .i64 (m':Int)/\iv=.int .i64 ((i:Int)-1)/\i<=n/\1<=m'/\m'<=m/\(Lg l ch i)[m'-1]? =(X6 l k ch)[m-1]?) (fun _ iv=>(intOf iv+1).toNat)
 case atStart=>exact⟨k,m,rfl,by first|rfl|(congr 1),by omega,by omega,by omega,HR.out⟩
 case round=>
  obtain⟨i,m',rfl,rfl,hi,hm1,hm2,hp⟩:=hrel;rcases i with _|i
  ·have HP:=QQ (show(X6 l k ch)[m-1]? =none by rw[<-hp];simp[Lg])
   exact QAL
  ·have hlt:i<n:=by omega
   rw[show(((i+1:Nat):Int)-1)=(i:Int)from by omega];obtain⟨b1,o1,rfl,hc⟩:=hI.at (k:=i) (by rw[HN.out];exact hlt);have e1:=hc i (by rw[HN.out];exact hlt);clear hc hl hI;by_cases hh:ix l i=ch
   ·rw[dR hh]at hp
    have hb:(ix l i==ch)=true:=by simpa using hh
    clear hh;by_cases h1:m'=1
    ·subst h1
     exact Qv7
    ·have HP:=QQ (show(Lg l ch i)[m'-1-1]? =(X6 l k ch)[m-1]? by
      rw[<-hp,show m'-1=(m'-1-1)+1 from by omega];simp)
     have hz:((m':Int)-1==0)=false:=by simp;omega
     clear hp;go_wp2
     go_round
     case rel=>exact⟨i,m'-1,by congr 1;omega,by first|rfl|(congr 1),by omega,by omega,by omega,HP.out⟩
     case measure=>simp[intOf];omega
   ·rw[Rh hh]at hp
    have hb:(ix l i==ch)=false:=by simpa using hh
    have HP:=QQ hp;clear hh hp;go_wp2
    go_round
    case rel=>exact⟨i,m',rfl,by first|rfl|(congr 1),by omega,by omega,by omega,HP.out⟩
    case measure=>simp[intOf];omega
theorem jg(c:Int):Q0 c≠0↔Xl c≠0:=by
 unfold Q0 Xl
 (repeat' split)<;>simp_all<;>omega
def WE(l:List Int)(k:Nat):Option (Int×Bool):=if JK l k<0 then none else some (JK l k,true)
theorem Nk{l:List Int}{k i:Nat}(hk:k<=i)(hi:i<l.length)(h:Xl (ix l i)≠0)(hno:∀t,k<=t->t<i->Xl (ix l t)=0):JK l k=ix (YO l l.length l.length).out i:=by
 unfold JK;split
 ·rename_i r hr
  obtain⟨h1,h2,h3,h4⟩:=XI hr;simp at h3;rcases ZJ r i with h'|h'|h'
  ·exact absurd (hno r h1 h') h3
  ·rw[h']
  ·have:=h4 i hk h';simp at this;exact absurd this h
 ·rename_i hr
  have:=UZ hr i hk (by omega);simp at this;exact absurd this h
theorem G7{l:List Int}{k:Nat}(hno:∀t,k<=t->t<l.length->Xl (ix l t)=0):JK l k= -1:=by
 unfold JK;split
 ·rename_i r hr
  obtain⟨h1,h2,h3,h4⟩:=XI hr;simp at h3;exact absurd (hno r h1 (by omega)) h3
 ·rfl
theorem Cr(a:Option Addr)(n c:Nat)(l:List Int)(k:Nat)(m:Int)(op:Bool)(w:World)(hl:Ints w a l)(hn:l.length=n)(hn2:n<=4096)(hk:k<=n):
  Calls Tryz.prog 303 #[Yf a n c k m op] w (XJ (WE l k) w):=by
 unfold Yf;have HN:=QQ hn;clear hn;have hB:=(QD.new w #[.slice a n c,.int .i64 (k:Int),.int .i64 m,.bool op] 359).alloc (.cells #[.int .i64 0,.bool false] 361);obtain⟨c0,c1,c2,c3⟩:=hB.four;have hP:=QD.new (w.alloc (.cells #[.slice a n c,.int .i64 (k:Int),.int .i64 m,.bool op] 359)) #[.int .i64 0,.bool false] 361;rw[QJ]at hP;have hacc:=QS w (.cells #[.slice a n c,.int .i64 (k:Int),.int .i64 m,.bool op] 359) (.cells #[.int .i64 0,.bool false] 361);have hI:=hl.below hacc;go_enter Tryz.func303,Tryz.ntmps303
 go_wp2_with fail
 refine(kS a n c l _ hI HN.out hn2).mono ?_;rintro e w2 ⟨g,rfl,hI2,hb2⟩;have hB2:=hB.below hb2 hB.lt;obtain⟨d0,d1,d2,d3⟩:=hB2.four;have hP2:=hP.below hb2 hP.lt;obtain⟨s0,s1,s2,s3⟩:=hP2.two;have Qc:=QW hacc (by simp;omega) hb2;have AL:=hl.below Qc;have hi0:(0:Int)<=(k:Int):=by omega
 clear c0 c1 c2 c3 hI;go_wp2
 go_loop [6] (fun iv=>∃i:Nat,iv=.int .i64 (i:Int)/\k<=i/\i<=n/\∀t,k<=t->t<i->Xl (ix l t)=0) (fun iv=>n-(intOf iv).toNat)
 case atStart=>exact⟨k,rfl,by omega,by omega,fun t h1 h2=>by omega⟩
 case round=>
  obtain⟨i,rfl,hi1,hi2,hno⟩:=hrel;have HO:=QQ hno;clear hno;by_cases hlt:i<n
  ·obtain⟨b1,o1,rfl,hc⟩:=AL.at (k:=i) (by rw[HN.out];exact hlt)
   have e1:=hc i (by rw[HN.out];exact hlt);clear hc hl AL;by_cases hz:Xl (ix l i)=0
   ·have hz':(Q0 (ix l i) !=0)=false:=by
     have:=jg (ix l i);rw[bne_eq_false_iff_eq];exact Decidable.byContradiction fun h=>(this.1 h) hz
    have HZ:=QQ hz;clear hz;go_wp2_with ((go_at_call 309);refine(xJ _ _).mono ?_;rintro e w' ⟨rfl,rfl⟩)
    go_round
    case rel=>exact⟨i+1,by go_num,by omega,by omega,fun t h1 h2=>by
     rcases Qp.1 h2 with h|rfl
     ·exact HO.out t h1 h
     ·exact HZ.out⟩
    case measure=>simp[intOf];omega
   ·have hz':(Q0 (ix l i) !=0)=true:=by simpa using(jg (ix l i)).2 hz
    have HF:=QQ (show JK l k=ix (YO l n n).out i by
     have:=Nk hi1 (by rw[HN.out];exact hlt) hz HO.out
     rwa[HN.out]at this)
    obtain⟨g1,o2,hg,hc2⟩:=hI2.at (k:=i) (by rw[VT];exact hlt);simp only[Qv,Xz]at hg;obtain⟨rfl,rfl,-⟩:=hg;have e2:=hc2 i (by rw[VT];exact hlt);rw[Zu]at e2;obtain⟨y,hy⟩:∃y,ix (YO l n n).out i=y:=⟨_,rfl⟩;rw[hy]at e2;have FO:=QQ (show JK l k=y by rw[HF.out,hy]);clear hz hy hc2 HF;by_cases hneg:y<0
    ·have HR:=QQ (show WE l k=none by rw[WE,FO.out,if_pos hneg])
     go_wp2_with ((go_at_call 309);refine(xJ _ _).mono ?_;rintro e w' ⟨rfl,rfl⟩)
     exact QBY
    ·have HR:=QQ (show WE l k=some (y,true) by rw[WE,FO.out,if_neg hneg])
     go_wp2_with ((go_at_call 309);refine(xJ _ _).mono ?_;rintro e w' ⟨rfl,rfl⟩)
     rw[HR.out];have hG:=(hP2.set 0 (.int .i64 (y))).set 1 (.bool true);obtain⟨q0,q1,-,-⟩:=QD.two hG;refine QV (v:=.tuple #[.agg #[.int .i64 (y),.bool true],.int .i64 0]) (by simp[results,Tryz.results303,go_sem,q0,q1]) rfl ⟨rfl,?_⟩;exact QkC
  ·obtain rfl:i=n:=by omega
   have HR:=QQ (show WE l k=none by rw[WE,G7 (by rw[HN.out];exact HO.out),if_pos (by omega)]);go_wp2;exact QBY
end Go.Proofs.YtmdcencmiopmmaaGreat
