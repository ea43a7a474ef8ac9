/- joined, no condition of its own. -/
import Derived.Test.YtmdnepkekekncaaGreatJfJ5
set_option linter.unusedVariables false
set_option linter.unusedSimpArgs false
set_option maxRecDepth 100000
set_option maxHeartbeats 12000000
namespace Go.Proofs.YtmdnepkekekncaaGreat
open Go.RowKit
def fiA(r:Option Int):Int:=match r with|some x=>x|none=>0
def fiE(r:Option Int):Int:=match r with|some x=>0|none=>5
def zH(r:Option Int)(w:World)(e:Ending)(w':World):Prop:=e=.returned (.tuple #[.int .i64 (fiA r),.int .i64 (fiE r)])/\Below w.heap.size w w'
theorem zH.of{r:Option Int}{A E:Int}{w w':World}(h:r=if E=0 then some A else none)(hE:E=0\/(E=5/\A=0))(hb:Below w.heap.size w w'):zH r w (.returned (.tuple #[.int .i64 A,.int .i64 E])) w':=by
 subst h;rcases hE with rfl|⟨rfl,rfl⟩
 ·exact⟨rfl,hb⟩
 ·exact⟨rfl,hb⟩
theorem VK(a:Option Addr)(n c:Nat)(l:List Int)(k m:Nat)(op:Bool)(ch:Int)(w:World)(hl:Ints w a l)(hn:l.length=n)(hn2:n<=4096)(hk:k<=n)(hm0:1<=m)(hm:m<=1000):
  Calls Tryz.prog 182 #[KJ a n c k (m:Int) op,.int .i64 ch,.int .i64 1] w (zH ((JY l k ch)[m-1]?) w):=by
 unfold KJ;have HR:=Zy (show(RJ l ch (k+1) (n-(k+1)))[m-1]? =(JY l k ch)[m-1]? by rw[JY,hn]);have HN:=Zy hn;clear hn;have hB:=Za.new w #[.slice a n c,.int .i64 (k:Int),.int .i64 (m:Int),.bool op] 260;obtain⟨c0,c1,c2,c3⟩:=hB.four;have hacc:=ZR w (.cells #[.slice a n c,.int .i64 (k:Int),.int .i64 (m:Int),.bool op] 260);have hI:=hl.below hacc;go_enter Tryz.func182,Tryz.ntmps182
 go_wp2
 go_loop [8,9] (fun mv iv=>∃i m':Nat,mv=.int .i64 (m':Int)/\iv=.int .i64 (i:Int)/\i<=n+1/\1<=m'/\m'<=m/\(RJ l ch i (n-i))[m'-1]? =(JY l k ch)[m-1]?) (fun _ iv=>n+1-(intOf iv).toNat)
 case atStart=>exact⟨k+1,m,rfl,Qy,QQ,QQ,QQ,HR.out⟩
 case round=>
  obtain⟨i,m',rfl,rfl,hi,hm1,hm2,hp⟩:=hrel;by_cases hlt:i<n
  ·obtain⟨b1,o1,rfl,hc⟩:=hI.at (k:=i) QW
   have e1:=hc i QW;rw[show n-i=(n-(i+1))+1 from QQ]at hp;clear hc hl hI;by_cases hh:ix l i=ch
   ·rw[sG hh]at hp
    have hb:(ix l i==ch)=true:=QEM;clear hh;by_cases h1:m'=1
    ·subst h1
     exact QIb
    ·have HP:=Zy (show(RJ l ch (i+1) (n-(i+1)))[m'-1-1]? =(JY l k ch)[m-1]? by
      rw[<-hp,show m'-1=(m'-1-1)+1 from QQ];simp)
     have hz:((m':Int)-1==0)=false:=QY;clear hp;go_wp2
     go_round
     case rel=>exact⟨i+1,m'-1,by congr 1;omega,Qy,QQ,QQ,QQ,HP.out⟩
     case measure=>simp[intOf];omega
   ·rw[fo hh]at hp
    have hb:(ix l i==ch)=false:=QEM;have HP:=Zy hp;clear hh hp;go_wp2
    go_round
    case rel=>exact⟨i+1,m',rfl,Qy,QQ,QQ,QQ,HP.out⟩
    case measure=>simp[intOf];omega
  ·rw[show n-i=0 from QQ]at hp
   have HP:=Zy (show(JY l k ch)[m-1]? =none by rw[<-hp];simp[RJ]);exact QLU
theorem UJ(a:Option Addr)(n c:Nat)(l:List Int)(k m:Nat)(op:Bool)(ch:Int)(w:World)(hl:Ints w a l)(hn:l.length=n)(hn2:n<=4096)(hk:k<=n)(hm0:1<=m)(hm:m<=1000):
  Calls Tryz.prog 182 #[KJ a n c k (m:Int) op,.int .i64 ch,.int .i64 (-1)] w (zH ((Jk l k ch)[m-1]?) w):=by
 unfold KJ;have HR:=Zy (show(RU l ch k)[m-1]? =(Jk l k ch)[m-1]? from rfl);have HN:=Zy hn;clear hn;have hB:=Za.new w #[.slice a n c,.int .i64 (k:Int),.int .i64 (m:Int),.bool op] 260;obtain⟨c0,c1,c2,c3⟩:=hB.four;have hacc:=ZR w (.cells #[.slice a n c,.int .i64 (k:Int),.int .i64 (m:Int),.bool op] 260);have hI:=hl.below hacc;go_enter Tryz.func182,Tryz.ntmps182
 go_wp2
 go_loop [8,9] (fun mv iv=>∃i m':Nat,mv=.int .i64 (m':Int)/\iv=.int .i64 ((i:Int)-1)/\i<=n/\1<=m'/\m'<=m/\(RU l ch i)[m'-1]? =(Jk l k ch)[m-1]?) (fun _ iv=>(intOf iv+1).toNat)
 case atStart=>exact⟨k,m,rfl,by first|rfl|(congr 1),QQ,QQ,QQ,HR.out⟩
 case round=>
  obtain⟨i,m',rfl,rfl,hi,hm1,hm2,hp⟩:=hrel;rcases i with _|i
  ·have HP:=Zy (show(Jk l k ch)[m-1]? =none by rw[<-hp];simp[RU])
   exact QLU
  ·have hlt:i<n:=by omega
   rw[show(((i+1:Nat):Int)-1)=(i:Int)from QQ];obtain⟨b1,o1,rfl,hc⟩:=hI.at (k:=i) QW;have e1:=hc i QW;clear hc hl hI;by_cases hh:ix l i=ch
   ·rw[sH hh]at hp
    have hb:(ix l i==ch)=true:=QEM;clear hh;by_cases h1:m'=1
    ·subst h1
     exact QIb
    ·have HP:=Zy (show(RU l ch i)[m'-1-1]? =(Jk l k ch)[m-1]? by
      rw[<-hp,show m'-1=(m'-1-1)+1 from QQ];simp)
     have hz:((m':Int)-1==0)=false:=QY;clear hp;go_wp2
     go_round
     case rel=>exact⟨i,m'-1,by congr 1;omega,by first|rfl|(congr 1),QQ,QQ,QQ,HP.out⟩
     case measure=>simp[intOf];omega
   ·rw[fw hh]at hp
    have hb:(ix l i==ch)=false:=QEM;have HP:=Zy hp;clear hh hp;go_wp2
    go_round
    case rel=>exact⟨i,m',rfl,by first|rfl|(congr 1),QQ,QQ,QQ,HP.out⟩
    case measure=>simp[intOf];omega
theorem BQ(c:Int):Xj c≠0↔JZ c≠0:=by
 unfold Xj JZ
 (repeat' split)<;>simp_all<;>omega
def xz(l:List Int)(k:Nat):Option (Int×Bool):=if Kc l k<0 then none else some (Kc l k,true)
theorem Tx{l:List Int}{k i:Nat}(hk:k<=i)(hi:i<l.length)(h:JZ (ix l i)≠0)(hno:∀t,k<=t->t<i->JZ (ix l t)=0):Kc l k=ix (Jr l l.length l.length).out i:=by
 unfold Kc;split
 ·rename_i r hr
  obtain⟨h1,h2,h3,h4⟩:=Yo hr;simp at h3;rcases XL r i with h'|h'|h'
  ·exact absurd (hno r h1 h') h3
  ·rw[h']
  ·have:=h4 i hk h';simp at this;exact absurd this h
 ·rename_i hr
  have:=Vn hr i hk QQ;simp at this;exact absurd this h
theorem Nf{l:List Int}{k:Nat}(hno:∀t,k<=t->t<l.length->JZ (ix l t)=0):Kc l k= -1:=by
 unfold Kc;split
 ·rename_i r hr
  obtain⟨h1,h2,h3,h4⟩:=Yo hr;simp at h3;exact absurd (hno r h1 QQ) h3
 ·rfl
theorem Gc(a:Option Addr)(n c:Nat)(l:List Int)(k:Nat)(m:Int)(op:Bool)(w:World)(hl:Ints w a l)(hn:l.length=n)(hn2:n<=4096)(hk:k<=n):
  Calls Tryz.prog 188 #[KJ a n c k m op] w (YL (xz l k) w):=by
 unfold KJ;have HN:=Zy hn;clear hn;have hB:=(Za.new w #[.slice a n c,.int .i64 (k:Int),.int .i64 m,.bool op] 260).alloc (.cells #[.int .i64 0,.bool false] 262);obtain⟨c0,c1,c2,c3⟩:=hB.four;have hP:=Za.new (w.alloc (.cells #[.slice a n c,.int .i64 (k:Int),.int .i64 m,.bool op] 260)) #[.int .i64 0,.bool false] 262;rw[Zu]at hP;have hacc:=Zo w (.cells #[.slice a n c,.int .i64 (k:Int),.int .i64 m,.bool op] 260) (.cells #[.int .i64 0,.bool false] 262);have hI:=hl.below hacc;go_enter Tryz.func188,Tryz.ntmps188
 go_wp2_with fail
 refine(Bp a n c l _ hI HN.out hn2).mono ?_;rintro e w2 ⟨g,rfl,hI2,hb2⟩;have hB2:=hB.below hb2 hB.lt;obtain⟨d0,d1,d2,d3⟩:=hB2.four;have hP2:=hP.below hb2 hP.lt;obtain⟨s0,s1,s2,s3⟩:=hP2.two;have Z0:=ZE hacc QY hb2;have Ev:=hl.below Z0;have hi0:(0:Int)<=(k:Int):=QQ;clear c0 c1 c2 c3 hI;go_wp2
 go_loop [6] (fun iv=>∃i:Nat,iv=.int .i64 (i:Int)/\k<=i/\i<=n/\∀t,k<=t->t<i->JZ (ix l t)=0) (fun iv=>n-(intOf iv).toNat)
 case atStart=>exact⟨k,rfl,QQ,QQ,fun t h1 h2=>QQ⟩
 case round=>
  obtain⟨i,rfl,hi1,hi2,hno⟩:=hrel;have HO:=Zy hno;clear hno;by_cases hlt:i<n
  ·obtain⟨b1,o1,rfl,hc⟩:=Ev.at (k:=i) QW
   have e1:=hc i QW;clear hc hl Ev;by_cases hz:JZ (ix l i)=0
   ·have hz':(Xj (ix l i) !=0)=false:=by
     have:=BQ (ix l i);rw[bne_eq_false_iff_eq];exact Decidable.byContradiction fun h=>(this.1 h) hz
    have HZ:=Zy hz;clear hz;go_wp2_with ((go_at_call 194);refine(kG _ _).mono ?_;rintro e w' ⟨rfl,rfl⟩)
    go_round
    case rel=>exact⟨i+1,Qy,QQ,QQ,fun t h1 h2=>by
     rcases XZ.1 h2 with h|rfl
     ·exact HO.out t h1 h
     ·exact HZ.out⟩
    case measure=>simp[intOf];omega
   ·have hz':(Xj (ix l i) !=0)=true:=by simpa using(BQ (ix l i)).2 hz
    have HF:=Zy (show Kc l k=ix (Jr l n n).out i by
     have:=Tx hi1 QW hz HO.out
     rwa[HN.out]at this)
    obtain⟨g1,o2,hg,hc2⟩:=hI2.at (k:=i) (by rw[zY];exact hlt);simp only[ZL,YR]at hg;obtain⟨rfl,rfl,-⟩:=hg;have e2:=hc2 i (by rw[zY];exact hlt);rw[XI]at e2;obtain⟨y,hy⟩:∃y,ix (Jr l n n).out i=y:=⟨_,rfl⟩;rw[hy]at e2;have EP:=Zy (show Kc l k=y by rw[HF.out,hy]);clear hz hy hc2 HF;by_cases hneg:y<0
    ·have HR:=Zy (show xz l k=none by rw[xz,EP.out,if_pos hneg])
     go_wp2_with ((go_at_call 194);refine(kG _ _).mono ?_;rintro e w' ⟨rfl,rfl⟩)
     exact QL4
    ·have HR:=Zy (show xz l k=some (y,true) by rw[xz,EP.out,if_neg hneg])
     go_wp2_with ((go_at_call 194);refine(kG _ _).mono ?_;rintro e w' ⟨rfl,rfl⟩)
     rw[HR.out];have hG:=(hP2.set 0 (.int .i64 (y))).set 1 (.bool true);obtain⟨q0,q1,-,-⟩:=Za.two hG;refine ZC (v:=.tuple #[.agg #[.int .i64 (y),.bool true],.int .i64 0]) QDc rfl ⟨rfl,?_⟩;exact QF6
  ·obtain rfl:i=n:=by omega
   have HR:=Zy (show xz l k=none by rw[xz,Nf (by rw[HN.out];exact HO.out),if_pos QQ]);go_wp2;exact QL4
end Go.Proofs.YtmdnepkekekncaaGreat
