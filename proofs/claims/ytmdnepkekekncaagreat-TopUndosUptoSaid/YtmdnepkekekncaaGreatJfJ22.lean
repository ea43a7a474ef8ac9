/- joined, no condition of its own. -/
import Derived.Test.YtmdnepkekekncaaGreatJfJ21
set_option linter.unusedVariables false
set_option linter.unusedSimpArgs false
set_option maxRecDepth 100000
set_option maxHeartbeats 12000000
namespace Go.Proofs.YtmdnepkekekncaaGreat
open Go.RowKit
def uA(p out:List Int)(i:Nat):Prop:=∀j,j<i->∃b:Nat,ix out j=(b:Int)/\DR p (j+1) b
theorem uA.more{p out:List Int}{i b:Nat}(h:uA p out i)(hi:i<out.length)(hb:DR p (i+1) b):uA p (out.set i (b:Int)) (i+1):=by
 intro j hj;by_cases h':j=i
 ·subst h';exact⟨b,RF hi,hb⟩
 ·rw[RD (fun e=>h' e.symm)];exact h j QQ
def Ma(p:List Int)(n:Nat)(w:World)(e:Ending)(w':World):Prop:=
 ∃g c out,e=.returned (.tuple #[.slice (some ⟨g,0,none⟩) n c,.int .i64 0])/\Ints w' (some ⟨g,0,none⟩) out/\out.length=n/\uA p out n/\Below w.heap.size w w'
theorem yG(a:Option Addr)(n c:Nat)(p:List Int)(w:World)(ha:Ints w a p)(hn:p.length=n)(h2:n<=4096):
  Calls Tryz.prog 159 #[.slice a n c] w (Ma p n w):=by
 have HN:=Zy hn;clear hn;have hmk:=yl n n (ZB _) QQ;go_enter Tryz.func159,Tryz.ntmps159
 go_wp2;clear hmk
 go_loopw [6,5] (fun i k wr=>∃(j kk:Nat) (out:List Int),i=.int .i64 (j:Int)/\k=.int .i64 (kk:Int)/\1<=j/\(j<=n\/j=1)/\Za wr w.heap.size (out.map (Value.int .i64)).toArray 3/\out.length=n/\uA p out (min j n)/\DR p j kk/\Below w.heap.size w wr) (fun i _ _=>n-(intOf i).toNat)
 case atStart=>
  refine⟨1,0,List.replicate n 0,rfl,rfl,QQ,QQ,?_,QJ,?_,LG p,ZR _ _⟩
  ·rw[<-vW n];exact Za.new _ _ _
  ·intro j hj;exact⟨0,by unfold ix;rw[Zg,List.getElem?_replicate];split<;>rfl,by rw[show j=0 from QQ];exact LG p⟩
 case round=>
  obtain⟨j,kk,out,rfl,rfl,hj1,hj2,hB,hlen,RO,hmax,hbel⟩:=hrel;by_cases hlt:j<n
  ·rw[YJ QQ]at RO
   obtain⟨b1,o1,rfl,hc0⟩:=ha.at (k:=j) QW;have hc:∀i,i<n->w.cell? ⟨b1,o1+i,none⟩=some (.int .i64 (ix p i)):=fun i hi=>hc0 i (by rw[HN.out];exact hi)
   clear hc0;have HC:=Zy hc;have Mt:=Zy RO;have HL:=Zy hlen;have HIN:=Zy (nC.start hmax);have hkj:=hmax.1.1;clear hc RO hlen hmax;have hbw:=hB.lt;go_wp2
   go_loopw [5] (fun k wr=>∃kk:Nat,k=.int .i64 (kk:Int)/\kk<j/\nC p j kk/\Za wr w.heap.size (out.map (Value.int .i64)).toArray 3/\Below w.heap.size w wr) (fun k _=>(intOf k).toNat)
   case atStart=>exact⟨kk,rfl,hkj,HIN.out,hB,hbel⟩
   case round=>
    clear hkj HIN hbw hbel hB;obtain⟨k,rfl,hk,hin,hBx,hbx⟩:=hrel;have hbw:=hBx.lt;have cell:∀i,i<n->wr.cell? ⟨b1,o1+i,none⟩=some (.int .i64 (ix p i)):=fun i hi=>by
     have:=HC.out i hi;rw[hbx.cell (Xb this)];exact this
    have ck:=cell k QQ;have cj:=cell j hlt;clear cell;have HI:=Zy hin;clear hin;have co:=zb hBx (i:=j) QH;have cf:=hBx.free j;have hk0:(0:Int)<=(k:Int):=QQ;have hkn:(k:Int)<(n:Int):=QQ;have hjn:(j:Int)<(n:Int):=QQ;by_cases he:ix p k=ix p j
    ·have HE:=Zy he
     have HM:=Zy (HI.out.hit he hj1);have hd3:(ix p k !=ix p j)=false:=QDo;have hd4:(ix p k==ix p j)=true:=QDo;clear he;by_cases hp:0<k
     ·have hp0:decide ((0:Int)<(k:Int))=true:=by simpa using hp
      go_wp2
      go_quiet (fail)
      all_goals
       go_wp2
       go_quiet (fail)
       all_goals
        go_wp2;refine⟨⟨j+1,k+1,out.set j (((k+1:Nat):Int)),Qy,Qy,QQ,QQ,?_,by simp;exact HL.out,?_,HM.out,?_⟩,Qp⟩
        ·exact Fq (hBx.drewN _) j _
        ·rw[YJ QQ];exact uA.more Mt.out QH HM.out
        ·exact(below_drewN hbx _).setCell (p:=⟨w.heap.size,j,none⟩) (ZB _) _
     ·obtain rfl:k=0:=by omega
      rw[Yq]at ck;go_wp2
      go_quiet (fail)
      all_goals
       go_wp2
       go_quiet (fail)
       all_goals
        go_wp2;refine⟨⟨j+1,0+1,out.set j (((0+1:Nat):Int)),Qy,Qy,QQ,QQ,?_,by simp;exact HL.out,?_,HM.out,?_⟩,Qp⟩
        ·exact Fq (hBx.drewN _) j _
        ·rw[YJ QQ];exact uA.more Mt.out QH HM.out
        ·exact(below_drewN hbx _).setCell (p:=⟨w.heap.size,j,none⟩) (ZB _) _
    ·have HE:=Zy he
     have hd3:(ix p k !=ix p j)=true:=QDo;have hd4:(ix p k==ix p j)=false:=QDo;by_cases hp:0<k
     ·have hp0:decide ((0:Int)<(k:Int))=true:=by simpa using hp
      obtain⟨b,hb1,hb2⟩:=Mt.out (k-1) QQ;rw[show k-1+1=k from QQ]at hb2;have hq:=zb hBx (i:=k-1) QEl;rw[hb1]at hq;have HS:=Zy (HI.out.step hp he hb2);have hbk:=hb2.1.1;have i1:((k:Int)-1).toNat=k-1:=QQ;have i2:(0:Int)<=(k:Int)-1:=QQ;have i3:(k:Int)-1<(n:Int):=QQ;clear he hb1 hb2;go_wp2
      go_quiet (fail)
      all_goals
       go_wp2;go_roundw
       case rel=>exact⟨b,rfl,QQ,HS.out,hBx.drewN _,below_drewN hbx _⟩
       case measure=>simp[intOf];omega
     ·obtain rfl:k=0:=by omega
      have HM:=Zy (HI.out.miss he hj1);clear he;rw[Yq]at ck;go_wp2
      go_quiet (fail)
      all_goals
       go_wp2
       go_quiet (fail)
       all_goals
        go_wp2;refine⟨⟨j+1,0,out.set j (((0:Nat):Int)),Qy,Qy,QQ,QQ,?_,by simp;exact HL.out,?_,HM.out,?_⟩,Qp⟩
        ·exact Fq (hBx.drewN _) j _
        ·rw[YJ QQ];exact uA.more Mt.out QH HM.out
        ·exact(below_drewN hbx _).setCell (p:=⟨w.heap.size,j,none⟩) (ZB _) _
  ·have hmin:min j n=n:=by omega
   rw[hmin]at RO;have HL:=Zy hlen;have Mt:=Zy RO;clear hmin hlen RO hmax;go_wp2;go_ret2
   exact⟨_,_,out,rfl,Bu hB,HL.out,Mt.out,hbel⟩
theorem Ai{p s:List Int}{m j:Nat}(hm:p.length=m)(hj:j+1<=s.length)(hT:PX p s (j+1) m):
  X9 p s (j+1+1-m)=X9 p s (j+1-m)++[((j+1-m:Nat):Int)]:=by
 have h1:=hT.1;rw[show j+1+1-m=(j+1-m)+1 from QQ];apply WL;rw[Av QQ,hm,show j+1-m+m=j+1 from QQ];exact hT
theorem jd{p s:List Int}{m j:Nat}(hm:p.length=m)(h0:0<m)(hj:j+1<=s.length)(hT:¬PX p s (j+1) m):
  X9 p s (j+1+1-m)=X9 p s (j+1-m):=by
 by_cases h1:m<=j+1
 ·rw[show j+1+1-m=(j+1-m)+1 from QQ]
  apply uG;rw[Av QQ,hm,show j+1-m+m=j+1 from QQ];exact hT
 ·rw[show j+1+1-m=j+1-m from QQ]
theorem Nc(s:List Int)(k:Nat):X9 [] s (k+1)=X9 [] s k++[(k:Int)]:=WL (by simp[KO])
def Hg(p s:List Int)(n:Nat)(w:World)(e:Ending)(w':World):Prop:=
 ∃v,e=.returned (.tuple #[v,.int .i64 0])/\Own 3 w.heap.size w' v (X9 p s n)/\Below w.heap.size w w'
theorem Sm(a1 a2:Option Addr)(c1 n c2:Nat)(s:List Int)(w:World)(hn:s.length=n)(hn2:n<=4096):
  Calls Tryz.prog 150 #[.slice a1 0 c1,.slice a2 n c2] w (Hg [] s (n+1) w):=by
 have HN:=Zy hn;clear hn;go_enter Tryz.func150,Tryz.ntmps150
 go_wp2_with fail
 refine(yG a1 0 c1 [] w (Ints.nil _ _) rfl QQ).mono ?_;rintro e w1 ⟨g,cb,out,rfl,hI,hlen,RO,JI⟩;clear hI hlen RO;go_wp2
 go_loopw [30,8] (fun i v wr=>∃k:Nat,i=.int .i64 (k:Int)/\k<=n+1/\Own 3 w.heap.size wr v (X9 [] s k)/\Below w.heap.size w wr) (fun i _ _=>n+1-(intOf i).toNat)
 case atStart=>exact⟨0,rfl,QQ,Own.nil _ _ _,JI⟩
 case round=>
  obtain⟨k,rfl,hk,hown,hbel⟩:=hrel;have hpl:=VG [] s k;by_cases hlt:k<n+1
  ·have HY:=Zy (Nc s k)
   have hsz:=hbel.size;go_wp2_with (at_builtin;refine app1 rfl _ _ rfl w.heap.size u8 _ _ _ rfl rfl (hown.alloc _) (JQ _ _ _) QQ (XJ hbel.size _) ?_;intro v3 w3 hown3 hgrow3)
   go_roundw
   case rel=>exact⟨k+1,Qy,QQ,by rw[HY.out];exact hown3,(hbel.alloc hbel.size _).grown hgrow3 (by have:=hbel.size;simp;omega) hown.row⟩
   case measure=>simp[intOf];omega
  ·have hke:k=n+1:=by omega
   have HK:=Zy hke;clear hke;go_wp2;go_ret2
   exact⟨_,rfl,by rw[<-HK.out];exact hown,hbel⟩
theorem Si(a1 a2:Option Addr)(m c1 n c2:Nat)(p s:List Int)(w:World)(h1:Ints w a1 p)(h2:Ints w a2 s)(hm:p.length=m)(hn:s.length=n)(hm2:m<=4096)(hn2:n<=4096)(hpos:0<m):
  Calls Tryz.prog 150 #[.slice a1 m c1,.slice a2 n c2] w (Hg p s (n+1-m) w):=by
 have HM:=Zy hm;have HN:=Zy hn;clear hm hn;obtain⟨b1,o1,rfl,hc1⟩:=h1.at (k:=0) (by rw[HM.out];exact hpos);go_enter Tryz.func150,Tryz.ntmps150
 go_wp2_with fail
 refine(yG _ m c1 p w h1 HM.out QQ).mono ?_;rintro e w1 ⟨g,cb,out,rfl,hI,hlen,RO,JI⟩;have hp1:∀i,i<m->w1.cell? ⟨b1,o1+i,none⟩=some (.int .i64 (ix p i)):=fun i hi=>by
  have:=hc1 i (by rw[HM.out];exact hi);rw[JI.cell (Xb this)];exact this
 have hs1:=h2.below JI;have ho1:∀i,i<m->w1.cell? ⟨g,i,none⟩=some (.int .i64 (ix out i)):=fun i hi=>by
  obtain⟨b,o,hb,hc⟩:=hI.at (k:=i) (by rw[hlen];exact hi);simp only[ZL,YR]at hb;obtain⟨rfl,rfl,-⟩:=hb;have:=hc i (by rw[hlen];exact hi)
  rwa[XI]at this
 have HP:=Zy hp1;have HO:=Zy ho1;have HL:=Zy hlen;have Mt:=Zy RO;clear hp1 ho1 hlen RO hI hc1 h1 h2;go_wp2
 go_loopw [41,8,10] (fun i v k wr=>∃(j kk:Nat),i=.int .i64 (j:Int)/\k=.int .i64 (kk:Int)/\j<=n/\Own 3 w1.heap.size wr v (X9 p s (j+1-m))/\nk p s m j kk/\Below w1.heap.size w1 wr) (fun i _ _ _=>n-(intOf i).toNat)
 case atStart=>
  refine⟨0,0,rfl,rfl,QQ,?_,TG hpos,ZH _ _⟩;rw[show 0+1-m=0 from QQ];exact Own.nil _ _ _
 case round=>
  obtain⟨j,kk,rfl,rfl,hj,hown,hmax,hbel⟩:=hrel;have hpl:=VG p s (j+1-m);by_cases hlt:j<n
  ·obtain⟨b2,o2,rfl,hc2⟩:=hs1.at (k:=j) QW
   have cs:wr.cell? ⟨b2,o2+j,none⟩=some (.int .i64 (ix s j)):=by
    have:=hc2 j QW;exact QLB
   have HIN:=Zy (nA.start hmax);have hkm:=hmax.1;have hjn:(j:Int)<(n:Int):=QQ;clear hmax hc2;go_wp2
   go_loopw [10] (fun k wr=>∃kk:Nat,k=.int .i64 (kk:Int)/\nA p s m j kk/\Own 3 w1.heap.size wr u8 (X9 p s (j+1-m))/\Below w1.heap.size w1 wr) (fun k _=>(intOf k).toNat)
   case atStart=>exact⟨kk,rfl,HIN.out,hown,hbel⟩
   case round=>
    clear hkm HIN hown hbel cs;obtain⟨k,rfl,hin,hown,hbel⟩:=hrel;have hkm:=hin.1;have ck:wr.cell? ⟨b1,o1+k,none⟩=some (.int .i64 (ix p k)):=by
     have:=HP.out k hkm;exact QLB
    have HI:=Zy hin;clear hin;have hk0:(0:Int)<=(k:Int):=QQ;have hkn:(k:Int)<(m:Int):=QQ;have hsz:=hbel.size;by_cases he:ix p k=ix s j
    ·have hd3:(ix p k !=ix s j)=false:=by simpa using he
     have hd4:(ix p k==ix s j)=true:=QDo;have HT:=Zy (HI.out.hit he);clear he;by_cases hp:0<k
     ·have hp0:(0:Int)<(k:Int):=by omega
      by_cases QxJ:k+1=m
      ·obtain rfl:m=k+1:=by omega
       obtain⟨b,hb1,hb2⟩:=Mt.out k QQ;have hTf:=HT.out.full hb2;have hTs:=HT.out.2.1;have hkj:=hTs.1;have HY:=Zy (Ai HM.out QB hTs);have HX:=Zy (show((j:Int)+1-((k:Int)+1))=((j+1-(k+1):Nat):Int) from QQ);have HF:=Zy hTf;have HB1:=Zy hb1;clear hTs hTf hb1;have hbm:=hb2.1.1;clear hb2;go_wp2_with (at_builtin;refine app1 rfl _ _ rfl w1.heap.size u8 _ _ _ rfl rfl (hown.alloc _) (JQ _ _ _) QQ (XJ hbel.size _) ?_;intro v3 w3 hown3 hgrow3;have hb3:=(hbel.alloc hbel.size _).grown hgrow3 QY hown.row;have co3:w3.cell? ⟨g,k,none⟩=some (.int .i64 (b:Int)):=(by have h:=HO.out k QQ;rw[hb3.cell (Xb h),<-HB1.out];exact h);clear hgrow3)
       have hz:Own 3 w1.heap.size w3 v3 (X9 p s (j+1+1-(k+1))):=by rw[HY.out,<-HX.out];exact hown3
       exact QIB
      ·obtain⟨hTp,hTn⟩:=HT.out.part QQ
       have HY:=Zy (jd HM.out hpos QB hTn);have HF:=Zy hTp;have hk4:¬(k:Int)+1=(m:Int):=QQ;clear hTp hTn;go_wp2;go_roundw
       case rel=>exact⟨j+1,k+1,Qy,Qy,QQ,by rw[HY.out];exact hown,HF.out,hbel⟩
       case measure=>simp[intOf];omega
     ·obtain rfl:k=0:=by omega
      rw[Yq]at ck;by_cases QxJ:0+1=m
      ·obtain rfl:m=0+1:=by omega
       obtain⟨b,hb1,hb2⟩:=Mt.out 0 QQ;have hTf:=HT.out.full hb2;have hTs:=HT.out.2.1;have hkj:=hTs.1;have HY:=Zy (Ai HM.out QB hTs);have HX:=Zy (show(j:Int)=((j+1-(0+1):Nat):Int) from QQ);have HF:=Zy hTf;have HB1:=Zy hb1;clear hTs hTf hb1;have hbm:=hb2.1.1;clear hb2;go_wp2_with (at_builtin;refine app1 rfl _ _ rfl w1.heap.size u8 _ _ _ rfl rfl (hown.alloc _) (JQ _ _ _) QQ (XJ hbel.size _) ?_;intro v3 w3 hown3 hgrow3;have hb3:=(hbel.alloc hbel.size _).grown hgrow3 QY hown.row;have co3:w3.cell? ⟨g,0,none⟩=some (.int .i64 (b:Int)):=(by have h:=HO.out 0 QQ;rw[hb3.cell (Xb h),<-HB1.out];exact h);clear hgrow3)
       have hz:Own 3 w1.heap.size w3 v3 (X9 p s (j+1+1-(0+1))):=by rw[HY.out,<-HX.out];exact hown3
       exact QIB
      ·obtain⟨hTp,hTn⟩:=HT.out.part QQ
       have HY:=Zy (jd HM.out hpos QB hTn);have HF:=Zy hTp;have hk4:¬1=(m:Int):=QQ;clear hTp hTn;go_wp2;go_roundw
       case rel=>exact⟨j+1,0+1,Qy,Qy,QQ,by rw[HY.out];exact hown,HF.out,hbel⟩
       case measure=>simp[intOf];omega
    ·have hd3:(ix p k !=ix s j)=true:=by simpa using he
     have hd4:(ix p k==ix s j)=false:=QDo;by_cases hp:0<k
     ·have hp0:(0:Int)<(k:Int):=by omega
      obtain⟨b,hb1,hb2⟩:=Mt.out (k-1) QQ;rw[show k-1+1=k from QQ]at hb2;have co:wr.cell? ⟨g,k-1,none⟩=some (.int .i64 (b:Int)):=by
       have h:=HO.out (k-1) QQ;rw[hbel.cell (Xb h),<-hb1];exact h
      have HS:=Zy (HI.out.step hp he hb2);have hbk:=hb2.1.1;have i1:((k:Int)-1).toNat=k-1:=QQ;have i2:(0:Int)<=(k:Int)-1:=QQ;have i3:(k:Int)-1<(m:Int):=QQ;clear he hb1 hb2;go_wp2;go_roundw
      case rel=>exact⟨b,rfl,HS.out,hown,hbel⟩
      case measure=>simp[intOf];omega
     ·obtain rfl:k=0:=by omega
      rw[Yq]at ck;obtain⟨hTp,hTn⟩:=(HI.out.miss he).part hpos;have HY:=Zy (jd HM.out hpos QB hTn);have HF:=Zy hTp;have hk4:¬0=(m:Int):=QQ;clear hTp hTn he;go_wp2;go_roundw
      case rel=>exact⟨j+1,0,Qy,rfl,QQ,by rw[HY.out];exact hown,HF.out,hbel⟩
      case measure=>simp[intOf];omega
  ·have hje:j=n:=by omega
   have HK:=Zy hje;clear hje hmax;go_wp2;go_ret2
   exact⟨_,rfl,by rw[<-HK.out];exact hown.mono JI.size,ZE JI JI.size hbel⟩
theorem eF(a1 a2:Option Addr)(m c1 n c2:Nat)(p s:List Int)(w:World)(h1:Ints w a1 p)(h2:Ints w a2 s)(hm:p.length=m)(hn:s.length=n)(hm2:m<=4096)(hn2:n<=4096):
  Calls Tryz.prog 150 #[.slice a1 m c1,.slice a2 n c2] w (Hg p s (n+1-m) w):=by
 rcases Xf m with rfl|h0
 ·obtain rfl:=ZM hm
  exact Sm a1 a2 c1 n c2 s w hn hn2
 ·exact Si a1 a2 m c1 n c2 p s w h1 h2 hm hn hm2 hn2 h0
def QXA(l:List Int)(f a g:Int):Prop:=
 (∃k,k<l.length/\(∀i,i<k->ix l i<f)/\f<=ix l k/\a=ix l k/\g=0)\/((∀i,i<l.length->ix l i<f)/\a=0/\g=6)
def ny(P:Int->Int->Prop)(w:World)(e:Ending)(w':World):Prop:=
 ∃a g,e=.returned (.tuple #[.int .i64 a,.int .i64 g])/\P a g/\Below w.heap.size w w'
theorem Sg(a1 a2:Option Addr)(m c1 n c2:Nat)(p s:List Int)(f:Int)(w:World)(h1:Ints w a1 p)(h2:Ints w a2 s)(hm:p.length=m)(hn:s.length=n)(hm2:m<=4096)(hn2:n<=4096):
  Calls Tryz.prog 137 #[.slice a1 m c1,.slice a2 n c2,.int .i64 f] w (ny (QXA (X9 p s (n+1-m)) f) w):=by
 have HM:=Zy hm;have HN:=Zy hn;clear hm hn;go_enter Tryz.func137,Tryz.ntmps137
 go_wp2_with fail
 refine(eF a1 a2 m c1 n c2 p s w h1 h2 HM.out HN.out hm2 hn2).mono ?_;rintro e w1 ⟨v,rfl,hown,JI⟩;have hpl:=VG p s (n+1-m);generalize X9 p s (n+1-m)=l at *;obtain⟨b,t,c,rfl⟩:=hown.form;obtain⟨hl,hI,hc⟩:=hown.get;have HL:=Zy hl;have QvB:t<=4097:=QQ;clear hown hl hpl h1 h2;go_wp2
 go_loopw [23] (fun i wr=>∃k:Nat,i=.int .i64 (k:Int)/\k<=t/\(∀i,i<k->ix l i<f)/\wr=w1) (fun i _=>t-(intOf i).toNat)
 case atStart=>exact⟨0,rfl,QQ,fun i hi=>QQ,rfl⟩
 case round=>
  obtain⟨k,rfl,hk,hall,rfl⟩:=hrel;have HA:=Zy hall;clear hall;by_cases hlt:k<t
  ·obtain⟨b1,o1,rfl,hc1⟩:=hI.at (k:=k) QH
   have ck:=hc1 k QH;clear hc1;by_cases hf:f<=ix l k
   ·go_wp2
    go_ret2
    exact⟨_,_,rfl,.inl ⟨k,QH,HA.out,hf,rfl,rfl⟩,JI⟩
   ·go_wp2
    go_roundw
    case rel=>exact⟨k+1,Qy,QQ,fun i hi=>by
     rcases XZ.1 hi with h|rfl
     ·exact HA.out i h
     ·omega,trivial⟩
    case measure=>simp[intOf];omega
  ·have hkt:k=t:=by omega
   have HK:=Zy hkt;clear hkt;go_wp2;go_ret2
   exact⟨_,_,rfl,.inr ⟨fun i hi=>HA.out i (by rw[HL.out]at hi;have:=HK.out;omega),rfl,rfl⟩,JI⟩
def Ju(p s:List Int):Bool:=if p≠[]/\ix p 0=94 then KO (p.drop 1) s 0 else decide (K7 p s (s.length+1-p.length)≠[])
theorem LZ{p s:List Int}{n:Nat}{i:Nat}(h:i<(X9 p s n).length):0<=ix (X9 p s n) i:=(Cn (Bz h)).1
theorem Al{p s:List Int}{n:Nat}:(X9 p s n).length=0↔K7 p s n=[]:=by simp[X9]
theorem EK{p s:List Int}{n:Nat}{a g:Int}(h:QXA (X9 p s n) 0 a g):(g=0/\K7 p s n≠[])\/(g=6/\K7 p s n=[]):=by
 rcases h with⟨k,hk,-,-,-,hg⟩|⟨h,-,hg⟩
 ·exact .inl ⟨hg,fun e=>by rw[<-Al]at e;omega⟩
 ·refine .inr ⟨hg,Al.1 ?_⟩
  rcases Xf (X9 p s n).length with h0|h0
  ·exact h0
  ·have:=h 0 h0;have:=LZ h0;omega
theorem FY{p s:List Int}(h:s.length<p.length):KO p s 0=false:=by
 unfold KO;rw[ZG];intro e;have:=XD List.length e;simp at this;omega
def Jg(older:Bool)(W:Int)(k:Nat):Prop:=if older then(k:Int)<W else W<(k:Int)
structure Found (F:Nat->Bool) (older:Bool) (W:Int) (n k:Nat):Prop where
 lt:k<n
 hit:F k=true
 side:Jg older W k
 first:∀j,j<n->Jg older W j->(if older then k<j else j<k)->F j=false
def zG(F:Nat->Bool)(older:Bool)(W:Int)(n:Nat):Prop:=∀j,j<n->Jg older W j->F j=false
theorem lS(F:Nat->Bool)(older:Bool)(W:Int)(n:Nat):(∃k,Found F older W n k)\/zG F older W n:=by
 cases older
 ·
  by_cases h:∃k,k<n/\F k=true/\W<(k:Int)
  ·left
   obtain⟨k,h1,h2,h3⟩:=h;induction k using Nat.strongRecOn with
   | ind k ih=>
    by_cases h':∃j,j<k/\F j=true/\W<(j:Int)
    ·obtain⟨j,g1,g2,g3⟩:=h'
     exact ih j g1 QQ g2 g3
    ·refine⟨k,h1,h2,by simpa[Jg]using h3,fun j hj hs hlt=>?_⟩
     simp only[Jg,Zt,X3]at hs hlt;cases hF:F j
     ·rfl
     ·exact absurd ⟨j,hlt,hF,hs⟩ h'
  ·right
   intro j hj hs;simp only[Jg,Zt,X3]at hs;cases hF:F j
   ·rfl
   ·exact absurd ⟨j,hj,hF,hs⟩ h
 ·by_cases h:∃k,k<n/\F k=true/\(k:Int)<W
  ·left
   obtain⟨k,h1,h2,h3⟩:=h;obtain⟨d,hd⟩:∃d,n-k=d:=⟨_,rfl⟩;induction d using Nat.strongRecOn generalizing k with
   | ind d ih=>
    by_cases h':∃j,j<n/\k<j/\F j=true/\(j:Int)<W
    ·obtain⟨j,g1,g2,g3,g4⟩:=h'
     exact ih (n-j) QQ j g1 g3 g4 rfl
    ·refine⟨k,h1,h2,by simpa[Jg]using h3,fun j hj hs hlt=>?_⟩
     simp only[Jg,if_true]at hs hlt;cases hF:F j
     ·rfl
     ·exact absurd ⟨j,hj,hlt,hF,hs⟩ h'
  ·right
   intro j hj hs;simp only[Jg,if_true]at hs;cases hF:F j
   ·rfl
   ·exact absurd ⟨j,hj,hF,hs⟩ h
theorem zh(a1 a2:Option Addr)(m c1 n c2:Nat)(p s:List Int)(w:World)(h1:Ints w a1 p)(h2:Ints w a2 s)(hm:p.length=m)(hn:s.length=n)(hm2:m<=4096)(hn2:n<=4096)(hc1:m<=c1)(hc2:n<=c2)(hd1:c1<=9223372036854775807)(hd2:c2<=9223372036854775807):
  Calls Tryz.prog 115 #[.slice a1 m c1,.slice a2 n c2] w fun e w'=>e=.returned (.bool (Ju p s))/\Below w.heap.size w w':=by
 by_cases hA:p≠[]/\ix p 0=94
 ·have hF:Ju p s=KO (p.drop 1) s 0:=by rw[Ju,if_pos hA]
  obtain⟨hp0,hp1⟩:=hA;have hm0:0<m:=by rw[<-hm];exact Xi.2 hp0
  obtain⟨b1,o1,rfl,hc⟩:=h1.at (k:=0) QQ;have e0:=hc 0 QQ;rw[hp1,Yq]at e0;have hI:=h1.drop 1;have hl:(p.drop 1).length=m-1:=by simp[hm]
  by_cases hlt:m-1<=n
  ·have HT:=Zy (show Ju p s=true↔p.drop 1=s.take (m-1) by rw[hF,KO,Xe,hl];simp)
   have hJ:=h2.take (m-1);have HJ:=Zy (show(s.take (m-1)).length=m-1 by simp[hn];omega);have HL:=Zy hl;clear hF hp0 hp1 hc h1 h2 hl hm hn;go_enter Tryz.func115,Tryz.ntmps115
   go_wp2_with fail
   all_goals
    refine(NI _ a2 (m-1) (m-1) _ c2 (p.drop 1) (s.take (m-1)) (Ju p s) HT.out w (by first|exact hI|exact .inl (ZM QEl)) hJ HL.out HJ.out QQ).mono ?_;rintro e w2 ⟨rfl,hb2⟩;go_wp2;go_ret;exact⟨rfl,QQs hb2⟩
  ·have HT:=Zy (show Ju p s=false by rw[hF];exact FY QQ)
   clear hF hp0 hp1 hc h1 h2 hl hm hn;go_enter Tryz.func115,Tryz.ntmps115
   go_wp2;go_ret;exact⟨Xg HT.out.symm,ZH _ _⟩
 ·have hF:Ju p s=decide (K7 p s (n+1-m)≠[]):=by rw[Ju,if_neg hA,hm,hn]
  have HN:=Zy (Sg a1 a2 m c1 n c2 p s 0 w h1 h2 hm hn hm2 hn2);have HF:=Zy hF;by_cases hm0:0<m
  ·obtain⟨b1,o1,rfl,hc⟩:=h1.at (k:=0) QQ
   have e0:=hc 0 QQ;rw[Yq]at e0;have hne:(ix p 0==94)=false:=by
    have:p≠[]:=by rintro rfl;simp at hm;omega
    simpa using fun h=>hA ⟨this,h⟩
   clear hc hm hn hA hF;exact QHL
  ·obtain rfl:m=0:=by omega
   clear hm hn hA hF;exact QHL
def eu(h:Hi)(q:List Int)(ol:Bool):Hi:=⟨h.ls,h.most,h.Zm,h.XU,q,ol⟩
def jD(h:Hi)(xs q:List Int)(ol:Bool)(w:World)(e:Ending)(w':World):Prop:=
 (∃k,Found (fun j=>Ju q (rx h.ls j)) ol h.Zm h.ls.length k/\JC (fun k=>w.heap.size<=k) (eu (zP h xs k) q ol) (KA h xs k) 0 w e w')\/
 (zG (fun j=>Ju q (rx h.ls j)) ol h.Zm h.ls.length/\JC (fun k=>w.heap.size<=k) hi0 [] 5 w e w')
theorem Dq(lv:Value)(most Zm:Int)(sv pv:Value)(older:Bool)(ls:List (List Int))(M W:Int)(XU pat:List Int)(O:Bool)(a:Option Addr)(nn c:Nat)(a2:Option Addr)(np cq:Nat)(ol:Bool)(w:World)(r:Wh w lv most Zm sv pv older ⟨ls,M,W,XU,pat,O⟩)(E:Int)(hE:Xl ⟨ls,M,W,XU,pat,O⟩ nn 0=E)(h0:E≠0)(P:Nat->Prop):
  Calls Tryz.prog 80 #[.agg (X7 lv most Zm sv pv older),.slice a nn c,.slice a2 np cq,.bool ol] w (JC P hi0 [] E w):=by
 have HE:=Zy hE;have Jf:=Zy r;have h0':(E !=0)=true:=Q7;clear hE h0;obtain⟨⟨vs,hvs,hls⟩,h1,h2,Xr,Xt,h3⟩:=r;simp only at hls h1 h2 h3 Xr Xt;obtain rfl:M=most:=h1.symm;obtain rfl:W=Zm:=h2.symm;obtain rfl:O=older:=h3.symm;obtain⟨la,ln,lc,rfl,hl1,hl2,hl3,hl4,hl5⟩:=hvs;obtain⟨sa,sn,sc,rfl,hs1,hs2,hs3,hs4,hs5⟩:=Xr;obtain⟨pa,pn,pc,rfl,hp1,hp2,hp3,xJ,UC⟩:=Xt;have hll:ls.length=ln:=Qq;have Wv:=Zy (fun W' r=>Yx (.slice la ln lc) M W (.slice sa sn sc) (.slice pa pn pc) O ⟨ls,M,W,XU,pat,O⟩ a nn c 0 W' r);unfold X7 at *;have hB:=(Za.new w #[.slice la ln lc,.int .i64 M,.int .i64 W,.slice sa sn sc,.slice pa pn pc,.bool O] 85).alloc (.cells #[.slice none 0 0,.int .i64 0,.int .i64 0,.slice none 0 0,.slice none 0 0,.bool false] 85);have hR:=Za.new (w.alloc (.cells #[.slice la ln lc,.int .i64 M,.int .i64 W,.slice sa sn sc,.slice pa pn pc,.bool O] 85)) #[.slice none 0 0,.int .i64 0,.int .i64 0,.slice none 0 0,.slice none 0 0,.bool false] 85;rw[Zu]at hR;have hacc:=Zo w (.cells #[.slice la ln lc,.int .i64 M,.int .i64 W,.slice sa sn sc,.slice pa pn pc,.bool O] 85) (.cells #[.slice none 0 0,.int .i64 0,.int .i64 0,.slice none 0 0,.slice none 0 0,.bool false] 85);have hsz:w.heap.size+2<=((w.alloc (.cells #[.slice la ln lc,.int .i64 M,.int .i64 W,.slice sa sn sc,.slice pa pn pc,.bool O] 85)).alloc (.cells #[.slice none 0 0,.int .i64 0,.int .i64 0,.slice none 0 0,.slice none 0 0,.bool false] 85)).heap.size:=QJ;have HR1:=Zy (Jf.out.below hacc);clear hs1 hp1 hl1 hl5 hs5 UC hll hls Jf;go_enter Tryz.func80,Tryz.ntmps80
 go_upto_region 1 with fail
 change Code.wp _ _ _ _ ((w.alloc (.cells #[.slice la ln lc,.int .i64 M,.int .i64 W,.slice sa sn sc,.slice pa pn pc,.bool O] 85)).alloc (.cells #[.slice none 0 0,.int .i64 0,.int .i64 0,.slice none 0 0,.slice none 0 0,.bool false] 85));generalize((w.alloc (.cells #[.slice la ln lc,.int .i64 M,.int .i64 W,.slice sa sn sc,.slice pa pn pc,.bool O] 85)).alloc (.cells #[.slice none 0 0,.int .i64 0,.int .i64 0,.slice none 0 0,.slice none 0 0,.bool false] 85))=w1 at *;obtain⟨c0,c1,c2,c3,c4,c5⟩:=hB.six;go_wp2_with ((go_at_call 114);refine(Wv.out _ HR1.out).mono ?_;rintro e w2 ⟨rfl,hb2⟩;rw[HE.out];have hB2:=hB.below hb2 hB.lt;obtain⟨d0,d1,d2,d3,d4,d5⟩:=hB2.six;have hR2:=hR.below hb2 hR.lt;obtain⟨p0,p1,p2,p3,p4,p5⟩:=hR2.six;obtain⟨t0,t1,t2,t3,t4,t5⟩:=hR2.YA;have Z0:=ZE hacc QQ hb2;have hlt2:=hB2.lt;have hz2:=hb2.size)
 have hG:=((((((hR2.set 0 (.slice none 0 0)).set 1 (.int .i64 0)).set 2 (.int .i64 0)).set 3 (.slice none 0 0)).set 4 (.slice none 0 0)).set 5 (.bool false));simp only[Zj,Zk,Zv]at hG;obtain⟨y0,y1,y2,y3,y4,y5⟩:=hG.six;refine ZC (v:=.tuple #[.agg (X7 (.slice none 0 0) 0 0 (.slice none 0 0) (.slice none 0 0) false),.slice none 0 0,.int .i64 (E)]) Qx rfl ?_;exact QGa
theorem uO(lv:Value)(most Zm:Int)(sv pv:Value)(older:Bool)(ls:List (List Int))(M W:Int)(XU pat:List Int)(O:Bool)(a:Option Addr)(nn c:Nat)(a2:Option Addr)(np cq:Nat)(ol:Bool)(w:World)(r:Wh w lv most Zm sv pv older ⟨ls,M,W,XU,pat,O⟩)(hE:Xl ⟨ls,M,W,XU,pat,O⟩ nn 0=0)(h0:200<np)(P:Nat->Prop):
  Calls Tryz.prog 80 #[.agg (X7 lv most Zm sv pv older),.slice a nn c,.slice a2 np cq,.bool ol] w (JC P hi0 [] 2 w):=by
 have HE:=Zy hE;have Jf:=Zy r;clear hE;obtain⟨⟨vs,hvs,hls⟩,h1,h2,Xr,Xt,h3⟩:=r;simp only at hls h1 h2 h3 Xr Xt;obtain rfl:M=most:=h1.symm;obtain rfl:W=Zm:=h2.symm;obtain rfl:O=older:=h3.symm;obtain⟨la,ln,lc,rfl,hl1,hl2,hl3,hl4,hl5⟩:=hvs;obtain⟨sa,sn,sc,rfl,hs1,hs2,hs3,hs4,hs5⟩:=Xr;obtain⟨pa,pn,pc,rfl,hp1,hp2,hp3,xJ,UC⟩:=Xt;have hll:ls.length=ln:=Qq;have Wv:=Zy (fun W' r=>Yx (.slice la ln lc) M W (.slice sa sn sc) (.slice pa pn pc) O ⟨ls,M,W,XU,pat,O⟩ a nn c 0 W' r);unfold X7 at *;have hB:=(Za.new w #[.slice la ln lc,.int .i64 M,.int .i64 W,.slice sa sn sc,.slice pa pn pc,.bool O] 85).alloc (.cells #[.slice none 0 0,.int .i64 0,.int .i64 0,.slice none 0 0,.slice none 0 0,.bool false] 85);have hR:=Za.new (w.alloc (.cells #[.slice la ln lc,.int .i64 M,.int .i64 W,.slice sa sn sc,.slice pa pn pc,.bool O] 85)) #[.slice none 0 0,.int .i64 0,.int .i64 0,.slice none 0 0,.slice none 0 0,.bool false] 85;rw[Zu]at hR;have hacc:=Zo w (.cells #[.slice la ln lc,.int .i64 M,.int .i64 W,.slice sa sn sc,.slice pa pn pc,.bool O] 85) (.cells #[.slice none 0 0,.int .i64 0,.int .i64 0,.slice none 0 0,.slice none 0 0,.bool false] 85);have hsz:w.heap.size+2<=((w.alloc (.cells #[.slice la ln lc,.int .i64 M,.int .i64 W,.slice sa sn sc,.slice pa pn pc,.bool O] 85)).alloc (.cells #[.slice none 0 0,.int .i64 0,.int .i64 0,.slice none 0 0,.slice none 0 0,.bool false] 85)).heap.size:=QJ;have HR1:=Zy (Jf.out.below hacc);clear hs1 hp1 hl1 hl5 hs5 UC hll hls Jf;go_enter Tryz.func80,Tryz.ntmps80
 go_upto_region 1 with fail
 change Code.wp _ _ _ _ ((w.alloc (.cells #[.slice la ln lc,.int .i64 M,.int .i64 W,.slice sa sn sc,.slice pa pn pc,.bool O] 85)).alloc (.cells #[.slice none 0 0,.int .i64 0,.int .i64 0,.slice none 0 0,.slice none 0 0,.bool false] 85));generalize((w.alloc (.cells #[.slice la ln lc,.int .i64 M,.int .i64 W,.slice sa sn sc,.slice pa pn pc,.bool O] 85)).alloc (.cells #[.slice none 0 0,.int .i64 0,.int .i64 0,.slice none 0 0,.slice none 0 0,.bool false] 85))=w1 at *;obtain⟨c0,c1,c2,c3,c4,c5⟩:=hB.six;go_wp2_with ((go_at_call 114);refine(Wv.out _ HR1.out).mono ?_;rintro e w2 ⟨rfl,hb2⟩;rw[HE.out];have hB2:=hB.below hb2 hB.lt;obtain⟨d0,d1,d2,d3,d4,d5⟩:=hB2.six;have hR2:=hR.below hb2 hR.lt;obtain⟨p0,p1,p2,p3,p4,p5⟩:=hR2.six;obtain⟨t0,t1,t2,t3,t4,t5⟩:=hR2.YA;have Z0:=ZE hacc QQ hb2;have hlt2:=hB2.lt;have hz2:=hb2.size)
 have hG:=((((((hR2.set 0 (.slice none 0 0)).set 1 (.int .i64 0)).set 2 (.int .i64 0)).set 3 (.slice none 0 0)).set 4 (.slice none 0 0)).set 5 (.bool false));simp only[Zj,Zk,Zv]at hG;obtain⟨y0,y1,y2,y3,y4,y5⟩:=hG.six;refine ZC (v:=.tuple #[.agg (X7 (.slice none 0 0) 0 0 (.slice none 0 0) (.slice none 0 0) false),.slice none 0 0,.int .i64 (2)]) Qx rfl ?_;exact QGa
theorem BG(lv:Value)(most Zm:Int)(sv pv:Value)(older:Bool)(ls:List (List Int))(M W:Int)(XU pat:List Int)(O:Bool)(a:Option Addr)(nn c:Nat)(a2:Option Addr)(np cq:Nat)(ol:Bool)(w:World)(r:Wh w lv most Zm sv pv older ⟨ls,M,W,XU,pat,O⟩)(hE:Xl ⟨ls,M,W,XU,pat,O⟩ nn 0=0)(h0:np=0)(hp:pat=[])(P:Nat->Prop):
  Calls Tryz.prog 80 #[.agg (X7 lv most Zm sv pv older),.slice a nn c,.slice a2 np cq,.bool ol] w (JC P hi0 [] 6 w):=by
 have HE:=Zy hE;have Jf:=Zy r;subst h0;clear hE;obtain⟨⟨vs,hvs,hls⟩,h1,h2,Xr,Xt,h3⟩:=r;simp only at hls h1 h2 h3 Xr Xt;obtain rfl:M=most:=h1.symm;obtain rfl:W=Zm:=h2.symm;obtain rfl:O=older:=h3.symm;obtain⟨la,ln,lc,rfl,hl1,hl2,hl3,hl4,hl5⟩:=hvs;obtain⟨sa,sn,sc,rfl,hs1,hs2,hs3,hs4,hs5⟩:=Xr;obtain⟨pa,pn,pc,rfl,hp1,hp2,hp3,xJ,UC⟩:=Xt;have hll:ls.length=ln:=Qq;have Wv:=Zy (fun W' r=>Yx (.slice la ln lc) M W (.slice sa sn sc) (.slice pa pn pc) O ⟨ls,M,W,XU,pat,O⟩ a nn c 0 W' r);have hp0:((pn:Int)==0)=true:=by rw[<-hp1,hp];rfl
 clear hp;unfold X7 at *;have hB:=(Za.new w #[.slice la ln lc,.int .i64 M,.int .i64 W,.slice sa sn sc,.slice pa pn pc,.bool O] 85).alloc (.cells #[.slice none 0 0,.int .i64 0,.int .i64 0,.slice none 0 0,.slice none 0 0,.bool false] 85);have hR:=Za.new (w.alloc (.cells #[.slice la ln lc,.int .i64 M,.int .i64 W,.slice sa sn sc,.slice pa pn pc,.bool O] 85)) #[.slice none 0 0,.int .i64 0,.int .i64 0,.slice none 0 0,.slice none 0 0,.bool false] 85;rw[Zu]at hR;have hacc:=Zo w (.cells #[.slice la ln lc,.int .i64 M,.int .i64 W,.slice sa sn sc,.slice pa pn pc,.bool O] 85) (.cells #[.slice none 0 0,.int .i64 0,.int .i64 0,.slice none 0 0,.slice none 0 0,.bool false] 85);have hsz:w.heap.size+2<=((w.alloc (.cells #[.slice la ln lc,.int .i64 M,.int .i64 W,.slice sa sn sc,.slice pa pn pc,.bool O] 85)).alloc (.cells #[.slice none 0 0,.int .i64 0,.int .i64 0,.slice none 0 0,.slice none 0 0,.bool false] 85)).heap.size:=QJ;have HR1:=Zy (Jf.out.below hacc);clear hs1 hp1 hl1 hl5 hs5 UC hll hls Jf;go_enter Tryz.func80,Tryz.ntmps80
 go_upto_region 1 with fail
 change Code.wp _ _ _ _ ((w.alloc (.cells #[.slice la ln lc,.int .i64 M,.int .i64 W,.slice sa sn sc,.slice pa pn pc,.bool O] 85)).alloc (.cells #[.slice none 0 0,.int .i64 0,.int .i64 0,.slice none 0 0,.slice none 0 0,.bool false] 85));generalize((w.alloc (.cells #[.slice la ln lc,.int .i64 M,.int .i64 W,.slice sa sn sc,.slice pa pn pc,.bool O] 85)).alloc (.cells #[.slice none 0 0,.int .i64 0,.int .i64 0,.slice none 0 0,.slice none 0 0,.bool false] 85))=w1 at *;obtain⟨c0,c1,c2,c3,c4,c5⟩:=hB.six;go_wp2_with ((go_at_call 114);refine(Wv.out _ HR1.out).mono ?_;rintro e w2 ⟨rfl,hb2⟩;rw[HE.out];have hB2:=hB.below hb2 hB.lt;obtain⟨d0,d1,d2,d3,d4,d5⟩:=hB2.six;have hR2:=hR.below hb2 hR.lt;obtain⟨p0,p1,p2,p3,p4,p5⟩:=hR2.six;obtain⟨t0,t1,t2,t3,t4,t5⟩:=hR2.YA;have Z0:=ZE hacc QQ hb2;have hlt2:=hB2.lt;have hz2:=hb2.size)
 have hG:=((((((hR2.set 0 (.slice none 0 0)).set 1 (.int .i64 0)).set 2 (.int .i64 0)).set 3 (.slice none 0 0)).set 4 (.slice none 0 0)).set 5 (.bool false));simp only[Zj,Zk,Zv]at hG;obtain⟨y0,y1,y2,y3,y4,y5⟩:=hG.six;refine ZC (v:=.tuple #[.agg (X7 (.slice none 0 0) 0 0 (.slice none 0 0) (.slice none 0 0) false),.slice none 0 0,.int .i64 (6)]) Qx rfl ?_;exact QGa
end Go.Proofs.YtmdnepkekekncaaGreat
