/- LiftTopBounds: joined, no condition of its own. -/
import Derived.Test.YtmdcencmiopmmaaGreatTbJoinT
import Derived.Test.YtmdcencmiopmmaaGreatTbJoinJ1
import Derived.Test.YtmdcencmiopmmaaGreatTbJoinJ21
set_option linter.unusedVariables false
set_option linter.unusedSimpArgs false
set_option maxRecDepth 100000
set_option maxHeartbeats 12000000
namespace Go.Proofs.YtmdcencmiopmmaaGreat
open Go.RowKit
def xL(p out:List Int)(i:Nat):Prop:=∀j,j<i->∃b:Nat,ix out j=(b:Int)/\vH p (j+1) b
theorem xL.more{p out:List Int}{i b:Nat}(h:xL p out i)(hi:i<out.length)(hb:vH p (i+1) b):xL p (out.set i (b:Int)) (i+1):=by
 intro j hj;by_cases h':j=i
 ·subst h';exact⟨b,L8 hi,hb⟩
 ·rw[L6 (fun e=>h' e.symm)];exact h j (by omega)
def FT(p:List Int)(n:Nat)(w:World)(e:Ending)(w':World):Prop:=
 ∃g c out,e=.returned (.tuple #[.slice (some ⟨g,0,none⟩) n c,.int .i64 0])/\Ints w' (some ⟨g,0,none⟩) out/\out.length=n/\xL p out n/\Below w.heap.size w w'
theorem qB(a:Option Addr)(n c:Nat)(p:List Int)(w:World)(ha:Ints w a p)(hn:p.length=n)(h2:n<=4096):
  Calls Tryz.prog 268 #[.slice a n c] w (FT p n w):=by
 have HN:=QQ hn;clear hn;have hmk:=qP n n (QU _) (by omega);go_enter Tryz.func268,Tryz.ntmps268
 go_wp2;clear hmk
 go_loopw [6,5] (fun i k wr=>∃(j kk:Nat) (out:List Int),i=.int .i64 (j:Int)/\k=.int .i64 (kk:Int)/\1<=j/\(j<=n\/j=1)/\QD wr w.heap.size (out.map (Value.int .i64)).toArray 3/\out.length=n/\xL p out (min j n)/\vH p j kk/\Below w.heap.size w wr) (fun i _ _=>n-(intOf i).toNat)
 case atStart=>
  refine⟨1,0,List.replicate n 0,rfl,rfl,by omega,by omega,?_,by simp,?_,Ed p,QC _ _⟩
  ·rw[<-yF n];exact QD.new _ _ _
  ·intro j hj;exact⟨0,by unfold ix;rw[QN,List.getElem?_replicate];split<;>rfl,by rw[show j=0 from by omega];exact Ed p⟩
 case round=>
  obtain⟨j,kk,out,rfl,rfl,hj1,hj2,hB,hlen,MU,hmax,hbel⟩:=hrel;by_cases hlt:j<n
  ·rw[XC (by omega)]at MU
   obtain⟨b1,o1,rfl,hc0⟩:=ha.at (k:=j) (by rw[HN.out];exact hlt);have hc:∀i,i<n->w.cell? ⟨b1,o1+i,none⟩=some (.int .i64 (ix p i)):=fun i hi=>hc0 i (by rw[HN.out];exact hi)
   clear hc0;have HC:=QQ hc;have GZ:=QQ MU;have HL:=QQ hlen;have HIN:=QQ (ax.start hmax);have hkj:=hmax.1.1;clear hc MU hlen hmax;have hbw:=hB.lt;go_wp2
   go_loopw [5] (fun k wr=>∃kk:Nat,k=.int .i64 (kk:Int)/\kk<j/\ax p j kk/\QD wr w.heap.size (out.map (Value.int .i64)).toArray 3/\Below w.heap.size w wr) (fun k _=>(intOf k).toNat)
   case atStart=>exact⟨kk,rfl,hkj,HIN.out,hB,hbel⟩
   case round=>
    clear hkj HIN hbw hbel hB;obtain⟨k,rfl,hk,hin,hBx,hbx⟩:=hrel;have hbw:=hBx.lt;have cell:∀i,i<n->wr.cell? ⟨b1,o1+i,none⟩=some (.int .i64 (ix p i)):=fun i hi=>by
     have:=HC.out i hi;rw[hbx.cell (Zv this)];exact this
    have ck:=cell k (by omega);have cj:=cell j hlt;clear cell;have HI:=QQ hin;clear hin;have co:=WY hBx (i:=j) (by rw[HL.out];exact hlt);have cf:=hBx.free j;have hk0:(0:Int)<=(k:Int):=by omega
    have hkn:(k:Int)<(n:Int):=by omega
    have hjn:(j:Int)<(n:Int):=by omega
    by_cases he:ix p k=ix p j
    ·have HE:=QQ he
     have HM:=QQ (HI.out.hit he hj1);have hd3:(ix p k !=ix p j)=false:=by simpa using he
     have hd4:(ix p k==ix p j)=true:=by simpa using he
     clear he;by_cases hp:0<k
     ·have hp0:decide ((0:Int)<(k:Int))=true:=by simpa using hp
      go_wp2
      go_quiet (fail)
      all_goals
       go_wp2
       go_quiet (fail)
       all_goals
        go_wp2;refine⟨⟨j+1,k+1,out.set j (((k+1:Nat):Int)),by go_num,by go_num,by omega,by omega,?_,by simp;exact HL.out,?_,HM.out,?_⟩,by simp[intOf];omega⟩
        ·exact BM (hBx.drewN _) j _
        ·rw[XC (by omega)];exact xL.more GZ.out (by rw[HL.out];exact hlt) HM.out
        ·exact(below_drewN hbx _).setCell (p:=⟨w.heap.size,j,none⟩) (QU _) _
     ·obtain rfl:k=0:=by omega
      rw[Zp]at ck;go_wp2
      go_quiet (fail)
      all_goals
       go_wp2
       go_quiet (fail)
       all_goals
        go_wp2;refine⟨⟨j+1,0+1,out.set j (((0+1:Nat):Int)),by go_num,by go_num,by omega,by omega,?_,by simp;exact HL.out,?_,HM.out,?_⟩,by simp[intOf];omega⟩
        ·exact BM (hBx.drewN _) j _
        ·rw[XC (by omega)];exact xL.more GZ.out (by rw[HL.out];exact hlt) HM.out
        ·exact(below_drewN hbx _).setCell (p:=⟨w.heap.size,j,none⟩) (QU _) _
    ·have HE:=QQ he
     have hd3:(ix p k !=ix p j)=true:=by simpa using he
     have hd4:(ix p k==ix p j)=false:=by simpa using he
     by_cases hp:0<k
     ·have hp0:decide ((0:Int)<(k:Int))=true:=by simpa using hp
      obtain⟨b,hb1,hb2⟩:=GZ.out (k-1) (by omega);rw[show k-1+1=k from by omega]at hb2;have hq:=WY hBx (i:=k-1) (by rw[HL.out];omega);rw[hb1]at hq;have HS:=QQ (HI.out.step hp he hb2);have hbk:=hb2.1.1;have i1:((k:Int)-1).toNat=k-1:=by omega
      have i2:(0:Int)<=(k:Int)-1:=by omega
      have i3:(k:Int)-1<(n:Int):=by omega
      clear he hb1 hb2;go_wp2
      go_quiet (fail)
      all_goals
       go_wp2;go_roundw
       case rel=>exact⟨b,rfl,by omega,HS.out,hBx.drewN _,below_drewN hbx _⟩
       case measure=>simp[intOf];omega
     ·obtain rfl:k=0:=by omega
      have HM:=QQ (HI.out.miss he hj1);clear he;rw[Zp]at ck;go_wp2
      go_quiet (fail)
      all_goals
       go_wp2
       go_quiet (fail)
       all_goals
        go_wp2;refine⟨⟨j+1,0,out.set j (((0:Nat):Int)),by go_num,by go_num,by omega,by omega,?_,by simp;exact HL.out,?_,HM.out,?_⟩,by simp[intOf];omega⟩
        ·exact BM (hBx.drewN _) j _
        ·rw[XC (by omega)];exact xL.more GZ.out (by rw[HL.out];exact hlt) HM.out
        ·exact(below_drewN hbx _).setCell (p:=⟨w.heap.size,j,none⟩) (QU _) _
  ·have hmin:min j n=n:=by omega
   rw[hmin]at MU;have HL:=QQ hlen;have GZ:=QQ MU;clear hmin hlen MU hmax;go_wp2;go_ret2
   exact⟨_,_,out,rfl,j6 hB,HL.out,GZ.out,hbel⟩
theorem jR{p s:List Int}{m j:Nat}(hm:p.length=m)(hj:j+1<=s.length)(hT:Ir p s (j+1) m):
  Zd p s (j+1+1-m)=Zd p s (j+1-m)++[((j+1-m:Nat):Int)]:=by
 have h1:=hT.1;rw[show j+1+1-m=(j+1-m)+1 from by omega];apply Ud;rw[jk (by omega),hm,show j+1-m+m=j+1 from by omega];exact hT
theorem zD{p s:List Int}{m j:Nat}(hm:p.length=m)(h0:0<m)(hj:j+1<=s.length)(hT:¬Ir p s (j+1) m):
  Zd p s (j+1+1-m)=Zd p s (j+1-m):=by
 by_cases h1:m<=j+1
 ·rw[show j+1+1-m=(j+1-m)+1 from by omega]
  apply xR;rw[jk (by omega),hm,show j+1-m+m=j+1 from by omega];exact hT
 ·rw[show j+1+1-m=j+1-m from by omega]
theorem G6(s:List Int)(k:Nat):Zd [] s (k+1)=Zd [] s k++[(k:Int)]:=Ud (by simp[Y8])
def Du(p s:List Int)(n:Nat)(w:World)(e:Ending)(w':World):Prop:=
 ∃v,e=.returned (.tuple #[v,.int .i64 0])/\Own 3 w.heap.size w' v (Zd p s n)/\Below w.heap.size w w'
theorem NQ(a1 a2:Option Addr)(c1 n c2:Nat)(s:List Int)(w:World)(hn:s.length=n)(hn2:n<=4096):
  Calls Tryz.prog 245 #[.slice a1 0 c1,.slice a2 n c2] w (Du [] s (n+1) w):=by
 have HN:=QQ hn;clear hn;go_enter Tryz.func245,Tryz.ntmps245
 go_wp2_with fail
 refine(qB a1 0 c1 [] w (Ints.nil _ _) rfl (by omega)).mono ?_;rintro e w1 ⟨g,cb,out,rfl,hI,hlen,MU,Yz⟩;clear hI hlen MU;go_wp2
 go_loopw [30,8] (fun i v wr=>∃k:Nat,i=.int .i64 (k:Int)/\k<=n+1/\Own 3 w.heap.size wr v (Zd [] s k)/\Below w.heap.size w wr) (fun i _ _=>n+1-(intOf i).toNat)
 case atStart=>exact⟨0,rfl,by omega,Own.nil _ _ _,Yz⟩
 case round=>
  obtain⟨k,rfl,hk,hown,hbel⟩:=hrel;have hpl:=Ka [] s k;by_cases hlt:k<n+1
  ·have HY:=QQ (G6 s k)
   have hsz:=hbel.size;go_wp2_with (at_builtin;refine app1 rfl _ _ rfl w.heap.size u8 _ _ _ rfl rfl (hown.alloc _) (Xi _ _ _) (by omega) (ZV hbel.size _) ?_;intro v3 w3 hown3 hgrow3)
   go_roundw
   case rel=>exact⟨k+1,by go_num,by omega,by rw[HY.out];exact hown3,(hbel.alloc hbel.size _).grown hgrow3 (by have:=hbel.size;simp;omega) hown.row⟩
   case measure=>simp[intOf];omega
  ·have hke:k=n+1:=by omega
   have HK:=QQ hke;clear hke;go_wp2;go_ret2
   exact⟨_,rfl,by rw[<-HK.out];exact hown,hbel⟩
theorem Mw(a1 a2:Option Addr)(m c1 n c2:Nat)(p s:List Int)(w:World)(h1:Ints w a1 p)(h2:Ints w a2 s)(hm:p.length=m)(hn:s.length=n)(hm2:m<=4096)(hn2:n<=4096)(hpos:0<m):
  Calls Tryz.prog 245 #[.slice a1 m c1,.slice a2 n c2] w (Du p s (n+1-m) w):=by
 have HM:=QQ hm;have HN:=QQ hn;clear hm hn;obtain⟨b1,o1,rfl,hc1⟩:=h1.at (k:=0) (by rw[HM.out];exact hpos);go_enter Tryz.func245,Tryz.ntmps245
 go_wp2_with fail
 refine(qB _ m c1 p w h1 HM.out (by omega)).mono ?_;rintro e w1 ⟨g,cb,out,rfl,hI,hlen,MU,Yz⟩;have hp1:∀i,i<m->w1.cell? ⟨b1,o1+i,none⟩=some (.int .i64 (ix p i)):=fun i hi=>by
  have:=hc1 i (by rw[HM.out];exact hi);rw[Yz.cell (Zv this)];exact this
 have hs1:=h2.below Yz;have ho1:∀i,i<m->w1.cell? ⟨g,i,none⟩=some (.int .i64 (ix out i)):=fun i hi=>by
  obtain⟨b,o,hb,hc⟩:=hI.at (k:=i) (by rw[hlen];exact hi);simp only[Qv,Xz]at hb;obtain⟨rfl,rfl,-⟩:=hb;have:=hc i (by rw[hlen];exact hi)
  rwa[Zu]at this
 have HP:=QQ hp1;have HO:=QQ ho1;have HL:=QQ hlen;have GZ:=QQ MU;clear hp1 ho1 hlen MU hI hc1 h1 h2;go_wp2
 go_loopw [41,8,10] (fun i v k wr=>∃(j kk:Nat),i=.int .i64 (j:Int)/\k=.int .i64 (kk:Int)/\j<=n/\Own 3 w1.heap.size wr v (Zd p s (j+1-m))/\aW p s m j kk/\Below w1.heap.size w1 wr) (fun i _ _ _=>n-(intOf i).toNat)
 case atStart=>
  refine⟨0,0,rfl,rfl,by omega,?_,NI hpos,Qx _ _⟩;rw[show 0+1-m=0 from by omega];exact Own.nil _ _ _
 case round=>
  obtain⟨j,kk,rfl,rfl,hj,hown,hmax,hbel⟩:=hrel;have hpl:=Ka p s (j+1-m);by_cases hlt:j<n
  ·obtain⟨b2,o2,rfl,hc2⟩:=hs1.at (k:=j) (by rw[HN.out];exact hlt)
   have cs:wr.cell? ⟨b2,o2+j,none⟩=some (.int .i64 (ix s j)):=by
    have:=hc2 j (by rw[HN.out];exact hlt);exact QAc
   have HIN:=QQ (az.start hmax);have hkm:=hmax.1;have hjn:(j:Int)<(n:Int):=by omega
   clear hmax hc2;go_wp2
   go_loopw [10] (fun k wr=>∃kk:Nat,k=.int .i64 (kk:Int)/\az p s m j kk/\Own 3 w1.heap.size wr u8 (Zd p s (j+1-m))/\Below w1.heap.size w1 wr) (fun k _=>(intOf k).toNat)
   case atStart=>exact⟨kk,rfl,HIN.out,hown,hbel⟩
   case round=>
    clear hkm HIN hown hbel cs;obtain⟨k,rfl,hin,hown,hbel⟩:=hrel;have hkm:=hin.1;have ck:wr.cell? ⟨b1,o1+k,none⟩=some (.int .i64 (ix p k)):=by
     have:=HP.out k hkm;exact QAc
    have HI:=QQ hin;clear hin;have hk0:(0:Int)<=(k:Int):=by omega
    have hkn:(k:Int)<(m:Int):=by omega
    have hsz:=hbel.size;by_cases he:ix p k=ix s j
    ·have hd3:(ix p k !=ix s j)=false:=by simpa using he
     have hd4:(ix p k==ix s j)=true:=by simpa using he
     have HT:=QQ (HI.out.hit he);clear he;by_cases hp:0<k
     ·have hp0:(0:Int)<(k:Int):=by omega
      by_cases QKT:k+1=m
      ·obtain rfl:m=k+1:=by omega
       obtain⟨b,hb1,hb2⟩:=GZ.out k (by omega);have hTf:=HT.out.full hb2;have hTs:=HT.out.2.1;have hkj:=hTs.1;have HY:=QQ (jR HM.out (by rw[HN.out];omega) hTs);have HX:=QQ (show((j:Int)+1-((k:Int)+1))=((j+1-(k+1):Nat):Int) by omega);have HF:=QQ hTf;have HB1:=QQ hb1;clear hTs hTf hb1;have hbm:=hb2.1.1;clear hb2;go_wp2_with (at_builtin;refine app1 rfl _ _ rfl w1.heap.size u8 _ _ _ rfl rfl (hown.alloc _) (Xi _ _ _) (by omega) (ZV hbel.size _) ?_;intro v3 w3 hown3 hgrow3;have hb3:=(hbel.alloc hbel.size _).grown hgrow3 (by simp;omega) hown.row;have co3:w3.cell? ⟨g,k,none⟩=some (.int .i64 (b:Int)):=(by have h:=HO.out k (by omega);rw[hb3.cell (Zv h),<-HB1.out];exact h);clear hgrow3)
       have hz:Own 3 w1.heap.size w3 v3 (Zd p s (j+1+1-(k+1))):=by rw[HY.out,<-HX.out];exact hown3
       exact QvH
      ·obtain⟨mK,mU⟩:=HT.out.part (by omega)
       have HY:=QQ (zD HM.out hpos (by rw[HN.out];omega) mU);have HF:=QQ mK;have hk4:¬(k:Int)+1=(m:Int):=by omega
       clear mK mU;go_wp2;go_roundw
       case rel=>exact⟨j+1,k+1,by go_num,by go_num,by omega,by rw[HY.out];exact hown,HF.out,hbel⟩
       case measure=>simp[intOf];omega
     ·obtain rfl:k=0:=by omega
      rw[Zp]at ck;by_cases QKT:0+1=m
      ·obtain rfl:m=0+1:=by omega
       obtain⟨b,hb1,hb2⟩:=GZ.out 0 (by omega);have hTf:=HT.out.full hb2;have hTs:=HT.out.2.1;have hkj:=hTs.1;have HY:=QQ (jR HM.out (by rw[HN.out];omega) hTs);have HX:=QQ (show(j:Int)=((j+1-(0+1):Nat):Int) by omega);have HF:=QQ hTf;have HB1:=QQ hb1;clear hTs hTf hb1;have hbm:=hb2.1.1;clear hb2;go_wp2_with (at_builtin;refine app1 rfl _ _ rfl w1.heap.size u8 _ _ _ rfl rfl (hown.alloc _) (Xi _ _ _) (by omega) (ZV hbel.size _) ?_;intro v3 w3 hown3 hgrow3;have hb3:=(hbel.alloc hbel.size _).grown hgrow3 (by simp;omega) hown.row;have co3:w3.cell? ⟨g,0,none⟩=some (.int .i64 (b:Int)):=(by have h:=HO.out 0 (by omega);rw[hb3.cell (Zv h),<-HB1.out];exact h);clear hgrow3)
       have hz:Own 3 w1.heap.size w3 v3 (Zd p s (j+1+1-(0+1))):=by rw[HY.out,<-HX.out];exact hown3
       exact QvH
      ·obtain⟨mK,mU⟩:=HT.out.part (by omega)
       have HY:=QQ (zD HM.out hpos (by rw[HN.out];omega) mU);have HF:=QQ mK;have hk4:¬1=(m:Int):=by omega
       clear mK mU;go_wp2;go_roundw
       case rel=>exact⟨j+1,0+1,by go_num,by go_num,by omega,by rw[HY.out];exact hown,HF.out,hbel⟩
       case measure=>simp[intOf];omega
    ·have hd3:(ix p k !=ix s j)=true:=by simpa using he
     have hd4:(ix p k==ix s j)=false:=by simpa using he
     by_cases hp:0<k
     ·have hp0:(0:Int)<(k:Int):=by omega
      obtain⟨b,hb1,hb2⟩:=GZ.out (k-1) (by omega);rw[show k-1+1=k from by omega]at hb2;have co:wr.cell? ⟨g,k-1,none⟩=some (.int .i64 (b:Int)):=by
       have h:=HO.out (k-1) (by omega);rw[hbel.cell (Zv h),<-hb1];exact h
      have HS:=QQ (HI.out.step hp he hb2);have hbk:=hb2.1.1;have i1:((k:Int)-1).toNat=k-1:=by omega
      have i2:(0:Int)<=(k:Int)-1:=by omega
      have i3:(k:Int)-1<(m:Int):=by omega
      clear he hb1 hb2;go_wp2;go_roundw
      case rel=>exact⟨b,rfl,HS.out,hown,hbel⟩
      case measure=>simp[intOf];omega
     ·obtain rfl:k=0:=by omega
      rw[Zp]at ck;obtain⟨mK,mU⟩:=(HI.out.miss he).part hpos;have HY:=QQ (zD HM.out hpos (by rw[HN.out];omega) mU);have HF:=QQ mK;have hk4:¬0=(m:Int):=by omega
      clear mK mU he;go_wp2;go_roundw
      case rel=>exact⟨j+1,0,by go_num,rfl,by omega,by rw[HY.out];exact hown,HF.out,hbel⟩
      case measure=>simp[intOf];omega
  ·have hje:j=n:=by omega
   have HK:=QQ hje;clear hje hmax;go_wp2;go_ret2
   exact⟨_,rfl,by rw[<-HK.out];exact hown.mono Yz.size,QW Yz Yz.size hbel⟩
theorem RJ(a1 a2:Option Addr)(m c1 n c2:Nat)(p s:List Int)(w:World)(h1:Ints w a1 p)(h2:Ints w a2 s)(hm:p.length=m)(hn:s.length=n)(hm2:m<=4096)(hn2:n<=4096):
  Calls Tryz.prog 245 #[.slice a1 m c1,.slice a2 n c2] w (Du p s (n+1-m) w):=by
 rcases Zx m with rfl|h0
 ·obtain rfl:=QH hm
  exact NQ a1 a2 c1 n c2 s w hn hn2
 ·exact Mw a1 a2 m c1 n c2 p s w h1 h2 hm hn hm2 hn2 h0
def mi(l:List Int)(f a g:Int):Prop:=
 (∃k,k<l.length/\(∀i,i<k->ix l i<f)/\f<=ix l k/\a=ix l k/\g=0)\/((∀i,i<l.length->ix l i<f)/\a=0/\g=6)
def aV(P:Int->Int->Prop)(w:World)(e:Ending)(w':World):Prop:=
 ∃a g,e=.returned (.tuple #[.int .i64 a,.int .i64 g])/\P a g/\Below w.heap.size w w'
theorem M9(a1 a2:Option Addr)(m c1 n c2:Nat)(p s:List Int)(f:Int)(w:World)(h1:Ints w a1 p)(h2:Ints w a2 s)(hm:p.length=m)(hn:s.length=n)(hm2:m<=4096)(hn2:n<=4096):
  Calls Tryz.prog 222 #[.slice a1 m c1,.slice a2 n c2,.int .i64 f] w (aV (mi (Zd p s (n+1-m)) f) w):=by
 have HM:=QQ hm;have HN:=QQ hn;clear hm hn;go_enter Tryz.func222,Tryz.ntmps222
 go_wp2_with fail
 refine(RJ a1 a2 m c1 n c2 p s w h1 h2 HM.out HN.out hm2 hn2).mono ?_;rintro e w1 ⟨v,rfl,hown,Yz⟩;have hpl:=Ka p s (n+1-m);generalize Zd p s (n+1-m)=l at *;obtain⟨b,t,c,rfl⟩:=hown.form;obtain⟨hl,hI,hc⟩:=hown.get;have HL:=QQ hl;have Qzu:t<=4097:=by omega
 clear hown hl hpl h1 h2;go_wp2
 go_loopw [23] (fun i wr=>∃k:Nat,i=.int .i64 (k:Int)/\k<=t/\(∀i,i<k->ix l i<f)/\wr=w1) (fun i _=>t-(intOf i).toNat)
 case atStart=>exact⟨0,rfl,by omega,fun i hi=>by omega,rfl⟩
 case round=>
  obtain⟨k,rfl,hk,hall,rfl⟩:=hrel;have HA:=QQ hall;clear hall;by_cases hlt:k<t
  ·obtain⟨b1,o1,rfl,hc1⟩:=hI.at (k:=k) (by rw[HL.out];exact hlt)
   have ck:=hc1 k (by rw[HL.out];exact hlt);clear hc1;by_cases hf:f<=ix l k
   ·go_wp2
    go_ret2
    exact⟨_,_,rfl,.inl ⟨k,by rw[HL.out];exact hlt,HA.out,hf,rfl,rfl⟩,Yz⟩
   ·go_wp2
    go_roundw
    case rel=>exact⟨k+1,by go_num,by omega,fun i hi=>by
     rcases Qp.1 hi with h|rfl
     ·exact HA.out i h
     ·omega,trivial⟩
    case measure=>simp[intOf];omega
  ·have hkt:k=t:=by omega
   have HK:=QQ hkt;clear hkt;go_wp2;go_ret2
   exact⟨_,_,rfl,.inr ⟨fun i hi=>HA.out i (by rw[HL.out]at hi;have:=HK.out;omega),rfl,rfl⟩,Yz⟩
def X8(p s:List Int):Bool:=if p≠[]/\ix p 0=94 then Y8 (p.drop 1) s 0 else decide (JF p s (s.length+1-p.length)≠[])
theorem EG{p s:List Int}{n:Nat}{i:Nat}(h:i<(Zd p s n).length):0<=ix (Zd p s n) i:=(uR (Hf h)).1
theorem jS{p s:List Int}{n:Nat}:(Zd p s n).length=0↔JF p s n=[]:=by simp[Zd]
theorem Az{p s:List Int}{n:Nat}{a g:Int}(h:mi (Zd p s n) 0 a g):(g=0/\JF p s n≠[])\/(g=6/\JF p s n=[]):=by
 rcases h with⟨k,hk,-,-,-,hg⟩|⟨h,-,hg⟩
 ·exact .inl ⟨hg,fun e=>by rw[<-jS]at e;omega⟩
 ·refine .inr ⟨hg,jS.1 ?_⟩
  rcases Zx (Zd p s n).length with h0|h0
  ·exact h0
  ·have:=h 0 h0;have:=EG h0;omega
theorem BG{p s:List Int}(h:s.length<p.length):Y8 p s 0=false:=by
 unfold Y8;rw[Qz];intro e;have:=XQ List.length e;simp at this;omega
def YE(older:Bool)(W:Int)(k:Nat):Prop:=if older then(k:Int)<W else W<(k:Int)
structure Found (F:Nat->Bool) (older:Bool) (W:Int) (n k:Nat):Prop where
 lt:k<n
 hit:F k=true
 side:YE older W k
 first:∀j,j<n->YE older W j->(if older then k<j else j<k)->F j=false
def Vp(F:Nat->Bool)(older:Bool)(W:Int)(n:Nat):Prop:=∀j,j<n->YE older W j->F j=false
theorem TE(F:Nat->Bool)(older:Bool)(W:Int)(n:Nat):(∃k,Found F older W n k)\/Vp F older W n:=by
 cases older
 ·
  by_cases h:∃k,k<n/\F k=true/\W<(k:Int)
  ·left
   obtain⟨k,h1,h2,h3⟩:=h;induction k using Nat.strongRecOn with
   | ind k ih=>
    by_cases h':∃j,j<k/\F j=true/\W<(j:Int)
    ·obtain⟨j,g1,g2,g3⟩:=h'
     exact ih j g1 (by omega) g2 g3
    ·refine⟨k,h1,h2,by simpa[YE]using h3,fun j hj hs hlt=>?_⟩
     simp only[YE,Qb,ZM]at hs hlt;cases hF:F j
     ·rfl
     ·exact absurd ⟨j,hlt,hF,hs⟩ h'
  ·right
   intro j hj hs;simp only[YE,Qb,ZM]at hs;cases hF:F j
   ·rfl
   ·exact absurd ⟨j,hj,hF,hs⟩ h
 ·by_cases h:∃k,k<n/\F k=true/\(k:Int)<W
  ·left
   obtain⟨k,h1,h2,h3⟩:=h;obtain⟨d,hd⟩:∃d,n-k=d:=⟨_,rfl⟩;induction d using Nat.strongRecOn generalizing k with
   | ind d ih=>
    by_cases h':∃j,j<n/\k<j/\F j=true/\(j:Int)<W
    ·obtain⟨j,g1,g2,g3,g4⟩:=h'
     exact ih (n-j) (by omega) j g1 g3 g4 rfl
    ·refine⟨k,h1,h2,by simpa[YE]using h3,fun j hj hs hlt=>?_⟩
     simp only[YE,if_true]at hs hlt;cases hF:F j
     ·rfl
     ·exact absurd ⟨j,hj,hlt,hF,hs⟩ h'
  ·right
   intro j hj hs;simp only[YE,if_true]at hs;cases hF:F j
   ·rfl
   ·exact absurd ⟨j,hj,hF,hs⟩ h
theorem WV(a1 a2:Option Addr)(m c1 n c2:Nat)(p s:List Int)(w:World)(h1:Ints w a1 p)(h2:Ints w a2 s)(hm:p.length=m)(hn:s.length=n)(hm2:m<=4096)(hn2:n<=4096)(hc1:m<=c1)(hc2:n<=c2)(hd1:c1<=9223372036854775807)(hd2:c2<=9223372036854775807):
  Calls Tryz.prog 192 #[.slice a1 m c1,.slice a2 n c2] w fun e w'=>e=.returned (.bool (X8 p s))/\Below w.heap.size w w':=by
 by_cases hA:p≠[]/\ix p 0=94
 ·have hF:X8 p s=Y8 (p.drop 1) s 0:=by rw[X8,if_pos hA]
  obtain⟨hp0,hp1⟩:=hA;have hm0:0<m:=by rw[<-hm];exact Zf.2 hp0
  obtain⟨b1,o1,rfl,hc⟩:=h1.at (k:=0) (by omega);have e0:=hc 0 (by omega);rw[hp1,Zp]at e0;have hI:=h1.drop 1;have hl:(p.drop 1).length=m-1:=by simp[hm]
  by_cases hlt:m-1<=n
  ·have HT:=QQ (show X8 p s=true↔p.drop 1=s.take (m-1) by rw[hF,Y8,Zq,hl];simp)
   have hJ:=h2.take (m-1);have HJ:=QQ (show(s.take (m-1)).length=m-1 by simp[hn];omega);have HL:=QQ hl;clear hF hp0 hp1 hc h1 h2 hl hm hn;go_enter Tryz.func192,Tryz.ntmps192
   go_wp2_with fail
   all_goals
    refine(Gh _ a2 (m-1) (m-1) _ c2 (p.drop 1) (s.take (m-1)) (X8 p s) HT.out w (by first|exact hI|exact .inl (QH (by rw[HL.out];omega))) hJ HL.out HJ.out (by omega)).mono ?_;rintro e w2 ⟨rfl,hb2⟩;go_wp2;go_ret;exact⟨rfl,gI hb2⟩
  ·have HT:=QQ (show X8 p s=false by rw[hF];exact BG (by omega))
   clear hF hp0 hp1 hc h1 h2 hl hm hn;go_enter Tryz.func192,Tryz.ntmps192
   go_wp2;go_ret;exact⟨XZ HT.out.symm,Qx _ _⟩
 ·have hF:X8 p s=decide (JF p s (n+1-m)≠[]):=by rw[X8,if_neg hA,hm,hn]
  have HN:=QQ (M9 a1 a2 m c1 n c2 p s 0 w h1 h2 hm hn hm2 hn2);have HF:=QQ hF;by_cases hm0:0<m
  ·obtain⟨b1,o1,rfl,hc⟩:=h1.at (k:=0) (by omega)
   have e0:=hc 0 (by omega);rw[Zp]at e0;have hne:(ix p 0==94)=false:=by
    have:p≠[]:=by rintro rfl;simp at hm;omega
    simpa using fun h=>hA ⟨this,h⟩
   clear hc hm hn hA hF;exact Qul
  ·obtain rfl:m=0:=by omega
   clear hm hn hA hF;exact Qul
def RZ(h:Hi)(q:List Int)(ol:Bool):Hi:=⟨h.ls,h.most,h.QM,h.Qm,q,ol⟩
def zJ(h:Hi)(xs q:List Int)(ol:Bool)(w:World)(e:Ending)(w':World):Prop:=
 (∃k,Found (fun j=>X8 q (rx h.ls j)) ol h.QM h.ls.length k/\YX (fun k=>w.heap.size<=k) (RZ (Vw h xs k) q ol) (Yt h xs k) 0 w e w')\/
 (Vp (fun j=>X8 q (rx h.ls j)) ol h.QM h.ls.length/\YX (fun k=>w.heap.size<=k) hi0 [] 5 w e w')
theorem vK(lv:Value)(most QM:Int)(sv pv:Value)(older:Bool)(ls:List (List Int))(M W:Int)(Qm pat:List Int)(O:Bool)(a:Option Addr)(nn c:Nat)(a2:Option Addr)(np cq:Nat)(ol:Bool)(w:World)(r:Un w lv most QM sv pv older ⟨ls,M,W,Qm,pat,O⟩)(E:Int)(hE:ZC ⟨ls,M,W,Qm,pat,O⟩ nn 0=E)(h0:E≠0)(P:Nat->Prop):
  Calls Tryz.prog 132 #[.agg (Zc lv most QM sv pv older),.slice a nn c,.slice a2 np cq,.bool ol] w (YX P hi0 [] E w):=by
 have HE:=QQ hE;have YD:=QQ r;have h0':(E !=0)=true:=by simpa using h0
 clear hE h0;obtain⟨⟨vs,hvs,hls⟩,h1,h2,ZI,ZL,h3⟩:=r;simp only at hls h1 h2 h3 ZI ZL;obtain rfl:M=most:=h1.symm;obtain rfl:W=QM:=h2.symm;obtain rfl:O=older:=h3.symm;obtain⟨la,ln,lc,rfl,hl1,hl2,hl3,hl4,hl5⟩:=hvs;obtain⟨sa,sn,sc,rfl,hs1,hs2,hs3,hs4,hs5⟩:=ZI;obtain⟨pa,pn,pc,rfl,hp1,hp2,hp3,Wl,Jh⟩:=ZL;have hll:ls.length=ln:=by rw[<-hls.len];exact hl1
 have UL:=QQ (fun W' r=>Z0 (.slice la ln lc) M W (.slice sa sn sc) (.slice pa pn pc) O ⟨ls,M,W,Qm,pat,O⟩ a nn c 0 W' r);unfold Zc at *;have hB:=(QD.new w #[.slice la ln lc,.int .i64 M,.int .i64 W,.slice sa sn sc,.slice pa pn pc,.bool O] 65).alloc (.cells #[.slice none 0 0,.int .i64 0,.int .i64 0,.slice none 0 0,.slice none 0 0,.bool false] 65);have hR:=QD.new (w.alloc (.cells #[.slice la ln lc,.int .i64 M,.int .i64 W,.slice sa sn sc,.slice pa pn pc,.bool O] 65)) #[.slice none 0 0,.int .i64 0,.int .i64 0,.slice none 0 0,.slice none 0 0,.bool false] 65;rw[QJ]at hR;have hacc:=QS w (.cells #[.slice la ln lc,.int .i64 M,.int .i64 W,.slice sa sn sc,.slice pa pn pc,.bool O] 65) (.cells #[.slice none 0 0,.int .i64 0,.int .i64 0,.slice none 0 0,.slice none 0 0,.bool false] 65);have hsz:w.heap.size+2<=((w.alloc (.cells #[.slice la ln lc,.int .i64 M,.int .i64 W,.slice sa sn sc,.slice pa pn pc,.bool O] 65)).alloc (.cells #[.slice none 0 0,.int .i64 0,.int .i64 0,.slice none 0 0,.slice none 0 0,.bool false] 65)).heap.size:=by simp
 have HR1:=QQ (YD.out.below hacc);clear hs1 hp1 hl1 hl5 hs5 Jh hll hls YD;go_enter Tryz.func132,Tryz.ntmps132
 go_upto_region 1 with fail
 change Code.wp _ _ _ _ ((w.alloc (.cells #[.slice la ln lc,.int .i64 M,.int .i64 W,.slice sa sn sc,.slice pa pn pc,.bool O] 65)).alloc (.cells #[.slice none 0 0,.int .i64 0,.int .i64 0,.slice none 0 0,.slice none 0 0,.bool false] 65));generalize((w.alloc (.cells #[.slice la ln lc,.int .i64 M,.int .i64 W,.slice sa sn sc,.slice pa pn pc,.bool O] 65)).alloc (.cells #[.slice none 0 0,.int .i64 0,.int .i64 0,.slice none 0 0,.slice none 0 0,.bool false] 65))=w1 at *;obtain⟨c0,c1,c2,c3,c4,c5⟩:=hB.six;go_wp2_with ((go_at_call 191);refine(UL.out _ HR1.out).mono ?_;rintro e w2 ⟨rfl,hb2⟩;rw[HE.out];have hB2:=hB.below hb2 hB.lt;obtain⟨d0,d1,d2,d3,d4,d5⟩:=hB2.six;have hR2:=hR.below hb2 hR.lt;obtain⟨p0,p1,p2,p3,p4,p5⟩:=hR2.six;obtain⟨t0,t1,t2,t3,t4,t5⟩:=hR2.Z7;have Qc:=QW hacc (by omega) hb2;have hlt2:=hB2.lt;have hz2:=hb2.size)
 have hG:=((((((hR2.set 0 (.slice none 0 0)).set 1 (.int .i64 0)).set 2 (.int .i64 0)).set 3 (.slice none 0 0)).set 4 (.slice none 0 0)).set 5 (.bool false));simp only[QZ,QX,QY]at hG;obtain⟨y0,y1,y2,y3,y4,y5⟩:=hG.six;refine QV (v:=.tuple #[.agg (Zc (.slice none 0 0) 0 0 (.slice none 0 0) (.slice none 0 0) false),.slice none 0 0,.int .i64 (E)]) (by simp[results,Tryz.results132,go_sem,y0,y1,y2,y3,y4,y5,Zc]) rfl ?_;exact Qkw
theorem yZ(lv:Value)(most QM:Int)(sv pv:Value)(older:Bool)(ls:List (List Int))(M W:Int)(Qm pat:List Int)(O:Bool)(a:Option Addr)(nn c:Nat)(a2:Option Addr)(np cq:Nat)(ol:Bool)(w:World)(r:Un w lv most QM sv pv older ⟨ls,M,W,Qm,pat,O⟩)(hE:ZC ⟨ls,M,W,Qm,pat,O⟩ nn 0=0)(h0:200<np)(P:Nat->Prop):
  Calls Tryz.prog 132 #[.agg (Zc lv most QM sv pv older),.slice a nn c,.slice a2 np cq,.bool ol] w (YX P hi0 [] 2 w):=by
 have HE:=QQ hE;have YD:=QQ r;clear hE;obtain⟨⟨vs,hvs,hls⟩,h1,h2,ZI,ZL,h3⟩:=r;simp only at hls h1 h2 h3 ZI ZL;obtain rfl:M=most:=h1.symm;obtain rfl:W=QM:=h2.symm;obtain rfl:O=older:=h3.symm;obtain⟨la,ln,lc,rfl,hl1,hl2,hl3,hl4,hl5⟩:=hvs;obtain⟨sa,sn,sc,rfl,hs1,hs2,hs3,hs4,hs5⟩:=ZI;obtain⟨pa,pn,pc,rfl,hp1,hp2,hp3,Wl,Jh⟩:=ZL;have hll:ls.length=ln:=by rw[<-hls.len];exact hl1
 have UL:=QQ (fun W' r=>Z0 (.slice la ln lc) M W (.slice sa sn sc) (.slice pa pn pc) O ⟨ls,M,W,Qm,pat,O⟩ a nn c 0 W' r);unfold Zc at *;have hB:=(QD.new w #[.slice la ln lc,.int .i64 M,.int .i64 W,.slice sa sn sc,.slice pa pn pc,.bool O] 65).alloc (.cells #[.slice none 0 0,.int .i64 0,.int .i64 0,.slice none 0 0,.slice none 0 0,.bool false] 65);have hR:=QD.new (w.alloc (.cells #[.slice la ln lc,.int .i64 M,.int .i64 W,.slice sa sn sc,.slice pa pn pc,.bool O] 65)) #[.slice none 0 0,.int .i64 0,.int .i64 0,.slice none 0 0,.slice none 0 0,.bool false] 65;rw[QJ]at hR;have hacc:=QS w (.cells #[.slice la ln lc,.int .i64 M,.int .i64 W,.slice sa sn sc,.slice pa pn pc,.bool O] 65) (.cells #[.slice none 0 0,.int .i64 0,.int .i64 0,.slice none 0 0,.slice none 0 0,.bool false] 65);have hsz:w.heap.size+2<=((w.alloc (.cells #[.slice la ln lc,.int .i64 M,.int .i64 W,.slice sa sn sc,.slice pa pn pc,.bool O] 65)).alloc (.cells #[.slice none 0 0,.int .i64 0,.int .i64 0,.slice none 0 0,.slice none 0 0,.bool false] 65)).heap.size:=by simp
 have HR1:=QQ (YD.out.below hacc);clear hs1 hp1 hl1 hl5 hs5 Jh hll hls YD;go_enter Tryz.func132,Tryz.ntmps132
 go_upto_region 1 with fail
 change Code.wp _ _ _ _ ((w.alloc (.cells #[.slice la ln lc,.int .i64 M,.int .i64 W,.slice sa sn sc,.slice pa pn pc,.bool O] 65)).alloc (.cells #[.slice none 0 0,.int .i64 0,.int .i64 0,.slice none 0 0,.slice none 0 0,.bool false] 65));generalize((w.alloc (.cells #[.slice la ln lc,.int .i64 M,.int .i64 W,.slice sa sn sc,.slice pa pn pc,.bool O] 65)).alloc (.cells #[.slice none 0 0,.int .i64 0,.int .i64 0,.slice none 0 0,.slice none 0 0,.bool false] 65))=w1 at *;obtain⟨c0,c1,c2,c3,c4,c5⟩:=hB.six;go_wp2_with ((go_at_call 191);refine(UL.out _ HR1.out).mono ?_;rintro e w2 ⟨rfl,hb2⟩;rw[HE.out];have hB2:=hB.below hb2 hB.lt;obtain⟨d0,d1,d2,d3,d4,d5⟩:=hB2.six;have hR2:=hR.below hb2 hR.lt;obtain⟨p0,p1,p2,p3,p4,p5⟩:=hR2.six;obtain⟨t0,t1,t2,t3,t4,t5⟩:=hR2.Z7;have Qc:=QW hacc (by omega) hb2;have hlt2:=hB2.lt;have hz2:=hb2.size)
 have hG:=((((((hR2.set 0 (.slice none 0 0)).set 1 (.int .i64 0)).set 2 (.int .i64 0)).set 3 (.slice none 0 0)).set 4 (.slice none 0 0)).set 5 (.bool false));simp only[QZ,QX,QY]at hG;obtain⟨y0,y1,y2,y3,y4,y5⟩:=hG.six;refine QV (v:=.tuple #[.agg (Zc (.slice none 0 0) 0 0 (.slice none 0 0) (.slice none 0 0) false),.slice none 0 0,.int .i64 (2)]) (by simp[results,Tryz.results132,go_sem,y0,y1,y2,y3,y4,y5,Zc]) rfl ?_;exact Qkw
theorem kJ(lv:Value)(most QM:Int)(sv pv:Value)(older:Bool)(ls:List (List Int))(M W:Int)(Qm pat:List Int)(O:Bool)(a:Option Addr)(nn c:Nat)(a2:Option Addr)(np cq:Nat)(ol:Bool)(w:World)(r:Un w lv most QM sv pv older ⟨ls,M,W,Qm,pat,O⟩)(hE:ZC ⟨ls,M,W,Qm,pat,O⟩ nn 0=0)(h0:np=0)(hp:pat=[])(P:Nat->Prop):
  Calls Tryz.prog 132 #[.agg (Zc lv most QM sv pv older),.slice a nn c,.slice a2 np cq,.bool ol] w (YX P hi0 [] 6 w):=by
 have HE:=QQ hE;have YD:=QQ r;subst h0;clear hE;obtain⟨⟨vs,hvs,hls⟩,h1,h2,ZI,ZL,h3⟩:=r;simp only at hls h1 h2 h3 ZI ZL;obtain rfl:M=most:=h1.symm;obtain rfl:W=QM:=h2.symm;obtain rfl:O=older:=h3.symm;obtain⟨la,ln,lc,rfl,hl1,hl2,hl3,hl4,hl5⟩:=hvs;obtain⟨sa,sn,sc,rfl,hs1,hs2,hs3,hs4,hs5⟩:=ZI;obtain⟨pa,pn,pc,rfl,hp1,hp2,hp3,Wl,Jh⟩:=ZL;have hll:ls.length=ln:=by rw[<-hls.len];exact hl1
 have UL:=QQ (fun W' r=>Z0 (.slice la ln lc) M W (.slice sa sn sc) (.slice pa pn pc) O ⟨ls,M,W,Qm,pat,O⟩ a nn c 0 W' r);have hp0:((pn:Int)==0)=true:=by rw[<-hp1,hp];rfl
 clear hp;unfold Zc at *;have hB:=(QD.new w #[.slice la ln lc,.int .i64 M,.int .i64 W,.slice sa sn sc,.slice pa pn pc,.bool O] 65).alloc (.cells #[.slice none 0 0,.int .i64 0,.int .i64 0,.slice none 0 0,.slice none 0 0,.bool false] 65);have hR:=QD.new (w.alloc (.cells #[.slice la ln lc,.int .i64 M,.int .i64 W,.slice sa sn sc,.slice pa pn pc,.bool O] 65)) #[.slice none 0 0,.int .i64 0,.int .i64 0,.slice none 0 0,.slice none 0 0,.bool false] 65;rw[QJ]at hR;have hacc:=QS w (.cells #[.slice la ln lc,.int .i64 M,.int .i64 W,.slice sa sn sc,.slice pa pn pc,.bool O] 65) (.cells #[.slice none 0 0,.int .i64 0,.int .i64 0,.slice none 0 0,.slice none 0 0,.bool false] 65);have hsz:w.heap.size+2<=((w.alloc (.cells #[.slice la ln lc,.int .i64 M,.int .i64 W,.slice sa sn sc,.slice pa pn pc,.bool O] 65)).alloc (.cells #[.slice none 0 0,.int .i64 0,.int .i64 0,.slice none 0 0,.slice none 0 0,.bool false] 65)).heap.size:=by simp
 have HR1:=QQ (YD.out.below hacc);clear hs1 hp1 hl1 hl5 hs5 Jh hll hls YD;go_enter Tryz.func132,Tryz.ntmps132
 go_upto_region 1 with fail
 change Code.wp _ _ _ _ ((w.alloc (.cells #[.slice la ln lc,.int .i64 M,.int .i64 W,.slice sa sn sc,.slice pa pn pc,.bool O] 65)).alloc (.cells #[.slice none 0 0,.int .i64 0,.int .i64 0,.slice none 0 0,.slice none 0 0,.bool false] 65));generalize((w.alloc (.cells #[.slice la ln lc,.int .i64 M,.int .i64 W,.slice sa sn sc,.slice pa pn pc,.bool O] 65)).alloc (.cells #[.slice none 0 0,.int .i64 0,.int .i64 0,.slice none 0 0,.slice none 0 0,.bool false] 65))=w1 at *;obtain⟨c0,c1,c2,c3,c4,c5⟩:=hB.six;go_wp2_with ((go_at_call 191);refine(UL.out _ HR1.out).mono ?_;rintro e w2 ⟨rfl,hb2⟩;rw[HE.out];have hB2:=hB.below hb2 hB.lt;obtain⟨d0,d1,d2,d3,d4,d5⟩:=hB2.six;have hR2:=hR.below hb2 hR.lt;obtain⟨p0,p1,p2,p3,p4,p5⟩:=hR2.six;obtain⟨t0,t1,t2,t3,t4,t5⟩:=hR2.Z7;have Qc:=QW hacc (by omega) hb2;have hlt2:=hB2.lt;have hz2:=hb2.size)
 have hG:=((((((hR2.set 0 (.slice none 0 0)).set 1 (.int .i64 0)).set 2 (.int .i64 0)).set 3 (.slice none 0 0)).set 4 (.slice none 0 0)).set 5 (.bool false));simp only[QZ,QX,QY]at hG;obtain⟨y0,y1,y2,y3,y4,y5⟩:=hG.six;refine QV (v:=.tuple #[.agg (Zc (.slice none 0 0) 0 0 (.slice none 0 0) (.slice none 0 0) false),.slice none 0 0,.int .i64 (6)]) (by simp[results,Tryz.results132,go_sem,y0,y1,y2,y3,y4,y5,Zc]) rfl ?_;exact Qkw
end Go.Proofs.YtmdcencmiopmmaaGreat
