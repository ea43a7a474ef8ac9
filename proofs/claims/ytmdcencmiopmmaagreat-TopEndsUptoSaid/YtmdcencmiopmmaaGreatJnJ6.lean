/- joined, no condition of its own. -/
import Derived.Test.YtmdcencmiopmmaaGreatJnT
import Derived.Test.YtmdcencmiopmmaaGreatJnJ1
import Derived.Test.YtmdcencmiopmmaaGreatJnJ5
set_option linter.unusedVariables false
set_option linter.unusedSimpArgs false
set_option maxRecDepth 100000
set_option maxHeartbeats 12000000
namespace Go.Proofs.YtmdcencmiopmmaaGreat
open Go.RowKit Go.Maps
def Sy(l:List Int)(n:Nat)(w:World)(e:Ending)(w':World):Prop:=
 ∃g,e=.returned (.tuple #[.slice (some ⟨g,0,none⟩) n n,.int .i64 0])/\Ints w' (some ⟨g,0,none⟩) (Jr l n n).out/\Below w.heap.size w w'
theorem Af(a:Option Addr)(n c:Nat)(l:List Int)(w:World)(ha:Ints w a l)(hn:l.length=n)(h2:n<=4096):
  Calls Tryz.prog 295 #[.slice a n c] w (Sy l n w):=by
 have HN:=Zy hn;clear hn;have hmk:=yX n n (ZB _) QQ;have hmm:=@run_makeMap Tryz.prog;go_enter Tryz.func295,Tryz.ntmps295
 go_wp2;clear hmk hmm
 go_loopw [20] (fun i wr=>∃(k mm:Nat) (f:Int->Value),i=.int .i64 (k:Int)/\k<=n/\mm<=k/\(∀o,((Jr l n k).Jo o).length<=k)/\PW w wr f (Jr l n k).out (Jr l n k).Jo mm) (fun i _=>n-(intOf i).toNat)
 case atStart=>
  refine⟨0,0,fun _=>bz,rfl,QQ,QQ,fun o=>by simp[Jr],?_,?_,?_,?_,Zn _ _ _⟩
  ·show Za _ _ ((List.replicate n (0:Int)).map (Value.int .i64)).toArray _
   rw[<-uW n];exact(Za.new _ _ _).alloc _
  ·have:=VA.made (w.alloc (.cells (madeCells #[.int .i64 0] n) 3))
   rwa[Zv]at this
  ·exact fun o s h=>Own.nil _ _ _
  ·exact fun _ _ _ _ _ _ _=>.inl rfl
 case round=>
  obtain⟨k,mm,f,rfl,hk,hmm,hlen,tF⟩:=hrel;have hbel:=tF.YX;have hsz:=hbel.size;have hbw:=tF.row.lt;have hml:=tF.map.lt;by_cases hlt:k<n
  ·obtain⟨b1,o1,rfl,hc0⟩:=ha.at (k:=k) Qx
   have ck:wr.cell? ⟨b1,o1+k,none⟩=some (.int .i64 (ix l k)):=by
    have:=hc0 k Qx;exact QF5
   have hol:=qI l n k;have co:=zV tF.row (i:=k) (by rw[hol];exact hlt);have cf:=tF.row.free k;have Nf:=tF.set k (-1);clear hc0;obtain⟨S,hS⟩:∃S,Jr l n k=S:=⟨_,rfl⟩;obtain⟨x,hx⟩:∃x,ix l k=x:=⟨_,rfl⟩;rw[hS]at tF hlen co Nf;rw[hx]at ck;have HST:Hid (Jr l n (k+1)=UT x k S):=Zy (by rw[<-hS,<-hx];rfl);have Ng:Hid (S.out.length=n):=Zy (by rw[<-hS];exact hol);have HS:=Zy hS;have HX:=Zy hx;clear hol hS hx;by_cases ho:Xz x=0
   ·have g0:(Xz x==0)=true:=by simpa using ho
    have HS2:=Zy (show Jr l n (k+1)=⟨S.out.set k (-1),S.Jo⟩ by rw[HST.out];simp[UT,ho]);go_wp2_with fail
    refine(Vk x _).mono ?_;rintro e w' ⟨rfl,rfl⟩;rw[ho];go_wp2;exact QED
   ·have hr:=ED x
    have ho2:(Xz x==0)=false:=QA2;by_cases hs:qQ x=false
    ·have hk0:Xi x (Xz x):=by
      rcases kindOf x with⟨h1,_⟩|⟨h1,_⟩|⟨_,_,h1⟩
      ·exact absurd h1 ho
      ·exact h1
      ·rw[hs]at h1;cases h1
     have HS2:=Zy (show Jr l n (k+1)=⟨S.out.set k (-1),fun y=>if y=x then S.Jo x++[(k:Int)]else S.Jo y⟩ by rw[HST.out];simp[UT,ho,hs]);go_wp2_with fail
     refine(Vk x _).mono ?_;rintro e w' ⟨rfl,rfl⟩;rw[hs];generalize wr.setCell ⟨w.heap.size,k,none⟩ (.int .i64 (-1))=w4 at *;have sN:yM x:=by unfold Xi at hk0;unfold yM;omega
     have hl1:=hlen x;have Ct:=Nf.map.lt;go_wp2_with (first|(at_lookup;refine jq rfl _ _ rfl Nf.map sN rfl rfl rfl ?_)|(at_builtin;refine QXC rfl _ _ rfl (w.heap.size+2) (f x) _ _ _ rfl rfl ((Nf.own _ _ hk0).alloc _) (Y8 _ _ _) QQ QAV ?_;intro v3 w3 hown3 hgrow3 QWL)|(at_mapUpdate;refine Gu rfl _ _ _ rfl ((Nf.alloc _).mapOf hk0 hgrow3) QQ sN (val:=v3) rfl rfl rfl ?_;intro w5 hm5 hg5))
     go_roundw
     case rel=>
      refine⟨k+1,mm+1,fun y=>if y=x then v3 else f y,Qk,QQ,QQ,?_,?_⟩
      ·rw[HS2.out];intro o
       show(if o=x then S.Jo x++[(k:Int)]else S.Jo o).length<=k+1
       split
       ·simpa using hl1
       ·exact Nat.le_succ_of_le (hlen o)
      ·rw[HS2.out];exact(Nf.alloc _).push hk0 hown3 hgrow3 QWL hm5 hg5
     case measure=>simp[intOf];omega
    ·have hs2:qQ x=true:=by simpa using hs
     have hk0:Xi (Xz x) x:=by
      rcases kindOf x with⟨h1,_⟩|⟨_,_,h1⟩|⟨h1,_⟩
      ·exact absurd h1 ho
      ·rw[hs2]at h1;cases h1
      ·exact h1
     have sN:yM (Xz x):=by unfold yM;omega
     by_cases he:S.Jo (Xz x)=[]
     ·have HS2:=Zy (show Jr l n (k+1)=⟨S.out.set k (-1),S.Jo⟩ by rw[HST.out];simp[UT,ho,hs2,he])
      have hown:=Nf.own _ _ hk0;rw[he]at hown;obtain⟨a4,n4,c4,hv⟩:=hown.form;rw[hv]at hown;obtain rfl:n4=0:=by have:=hown.get.1;simpa using this.symm
      have HV:=Zy hv;clear he hv hown;go_wp2_with fail
      refine(Vk x _).mono ?_;rintro e w' ⟨rfl,rfl⟩;rw[hs2];go_wp2_with (at_lookup;refine jq rfl _ _ rfl Nf.map sN HV.out rfl rfl ?_)
      exact QED
     ·have hpos:=X6.2 he
      have hown:=Nf.own _ _ hk0;obtain⟨g,kk,c4,hv,f1,f2,f3,f4,f5,f6,hI⟩:=hown.full hpos;obtain⟨m,rfl⟩:∃m,kk=m+1:=⟨kk-1,QQ⟩;rw[hv]at hown;have hl:(S.Jo (Xz x)).length=m+1:=QQ;have QV9:=hown.pop;have hpl:(S.Jo (Xz x)).dropLast.length=m:=by simp[hl]
      have hl1:(S.Jo (Xz x)).length-1=m:=QQ;obtain⟨b4,o4,hb4,hc4⟩:=hI.at (k:=m) QQ;simp only[ZM,YB]at hb4;obtain⟨rfl,rfl,-⟩:=hb4;have cm:=hc4 m QQ;rw[XN]at cm;obtain⟨-,p,hp,QJ0⟩:=((NT.run l n k hk).D6 (Xz x) x hk0).pop HX.out hk0.ne (by rw[HS.out];exact hpos);have QjF:=QJ0.lt;rw[HS.out,hl1]at hp;rw[hp]at cm;have HS2:=Zy (show Jr l n (k+1)=⟨((S.out.set k (-1)).set k (p:Int)).set p (k:Int),fun y=>if y=Xz x then(S.Jo (Xz x)).dropLast else S.Jo y⟩ by
       rw[HST.out];simp only[UT,ho,hs2,he,Xn,hl1,hp];rfl)
      have i1:((m:Int)+1-1).toNat=m:=QQ;have i2:(m:Int)+1-1=m:=QQ;have i3:¬(m:Int)+1=0:=QQ;have i4:m<=c4:=QQ;have HV:=Zy hv;have HPL:=Zy hpl;clear hv hl hl1 hpl hc4 he hown hI QJ0;go_wp2_with fail
      refine(Vk x _).mono ?_;rintro e w' ⟨rfl,rfl⟩;rw[hs2];generalize wr.setCell ⟨w.heap.size,k,none⟩ (.int .i64 (-1))=w4 at *;go_wp2_with (first|(at_lookup;refine jq rfl _ _ rfl Nf.map sN HV.out rfl rfl ?_)|(at_mapUpdate;refine Gu rfl _ _ _ rfl Nf.map QQ sN (val:=.slice (some ⟨g,0,none⟩) m c4) rfl rfl rfl ?_;intro w5 hm5 hg5;have dG:=Nf.pop hk0 QV9 (by rw[HV.out];rfl) hm5 hg5;have cf1:=dG.row.free k;have cf2:=dG.row.free p;have cc1:=zV dG.row (i:=k) (by simp;rw[Ng.out];omega);have cc2:=zV dG.row (i:=p) (by simp;rw[Ng.out];omega);have cc3:=Nf.YX;clear hm5 hg5))
      refine⟨⟨k+1,mm+1,fun y=>if y=Xz x then .slice (some ⟨g,0,none⟩) m c4 else f y,Qk,QQ,QQ,?_,?_⟩,Qp⟩
      ·rw[HS2.out];intro o
       show(if o=Xz x then(S.Jo (Xz x)).dropLast else S.Jo o).length<=k+1
       split
       ·rw[HPL.out];have:=hlen (Xz x);omega
       ·exact Nat.le_succ_of_le (hlen o)
      ·rw[HS2.out]
       exact(dG.set k p).set p k
  ·have hkn:k=n:=by omega
   subst hkn;go_wp2;go_ret2
   exact⟨_,rfl,AZ tF.row,hbel⟩
end Go.Proofs.YtmdcencmiopmmaaGreat
namespace Go.Proofs.YtmdcencmiopmmaaGreat
open Go.RowKit
def oK(r:Option Int):Int:=match r with|some x=>x|none=>0
def oJ(r:Option Int):Int:=match r with|some x=>0|none=>5
def qo(r:Option Int)(w:World)(e:Ending)(w':World):Prop:=e=.returned (.tuple #[.int .i64 (oK r),.int .i64 (oJ r)])/\Below w.heap.size w w'
theorem qo.of{r:Option Int}{A E:Int}{w w':World}(h:r=if E=0 then some A else none)(hE:E=0\/(E=5/\A=0))(hb:Below w.heap.size w w'):qo r w (.returned (.tuple #[.int .i64 A,.int .i64 E])) w':=by
 subst h;rcases hE with rfl|⟨rfl,rfl⟩
 ·exact⟨rfl,hb⟩
 ·exact⟨rfl,hb⟩
theorem U6(a:Option Addr)(n c:Nat)(l:List Int)(k m:Nat)(op:Bool)(ch:Int)(w:World)(hl:Ints w a l)(hn:l.length=n)(hn2:n<=4096)(hk:k<=n)(hm0:1<=m)(hm:m<=1000):
  Calls Tryz.prog 297 #[KX a n c k (m:Int) op,.int .i64 ch,.int .i64 1] w (qo ((JX l k ch)[m-1]?) w):=by
 unfold KX;have HR:=Zy (show(Oy l ch (k+1) (n-(k+1)))[m-1]? =(JX l k ch)[m-1]? by rw[JX,hn]);have HN:=Zy hn;clear hn;have hB:=Za.new w #[.slice a n c,.int .i64 (k:Int),.int .i64 (m:Int),.bool op] 359;obtain⟨c0,c1,c2,c3⟩:=hB.four;have hacc:=ZT w (.cells #[.slice a n c,.int .i64 (k:Int),.int .i64 (m:Int),.bool op] 359);have hI:=hl.below hacc;go_enter Tryz.func297,Tryz.ntmps297
 go_wp2
 go_loop [8,9] (fun mv iv=>∃i m':Nat,mv=.int .i64 (m':Int)/\iv=.int .i64 (i:Int)/\i<=n+1/\1<=m'/\m'<=m/\(Oy l ch i (n-i))[m'-1]? =(JX l k ch)[m-1]?) (fun _ iv=>n+1-(intOf iv).toNat)
 case atStart=>exact⟨k+1,m,rfl,Qk,QQ,QQ,QQ,HR.out⟩
 case round=>
  obtain⟨i,m',rfl,rfl,hi,hm1,hm2,hp⟩:=hrel;by_cases hlt:i<n
  ·obtain⟨b1,o1,rfl,hc⟩:=hI.at (k:=i) Qx
   have e1:=hc i Qx;rw[show n-i=(n-(i+1))+1 from QQ]at hp;clear hc hl hI;by_cases hh:ix l i=ch
   ·rw[mZ hh]at hp
    have hb:(ix l i==ch)=true:=QBj;clear hh;by_cases h1:m'=1
    ·subst h1
     exact QFj
    ·have HP:=Zy (show(Oy l ch (i+1) (n-(i+1)))[m'-1-1]? =(JX l k ch)[m-1]? by
      rw[<-hp,show m'-1=(m'-1-1)+1 from QQ];simp)
     have hz:((m':Int)-1==0)=false:=QY;clear hp;go_wp2
     go_round
     case rel=>exact⟨i+1,m'-1,by congr 1;omega,Qk,QQ,QQ,QQ,HP.out⟩
     case measure=>simp[intOf];omega
   ·rw[aT hh]at hp
    have hb:(ix l i==ch)=false:=QBj;have HP:=Zy hp;clear hh hp;go_wp2
    go_round
    case rel=>exact⟨i+1,m',rfl,Qk,QQ,QQ,QQ,HP.out⟩
    case measure=>simp[intOf];omega
  ·rw[show n-i=0 from QQ]at hp
   have HP:=Zy (show(JX l k ch)[m-1]? =none by rw[<-hp];simp[Oy]);exact QFl
theorem UJ(a:Option Addr)(n c:Nat)(l:List Int)(k m:Nat)(op:Bool)(ch:Int)(w:World)(hl:Ints w a l)(hn:l.length=n)(hn2:n<=4096)(hk:k<=n)(hm0:1<=m)(hm:m<=1000):
  Calls Tryz.prog 297 #[KX a n c k (m:Int) op,.int .i64 ch,.int .i64 (-1)] w (qo ((Jz l k ch)[m-1]?) w):=by
 unfold KX;have HR:=Zy (show(Oj l ch k)[m-1]? =(Jz l k ch)[m-1]? from rfl);have HN:=Zy hn;clear hn;have hB:=Za.new w #[.slice a n c,.int .i64 (k:Int),.int .i64 (m:Int),.bool op] 359;obtain⟨c0,c1,c2,c3⟩:=hB.four;have hacc:=ZT w (.cells #[.slice a n c,.int .i64 (k:Int),.int .i64 (m:Int),.bool op] 359);have hI:=hl.below hacc;go_enter Tryz.func297,Tryz.ntmps297
 go_wp2
 go_loop [8,9] (fun mv iv=>∃i m':Nat,mv=.int .i64 (m':Int)/\iv=.int .i64 ((i:Int)-1)/\i<=n/\1<=m'/\m'<=m/\(Oj l ch i)[m'-1]? =(Jz l k ch)[m-1]?) (fun _ iv=>(intOf iv+1).toNat)
 case atStart=>exact⟨k,m,rfl,by first|rfl|(congr 1),QQ,QQ,QQ,HR.out⟩
 case round=>
  obtain⟨i,m',rfl,rfl,hi,hm1,hm2,hp⟩:=hrel;rcases i with _|i
  ·have HP:=Zy (show(Jz l k ch)[m-1]? =none by rw[<-hp];simp[Oj])
   exact QFl
  ·have hlt:i<n:=by omega
   rw[show(((i+1:Nat):Int)-1)=(i:Int)from QQ];obtain⟨b1,o1,rfl,hc⟩:=hI.at (k:=i) Qx;have e1:=hc i Qx;clear hc hl hI;by_cases hh:ix l i=ch
   ·rw[mX hh]at hp
    have hb:(ix l i==ch)=true:=QBj;clear hh;by_cases h1:m'=1
    ·subst h1
     exact QFj
    ·have HP:=Zy (show(Oj l ch i)[m'-1-1]? =(Jz l k ch)[m-1]? by
      rw[<-hp,show m'-1=(m'-1-1)+1 from QQ];simp)
     have hz:((m':Int)-1==0)=false:=QY;clear hp;go_wp2
     go_round
     case rel=>exact⟨i,m'-1,by congr 1;omega,by first|rfl|(congr 1),QQ,QQ,QQ,HP.out⟩
     case measure=>simp[intOf];omega
   ·rw[ae hh]at hp
    have hb:(ix l i==ch)=false:=QBj;have HP:=Zy hp;clear hh hp;go_wp2
    go_round
    case rel=>exact⟨i,m',rfl,by first|rfl|(congr 1),QQ,QQ,QQ,HP.out⟩
    case measure=>simp[intOf];omega
theorem vO(c:Int):Xz c≠0↔Y9 c≠0:=by
 unfold Xz Y9
 (repeat' split)<;>simp_all<;>omega
def zL(l:List Int)(k:Nat):Option (Int×Bool):=if Ke l k<0 then none else some (Ke l k,true)
theorem Pm{l:List Int}{k i:Nat}(hk:k<=i)(hi:i<l.length)(h:Y9 (ix l i)≠0)(hno:∀t,k<=t->t<i->Y9 (ix l t)=0):Ke l k=ix (Jr l l.length l.length).out i:=by
 unfold Ke;split
 ·rename_i r hr
  obtain⟨h1,h2,h3,h4⟩:=Yh hr;simp at h3;rcases XC r i with h'|h'|h'
  ·exact absurd (hno r h1 h') h3
  ·rw[h']
  ·have:=h4 i hk h';simp at this;exact absurd this h
 ·rename_i hr
  have:=VI hr i hk QQ;simp at this;exact absurd this h
theorem MG{l:List Int}{k:Nat}(hno:∀t,k<=t->t<l.length->Y9 (ix l t)=0):Ke l k= -1:=by
 unfold Ke;split
 ·rename_i r hr
  obtain⟨h1,h2,h3,h4⟩:=Yh hr;simp at h3;exact absurd (hno r h1 QQ) h3
 ·rfl
theorem FV(a:Option Addr)(n c:Nat)(l:List Int)(k:Nat)(m:Int)(op:Bool)(w:World)(hl:Ints w a l)(hn:l.length=n)(hn2:n<=4096)(hk:k<=n):
  Calls Tryz.prog 303 #[KX a n c k m op] w (YF (zL l k) w):=by
 unfold KX;have HN:=Zy hn;clear hn;have hB:=(Za.new w #[.slice a n c,.int .i64 (k:Int),.int .i64 m,.bool op] 359).alloc (.cells #[.int .i64 0,.bool false] 361);obtain⟨c0,c1,c2,c3⟩:=hB.four;have hP:=Za.new (w.alloc (.cells #[.slice a n c,.int .i64 (k:Int),.int .i64 m,.bool op] 359)) #[.int .i64 0,.bool false] 361;rw[Zv]at hP;have hacc:=Zn w (.cells #[.slice a n c,.int .i64 (k:Int),.int .i64 m,.bool op] 359) (.cells #[.int .i64 0,.bool false] 361);have hI:=hl.below hacc;go_enter Tryz.func303,Tryz.ntmps303
 go_wp2_with fail
 refine(Af a n c l _ hI HN.out hn2).mono ?_;rintro e w2 ⟨g,rfl,hI2,hb2⟩;have hB2:=hB.below hb2 hB.lt;obtain⟨d0,d1,d2,d3⟩:=hB2.four;have hP2:=hP.below hb2 hP.lt;obtain⟨s0,s1,s2,s3⟩:=hP2.two;have Z4:=ZE hacc QY hb2;have DZ:=hl.below Z4;have hi0:(0:Int)<=(k:Int):=QQ;clear c0 c1 c2 c3 hI;go_wp2
 go_loop [6] (fun iv=>∃i:Nat,iv=.int .i64 (i:Int)/\k<=i/\i<=n/\∀t,k<=t->t<i->Y9 (ix l t)=0) (fun iv=>n-(intOf iv).toNat)
 case atStart=>exact⟨k,rfl,QQ,QQ,fun t h1 h2=>QQ⟩
 case round=>
  obtain⟨i,rfl,hi1,hi2,hno⟩:=hrel;have HO:=Zy hno;clear hno;by_cases hlt:i<n
  ·obtain⟨b1,o1,rfl,hc⟩:=DZ.at (k:=i) Qx
   have e1:=hc i Qx;clear hc hl DZ;by_cases hz:Y9 (ix l i)=0
   ·have hz':(Xz (ix l i) !=0)=false:=by
     have:=vO (ix l i);rw[bne_eq_false_iff_eq];exact Decidable.byContradiction fun h=>(this.1 h) hz
    have HZ:=Zy hz;clear hz;go_wp2_with ((go_at_call 309);refine(ja _ _).mono ?_;rintro e w' ⟨rfl,rfl⟩)
    go_round
    case rel=>exact⟨i+1,Qk,QQ,QQ,fun t h1 h2=>by
     rcases XK.1 h2 with h|rfl
     ·exact HO.out t h1 h
     ·exact HZ.out⟩
    case measure=>simp[intOf];omega
   ·have hz':(Xz (ix l i) !=0)=true:=by simpa using(vO (ix l i)).2 hz
    have HF:=Zy (show Ke l k=ix (Jr l n n).out i by
     have:=Pm hi1 Qx hz HO.out
     rwa[HN.out]at this)
    obtain⟨g1,o2,hg,hc2⟩:=hI2.at (k:=i) (by rw[qI];exact hlt);simp only[ZM,YB]at hg;obtain⟨rfl,rfl,-⟩:=hg;have e2:=hc2 i (by rw[qI];exact hlt);rw[XN]at e2;obtain⟨y,hy⟩:∃y,ix (Jr l n n).out i=y:=⟨_,rfl⟩;rw[hy]at e2;have I9:=Zy (show Ke l k=y by rw[HF.out,hy]);clear hz hy hc2 HF;by_cases hneg:y<0
    ·have HR:=Zy (show zL l k=none by rw[zL,I9.out,if_pos hneg])
     go_wp2_with ((go_at_call 309);refine(ja _ _).mono ?_;rintro e w' ⟨rfl,rfl⟩)
     exact QGE
    ·have HR:=Zy (show zL l k=some (y,true) by rw[zL,I9.out,if_neg hneg])
     go_wp2_with ((go_at_call 309);refine(ja _ _).mono ?_;rintro e w' ⟨rfl,rfl⟩)
     rw[HR.out];have hG:=(hP2.set 0 (.int .i64 (y))).set 1 (.bool true);obtain⟨q0,q1,-,-⟩:=Za.two hG;refine ZC (v:=.tuple #[.agg #[.int .i64 (y),.bool true],.int .i64 0]) QAL rfl ⟨rfl,?_⟩;exact QCe
  ·obtain rfl:i=n:=by omega
   have HR:=Zy (show zL l k=none by rw[zL,MG (by rw[HN.out];exact HO.out),if_pos QQ]);go_wp2;exact QGE
end Go.Proofs.YtmdcencmiopmmaaGreat
