/- joined, no condition of its own. -/
import Derived.Test.YtmdnepkekekncaaGreatJfJ47
set_option linter.unusedVariables false
set_option linter.unusedSimpArgs false
set_option maxRecDepth 100000
set_option maxHeartbeats 12000000
namespace Go.Proofs.YtmdnepkekekncaaGreat
open Go.RowKit
theorem NR{l:List Int}(h:qF l=true):(JU (⟨#[]⟩++(runesBytes l++⟨#[13]⟩))).out=l++[13]/\(JU (⟨#[]⟩++(runesBytes l++⟨#[13]⟩))).ah=[]:=by
 have e13:Utf8.encode 13=⟨#[13]⟩:=enc1 (c:=13) QZ QZ;have e0:(⟨#[]⟩:ByteArray)++(runesBytes l++⟨#[13]⟩)=runesBytes (l++[13]):=by
  rw[Uv,e13];exact ByteArray.empty_append
 have h2:qF (l++[13])=true:=by rw[vU,h];rfl
 rw[e0];have:=run_text _ (l++[13]) [] rfl h2;unfold JU VE;rw[this];exact⟨rfl,rfl⟩
structure nY (S:SS) (A:List Int):Prop where
 md:S.mode=1
 ov:S.over=false
 text:S.text=A.take 200
 pos:S.pos=((A.take 200).length:Int)
 now:S.now=none
 told:S.told=List.replicate (A.length-200) (1,[])
theorem nY.step{W:World}{S:SS}{A:List Int}{c:Int}(h:nY S A)(h1:32<=c)(h2:c≠127):nY (S.step W c) (A++[c]):=by
 have e1:S.step W c=(S.key W c).show:=by unfold SS.step;rw[if_neg (by rw[h.ov];decide)]
 have e2:S.key W c=S.typed c:=by
  unfold SS.key;rw[if_neg QQ,if_neg (by rw[h.md];decide),if_neg QQ,if_neg QQ,if_pos (by rw[h.md];decide)]
 have hlen:S.text.length=min A.length 200:=by rw[h.text,Zi];omega
 have hpos:S.pos=(S.text.length:Int):=by rw[h.pos,h.text]
 by_cases hA:A.length<200
 ·have hk:S.J5 c=(S.text++[c],S.pos+1,0):=by
   unfold SS.J5 JV;rw[if_neg QQ,if_neg QEr,if_pos ⟨h1,h2⟩,if_neg QEr,if_neg QQ,hpos,XK,List.take_length,List.drop_length,List.append_nil]
  have e3:S.typed c={S.set (S.text++[c]) (S.pos+1)with now:=S.now.map fun p=>(p.1,p.2++[c])}:=by
   unfold SS.typed;rw[if_neg QQ,hk,if_neg (fun e=>e rfl)]
  rw[e1,e2,e3];have ht:S.text=A:=by rw[h.text,Z6 QQ]
  refine {md:=h.md,ov:=h.ov,text:=?_,pos:=?_,now:=?_,told:=?_}
  ·show S.text++[c]=_
   rw[ht,Z6 QY]
  ·show S.pos+1=_
   rw[hpos,ht,Z6 QY];simp
  ·show S.now.map _=none
   rw[h.now];rfl
  ·show S.told=_
   rw[h.told,show A.length-200=0 from QQ,show(A++[c]).length-200=0 from QY]
 ·have hk:(S.J5 c).2.2=8:=by
   unfold SS.J5 JV;rw[if_neg QQ,if_neg QEr,if_pos ⟨h1,h2⟩,if_neg QEr,if_pos QQ]
  have e3:S.typed c=S.Y2:=by
   unfold SS.typed;rw[if_neg QQ,if_pos (by rw[hk];decide)]
  rw[e1,e2,e3];have ht:(A++[c]).take 200=A.take 200:=List.take_append_of_le_length QQ;refine {md:=h.md,ov:=h.ov,text:=?_,pos:=?_,now:=h.now,told:=?_}
  ·show S.text=_
   rw[ht];exact h.text
  ·show S.pos=_
   rw[ht];exact h.pos
  ·show S.told++[(1,[])]=_
   rw[h.told,show(A++[c]).length-200=(A.length-200)+1 from QY,List.replicate_succ']
theorem nY.keys{W:World}:∀(l:List Int) {S:SS} {A:List Int},nY S A->(∀c∈l,32<=c/\c≠127)->nY (S.keys W l) (A++l)
 | [],S,A,h,hc=>by rw[List.append_nil];exact h
 | c::l,S,A,h,hc=>by
  have:=nY.keys (W:=W) l (h.step (W:=W) (hc c QJ).1 (hc c QJ).2) (fun x hx=>hc x (by simp[hx]));rw[List.append_assoc]at this;exact this
theorem nY.accept{W:World}{S:SS}{A:List Int}(h:nY S A):(S.step W 13).told=S.told++[(2,S.text)]:=by
 unfold SS.step;rw[if_neg (by rw[h.ov];decide)];have e:S.key W 13=S.accept:=by
  unfold SS.key;rw[if_neg QZ,if_neg (by rw[h.md];decide),if_pos QZ]
 rw[e];rfl
theorem Ny(W:World)(most width:Int){l:List Int}(h:qF l=true)(hc:∀c∈l,32<=c/\c≠127)(hs:(runesBytes l).size<=4000):
  ((SS.new most width).feed W (runesBytes l++⟨#[13]⟩)).2=0/\((SS.new most width).feed W (runesBytes l++⟨#[13]⟩)).1.told=List.replicate (l.length-200) (1,[])++[(2,l.take 200)]:=by
 obtain⟨r1,r2⟩:=NR h;have hp:(SS.new most width).pend=⟨#[]⟩:=rfl;have h0:nY ({SS.new most width with pend:=zJ [],told:=[],Yv:=[]}:SS) []:=⟨rfl,rfl,rfl,rfl,rfl,rfl⟩;have ho:(SS.new most width).over=false:=rfl;have hsz:(runesBytes l++(⟨#[13]⟩:ByteArray)).size<=4096:=by
  rw[ByteArray.size_append];have:(⟨#[13]⟩:ByteArray).size=1:=rfl;omega
 unfold SS.feed;rw[if_neg QE4,if_neg QQ,hp,r1,r2];refine⟨rfl,?_⟩
 show(SS.keys W _ (l++[13])).told=_
 rw[zg];have hk:=nY.keys (W:=W) l h0 hc;rw[List.nil_append]at hk;rw[hk.accept,hk.told,hk.text]
def DF(c:Int):Bool:=decide (c<32) || c==127
theorem QX0(c:Int)(w:World):Calls Tryz.prog 10 #[.int .i64 c] w fun e w'=>e=.returned (.bool (DF c))/\w=w':=by
 go_enter Tryz.func10,Tryz.ntmps10
 go_wp2
 all_goals
  go_ret;exact⟨Xg (by rw[Bool.eq_iff_iff];simp[DF, *]),rfl⟩
theorem dF(a:Option Addr)(n c:Nat)(l:List Int)(w:World)(hx:Ints w a l)(hn:l.length=n)(hl:n<=1048576):
  Calls Tryz.prog 27 #[.slice a n c,.func (.func 10) #[] #[]] w fun e w'=>∃r:Int,e=.returned (.int .i64 r)/\decide (0<=r)=l.any DF/\w=w':=by
 have HX:=Zy hx;have HN:=Zy hn;clear hx hn;go_enter Tryz.func27,Tryz.ntmps27
 go_wp2
 go_loopw [8] (fun i wr=>∃k:Nat,i=.int .i64 (k:Int)/\k<=n/\(∀j,j<k->DF (ix l j)=false)/\w=wr) (fun i _=>n-(intOf i).toNat)
 case atStart=>exact⟨0,rfl,QQ,fun j hj=>QQ,rfl⟩
 case round=>
  obtain⟨k,rfl,hk,hno,rfl⟩:=hrel;have JM:=Zy hno;clear hno;by_cases hlt:k<n
  ·have hkl:k<l.length:=by rw[HN.out];exact hlt
   obtain⟨b1,o1,rfl,hc⟩:=HX.out.at hkl;have c0:=hc k hkl;have i0:(0:Int)<=(k:Int):=QQ;have i1:(k:Int)<(n:Int):=QQ;obtain⟨t,ht⟩:∃t,t=DF (ix l k):=⟨_,rfl⟩;have HC:=Zy (QX0 (ix l k) w);rw[<-ht]at HC;have HT:=Zy ht;clear hc ht;cases t with
   | false=>
    go_wp2_with (go_at_call 10;go_loud (refine(HC.out).mono ?_;rintro e w3 ⟨rfl,rfl⟩))
    exact QIL
   | true=>
    go_wp2_with (go_at_call 10;go_loud (refine(HC.out).mono ?_;rintro e w3 ⟨rfl,rfl⟩))
    go_ret;refine⟨_,rfl,?_,rfl⟩;have h1:l.any DF=true:=List.any_eq_true.2 ⟨l[k],YQ hkl,by rw[<-Ya hkl];exact HT.out.symm⟩;rw[h1];simp
  ·have hno:¬(k:Int)<(n:Int):=by omega
   go_wp2;go_ret;refine⟨_,rfl,?_,rfl⟩;have h1:l.any DF=false:=List.any_eq_false.2 fun x hx=>by
    obtain⟨j,hj,rfl⟩:=XN.1 hx;have:=JM.out j QEV;rw[Ya hj]at this;rw[this];decide
   rw[h1];rfl
theorem IP(a:Option Addr)(n c:Nat)(l:List Int)(w:World)(hx:Ints w a l)(hn:l.length=n)(hl:n<=1048576)(b:Bool)(hb:b=l.any DF):
  Calls Tryz.prog 9 #[.slice a n c,.func (.func 10) #[] #[]] w fun e w'=>e=.returned (.bool b)/\w=w':=by
 have HI:=Zy (dF a n c l w hx hn hl);have HB:=Zy hb;clear hx hn hb;go_enter Tryz.func9,Tryz.ntmps9
 go_wp2_with (go_at_call 27;go_loud (refine(HI.out).mono ?_;rintro e w3 ⟨r,rfl,hr,rfl⟩))
 go_ret;exact⟨Xg HB.out.symm,rfl⟩
theorem rY(a:Option Addr)(n c:Nat)(w:World):
  Calls Tryz.prog 14 #[.agg #[.int .i64 1,.slice a n c]] w (fun e w'=>e=.returned (.bool false)/\Below w.heap.size w w'):=by
 have hb:=ZR w (.cells #[.int .i64 1,.slice a n c] 33);have hb0:=ZH w.heap.size w;obtain⟨l0,l1,-,-⟩:=(Za.new w #[.int .i64 1,.slice a n c] 33).two;go_enter Tryz.func14,Tryz.ntmps14
 go_wp2;go_ret;first|exact⟨rfl,hb⟩|exact⟨rfl,hb0⟩
theorem dL(la:Option Addr)(ln lc:Nat)(us:List V2)(l:List (Int×List Int))(F:Nat->Prop)(w:World)(hP:X0 w la us)(hE:xC F w us l)(hn:us.length=ln)(hx:ln<=4398046511104)(hl:∀e∈l,e.1=1):
  Calls Tryz.prog 29 #[.slice la ln lc,.func (.func 14) #[] #[]] w fun e w'=>e=.returned (.int .i64 (-1))/\Below w.heap.size w w':=by
 have HP:=Zy hP;have HE:=Zy hE;have HN:=Zy hn;have HL:=Zy hl;clear hP hE hn hl;go_enter Tryz.func29,Tryz.ntmps29
 go_wp2
 go_loopw [8] (fun i wr=>∃k:Nat,i=.int .i64 (k:Int)/\k<=ln/\Below w.heap.size w wr) (fun i _=>ln-(intOf i).toNat)
 case atStart=>exact⟨0,rfl,QQ,ZH _ _⟩
 case round=>
  obtain⟨k,rfl,hk,hbel⟩:=hrel;by_cases hlt:k<ln
  ·have hjv:k<us.length:=by rw[HN.out];exact hlt
   have hjl:k<l.length:=by rw[<-HE.out.1];exact hjv
   obtain⟨b1,o1,rfl,hc⟩:=HP.out.at hjv;obtain⟨c0,c1⟩:=hc k hjv;obtain⟨e0,e1⟩:=HE.out.2 k hjl;obtain⟨a1,n1,k1,e2⟩:=e1.form;rw[e2]at e1 c1;rw[e0]at c0;rw[HL.out _ (YQ hjl)]at c0;have d0:=(hbel.cell (Xb c0)).trans c0;have d1:=(hbel.cell (Xb c1)).trans c1;have d2:wr.cell? ⟨b1,o1+k*2+1,none⟩=some (.slice a1 n1 k1):=d1;have i0:(0:Int)<=(k:Int):=QQ;have i1:(k:Int)<(ln:Int):=QQ;have HC:=Zy (rY a1 n1 k1 wr);have HBE:=Zy hbel;have hbs:=hbel.size;clear hc c0 c1 e0 e1 e2 hbel;go_wp2_with (go_at_call 14;go_loud (refine(HC.out).mono ?_;rintro e w3 ⟨rfl,hb3⟩))
   exact⟨⟨k+1,Qy,QQ,HBE.out.trans (hb3.mono hbs)⟩,Qp⟩
  ·have hno:¬(k:Int)<(ln:Int):=by omega
   exact QIr
theorem Ic(la:Option Addr)(ln lc:Nat)(us:List V2)(l:List (Int×List Int))(F:Nat->Prop)(w:World)(hP:X0 w la us)(hE:xC F w us l)(hn:us.length=ln)(hx:ln<=4398046511104)(hl:∀e∈l,e.1=1):
  Calls Tryz.prog 13 #[.slice la ln lc,.func (.func 14) #[] #[]] w fun e w'=>e=.returned (.bool false)/\Below w.heap.size w w':=by
 have HI:=Zy (dL la ln lc us l F w hP hE hn hx hl);clear hP hE hn hl;go_enter Tryz.func13,Tryz.ntmps13
 go_wp2_with (go_at_call 29;go_loud (refine(HI.out).mono ?_;rintro e w3 ⟨rfl,hb3⟩))
 go_ret;exact⟨rfl,hb3⟩
theorem Ints.dO{w:World}{a:Option Addr}{xs:List Int}(h:Ints w a xs)(k:Nat):Ints w a (xs.take k):=by
 rcases h with h|⟨b,o,h1,h2⟩
 ·subst h;exact .inl QJ
 ·refine .inr ⟨b,o,h1,fun i hi=>?_⟩
  have hl:i<k/\i<xs.length:=by rw[Zi]at hi;omega
  rw[h2 i hl.2,Ya hl.2,Ya hi];simp
theorem SB{l2:List (Int×List Int)}{q:Nat}{xs:List Int}(h:l2=List.replicate q (1,[])++[(2,xs)]):l2.length=q+1/\(∀e∈l2.take q,e.1=1)/\∀h:q<l2.length,l2[q]=(2,xs):=by
 subst h;refine⟨QJ,fun e he=>?_,fun h=>?_⟩
 ·rw[List.take_append_of_le_length QJ,Z6 QJ]at he
  rw[(List.mem_replicate.1 he).2]
 ·rw[List.getElem_append_right QJ]
  simp
theorem xC.dO{F:Nat->Prop}{w:World}{us:List V2}{l:List (Int×List Int)}(h:xC F w us l)(k:Nat):xC F w (us.take k) (l.take k):=by
 refine⟨by rw[Zi,Zi,h.1],fun i hi=>?_⟩;have hl:i<k/\i<l.length:=by rw[Zi]at hi;omega
 rw[AX hl.1,List.getElem_take];exact h.2 i hl.2
def QyJ(W:World)(N:Nat)(most width:Int)(T:List ByteArray)(w:World)(e:Ending)(w':World):Prop:=
 (Below w.heap.size w w'/\e=.returned (.tuple #[.pointer none,.slice none 0 0,.slice none 0 0,.bool false])/\((1<=most/\most<=50/\2<=width/\width<=120)->Ur W T (SS.new most width) [] []=none))\/
  ((
   1<=most/\most<=50/\2<=width/\width<=120)/\∃B G S l m a n c us a2 n2 c2,Ur W T (SS.new most width) [] []=some (S,l,m)/\e=.returned (.tuple #[.pointer (some ⟨B,0,none⟩),.slice a n c,.slice a2 n2 c2,.bool true])/\UU w w' B S G/\UI N (Uu T) most S l m/\
   us.length=n/\X0 w' a us/\xC G w' us l/\m.length=n2/\Ints w' a2 m/\n<=4398046511104/\n<=c)
theorem tZ(W:World)(most width:Int)(ta:Option Addr)(tn tc N:Nat)(T:List ByteArray)(w:World)(hT:Strs w ta T)(hn:T.length=tn)(hN:Uu T<=N)(hNb:N<=1048576)(htn:tn<=1048576):
  Calls Tryz.prog 11 #[.int .i64 most,.int .i64 width,.slice ta tn tc] w (QyJ W N most width T w):=by
 refine(PS W most width ta tn tc N T w hT hn hN hNb htn).mono ?_;rintro e w' ⟨hb,⟨h1,h2⟩|⟨hg,B,G,F,f,S,v1,v2,l,m,hf,he,hR⟩⟩
 ·exact .inl ⟨hb,h1,h2⟩
 ·have hI:=Bi T (UI.new (N:=N) hg) QQ hf
  rw[XI]at hI;obtain⟨us,ho,hev⟩:=hR.ev;have hsg:=hR.sg;obtain⟨a,n,c,rfl⟩:=ho.form;obtain⟨a2,n2,c2,rfl⟩:=hsg.form;obtain⟨p1,p2,-,p4,-⟩:=ho.bM.get;obtain⟨s1,-,-,s4,-⟩:=hsg.sl.get;obtain⟨K,-,hK,hl,-⟩:=hI.inv;have hmul:K*(N+2)<=1048576*1048578:=Nat.mul_le_mul QQ QQ;refine .inr ⟨hg,B,G,S,l,m,a,n,c,us,a2,n2,c2,hf,he,⟨F,f,hR.hf,hR.gl,hR.Xw⟩,hI,p1,p4,hev.keep (Xv.refl _ _) hR.hf.fg,s1,s4,?_,p2⟩;rw[<-p1,hev.1];omega
theorem Ca(a:Option Addr)(n c:Nat)(l:List Int)(most width:Int)(w:World)(hx:Ints w a l)(hn:l.length=n)(hl:n<=1048576)(hc:n<=c)(hc2:c<=9223372036854775807)(h0:a=none->n=0):
  Calls Tryz.prog 3 #[.int .i64 most,.int .i64 width,.slice a n c] w fun e w'=>e=.returned (.bool true)/\Below w.heap.size w w':=by
 have HW:=Zy (jR w);obtain⟨tb,htb⟩:∃tb,tb=yC l:=⟨_,rfl⟩;obtain⟨b1,hb1⟩:∃b,b=qF l:=⟨_,rfl⟩;obtain⟨b2,hb2⟩:∃b,b=l.any DF:=⟨_,rfl⟩;have HX:=Zy hx;have HN:=Zy hn;have HTB:=Zy htb;have HB1:=Zy hb1;have HB2:=Zy hb2;have HH0:=Zy h0;have HT:=Zy (fun(w':World) (hb:Below w.heap.size w w')=>Ay a n c l w' (hx.below hb) hn hl b1 hb1 tb htb);have HC:=Zy (fun(w':World) (hb:Below w.heap.size w w')=>IP a n c l w' (hx.below hb) hn hl b2 hb2);clear hx hn htb hb1 hb2 h0;go_enter Tryz.func3,Tryz.ntmps3
 go_wp2_with fail
 refine HW.out.mono ?_;rintro e w1 ⟨rfl,hw1⟩;have HCW:=Zy (fun(w':World) (hb:Below w1.heap.size w1 w')=>HC.out w' (hw1.trans (hb.mono hw1.size)));go_wp2_with fail
 refine(HT.out _ hw1).mono ?_;rintro e w2 ⟨rfl,hw2⟩;have HW2:=Zy (hw1.trans (hw2.mono hw1.size));have cZ:=Zy (HCW.out w2 hw2);clear hw1 hw2 HC HCW HT HW;cases b1 with
 | false=>
  go_wp2;go_ret;exact⟨rfl,HW2.out⟩
 | true=>
 cases b2 with
 | true=>
  go_wp2_with fail
  refine cZ.out.mono ?_;rintro e w3 ⟨rfl,rfl⟩;go_wp2;go_ret;exact⟨rfl,HW2.out⟩
 | false=>
 go_wp2_with fail
 refine cZ.out.mono ?_;rintro e w3 ⟨rfl,rfl⟩;clear cZ;by_cases hsz:4000<tb.size
 ·have hs:(4000:Int)<(tb.size:Int):=by omega
  go_wp2;go_ret;exact⟨rfl,HW2.out⟩
 have hs:¬(4000:Int)<(tb.size:Int):=QQ;have hok:qF l=true:=HB1.out.symm;have htx:tb=runesBytes l:=by rw[HTB.out];unfold yC;rw[if_pos hok]
 have hcs:∀x∈l,32<=x/\x≠127:=fun x hx=>by
  have h1:=List.any_eq_false.1 HB2.out.symm x hx;simp[DF]at h1;exact h1
 obtain⟨f1,f2⟩:=Ny w most width hok hcs (by rw[<-htx];omega);rw[<-htx]at f1 f2;have Li:=MU w (tb++⟨#[13]⟩) (SS.new most width) [] [] f1;rw[f2,List.nil_append]at Li;have hsum:Uu [tb++⟨#[13]⟩]<=4096:=by
  show(tb++(⟨#[13]⟩:ByteArray)).size+0<=4096
  rw[ByteArray.size_append];have:(⟨#[13]⟩:ByteArray).size=1:=rfl;omega
 have HFD:=Zy (tZ w most width (some ⟨w2.heap.size,0,none⟩) 1 1 4096 [tb++⟨#[13]⟩] _ (yE w2 (tb++⟨#[13]⟩)) rfl hsum QQ QQ);have PD:=Zy Li;have HWA:=Zy (HW2.out.trans ((ZR w2 (.cells #[.string (tb++⟨#[13]⟩)] 9)).mono HW2.out.size));clear hsz hok htx hcs f1 f2 Li hsum;go_wp2_with fail
 refine HFD.out.mono ?_;rintro e w4 (⟨hb4,rfl,-⟩|⟨hg,B,G,S,l2,m,a1,n1,c1,us,a2,n2,c2,hf,rfl,hL,hI,p1,p4,hev,s1,s4,hn4,hwd⟩)
 ·go_wp2
  go_ret;exact⟨rfl,HWA.out.trans (hb4.mono HWA.out.size)⟩
 have e1:=hf.symm.trans PD.out;simp only[ZL,YP]at e1;obtain⟨-,hl2,-⟩:=e1;obtain⟨q,hq⟩:∃q,q=l.length-200:=⟨_,rfl⟩;rw[<-hq]at hl2;obtain⟨g1,g2,g3⟩:=SB hl2;have hn1:n1=q+1:=by rw[<-p1,hev.1,g1]
 obtain⟨kn,hkn⟩:∃kn,kn=min n 200:=⟨_,rfl⟩;have hkq:kn<=n/\(n:Int)-(kn:Int)=(q:Int):=by rw[HN.out]at hq;omega
 have iw1:IntKind.i64.wrap ((n1:Int)-1)=(q:Int):=QDJ;have iw2:IntKind.i64.wrap ((n:Int)-(kn:Int))=(q:Int):=QDJ;have hju:q<us.length:=by rw[p1];omega
 have hjl:q<l2.length:=by rw[g1];omega
 obtain⟨bb,oo,rfl,hcc⟩:=p4.at hju;obtain⟨y0,y1⟩:=hcc q hju;obtain⟨z0,z1⟩:=hev.2 q hjl;rw[g3 hjl]at z0 z1;obtain⟨xa,xn,xc,z2⟩:=z1.form;rw[z0]at y0;rw[z2]at y1 z1;have y2:w4.cell? ⟨bb,oo+q*2+1,none⟩=some (.slice xa xn xc):=y1;have hb4:Below w.heap.size w w4:=HWA.out.trans (hL.Xw.mono HWA.out.size);have htk:l.take 200=l.take kn:=by
  rw[hkn,<-HN.out];rcases Nat.le_total l.length 200 with h|h
  ·rw[Z6 h,YJ h,Z6 (ZB _)]
  ·rw[Nat.min_eq_right h]
 dsimp only at z1;rw[htk]at z1;have HEQ:=Zy (uY xa a xn kn xc c (l.take kn) w4 z1.ints ((HX.out.below hb4).dO kn) z1.get.1 QEO (by have:=z1.get.2;omega));have HCF:=Zy (fun(w':World) (hb:Below w4.heap.size w4 w')=>Ic (some ⟨bb,oo,none⟩) q c1 (us.take q) (l2.take q) G w' ((p4.take q).keep (fun _ _ h=>Zd hb _ _ h)) ((hev.dO q).keep (Xv.below G hb) (fun _ h=>h)) QEz QQ g2);have HB4:=Zy hb4;have HKN:=Zy hkn;have i0:(0:Int)<=(q:Int):=QQ;have i1:(q:Int)<(n1:Int):=QQ;have i2:(q:Int)<=(n1:Int):=QQ;have i3:(kn:Int)<=(n:Int):=QQ;have i4:kn<=c:=QQ;have i5:(0:Int)<=(kn:Int):=QQ;have i6:(kn:Int)<=(c:Int):=QQ;have i7:(q:Int)<=(c1:Int):=QQ;have i8:q<=c1:=QQ;have j1:n<200\/n=200\/200<n:=QQ;clear hf p1 p4 hev s1 s4 hn4 hwd hg hL hI hl2 hq g1 g2 g3 hcc z0 z1 z2 hb4 htk hjl hju hkn hkq PD;clear hn1;go_upto_region 9 with fail
 go_cut [12] (fun v wx=>v=.slice a kn c/\w4=wx)
 case first=>
  have HCC:=Zy hc;rcases j1 with j|j|j
  ·have hk:kn=n:=by rw[HKN.out];omega
   subst hk;have k1:(kn:Int)<200:=QQ;exact QGe
  ·have hk:kn=n:=by rw[HKN.out];omega
   subst hk;subst j;exact QGe
  ·have hk:kn=200:=by rw[HKN.out];omega
   subst hk;have k1:(200:Int)<(n:Int):=QQ;exact QGe
 obtain⟨rfl,rfl⟩:=hcut;clear j1 i3 i4 i5 i6;go_wp2_with fail
 refine HEQ.out.mono ?_;rintro e w6 ⟨rfl,nd,hnd⟩;have hb6:Below w4.heap.size w4 w6:=by rw[hnd];exact below_drewN (ZH _ _) nd
 have HCG:=Zy (HCF.out w6 hb6);clear hnd;go_wp2_with fail
 refine HCG.out.mono ?_;rintro e w7 ⟨rfl,WC⟩;go_wp2;go_ret;exact⟨rfl,HB4.out.trans ((hb6.trans (WC.mono hb6.size)).mono HB4.out.size)⟩
end Go.Proofs.YtmdnepkekekncaaGreat
