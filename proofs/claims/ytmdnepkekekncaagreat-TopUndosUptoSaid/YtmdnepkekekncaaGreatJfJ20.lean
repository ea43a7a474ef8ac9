/- joined, no condition of its own. -/
import Derived.Test.YtmdnepkekekncaaGreatJfJ19
set_option linter.unusedVariables false
set_option linter.unusedSimpArgs false
set_option maxRecDepth 100000
set_option maxHeartbeats 12000000
namespace Go.Proofs.YtmdnepkekekncaaGreat
open Go.RowKit
structure Hi where
 ls:List (List Int)
 most:Int
 Zm:Int
 XU:List Int
 pat:List Int
 older:Bool
def X7(lv:Value)(most Zm:Int)(sv pv:Value)(older:Bool):Array Value:=#[lv,.int .i64 most,.int .i64 Zm,sv,pv,.bool older]
structure Wh (w:World) (lv:Value) (most Zm:Int) (sv pv:Value) (older:Bool) (h:Hi):Prop where
 ls:∃vs,Vs w lv vs/\Lists w vs h.ls
 most:most=h.most
 Zm:Zm=h.Zm
 XU:Sl w sv h.XU
 pat:Sl w pv h.pat
 older:older=h.older
theorem Wh.keep{w w':World}{lv:Value}{most Zm:Int}{sv pv:Value}{older:Bool}{h:Hi}(r:Wh w lv most Zm sv pv older h)(hc:∀p v,w.cell? p=some v->w'.cell? p=some v):Wh w' lv most Zm sv pv older h:=by
 obtain⟨vs,h1,h2⟩:=r.ls;exact⟨⟨vs,h1.keep hc,h2.keep hc⟩,r.most,r.Zm,r.XU.keep hc,r.pat.keep hc,r.older⟩
theorem Wh.below{w w':World}{lv:Value}{most Zm:Int}{sv pv:Value}{older:Bool}{h:Hi}(r:Wh w lv most Zm sv pv older h)(hb:Below w.heap.size w w'):Wh w' lv most Zm sv pv older h:=r.keep (Zd hb)
def Ke(l:List Int):Bool:=decide (200<l.length)
def jF(h:Hi):Int:=
 if h.most<1\/50<h.most\/h.most<h.ls.length\/h.Zm<0\/(h.ls.length:Int)<h.Zm then 1
 else if h.ls.any Ke || Ke h.XU || Ke h.pat then 2 else 0
theorem Za.six{w:World}{B:Nat}{u0 u1 u2 u3 u4 u5:Value}{e:TypeId}(h:Za w B #[u0,u1,u2,u3,u4,u5] e):w.cell? ⟨B,0,none⟩=some u0/\w.cell? ⟨B,1,none⟩=some u1/\w.cell? ⟨B,2,none⟩=some u2/\w.cell? ⟨B,3,none⟩=some u3/\w.cell? ⟨B,4,none⟩=some u4/\w.cell? ⟨B,5,none⟩=some u5:=⟨h.cell 0,h.cell 1,h.cell 2,h.cell 3,h.cell 4,h.cell 5⟩
theorem QWD{α:Type}(p:α->Bool)(l:List α)(a b:α):(l++[a,b]).any p=(l.any p || p a || p b):=by simp[List.any_append,Bool.or_assoc]
theorem NP{X:List (List Int)}{i:Nat}(h:i<X.length):rx X i∈X:=by rw[Ab h];exact YQ h
theorem VO(lv:Value)(most Zm:Int)(sv pv:Value)(older:Bool)(h:Hi)(w:World)(r:Wh w lv most Zm sv pv older h):
  Calls Tryz.prog 117 #[.agg (X7 lv most Zm sv pv older)] w fun e w'=>e=.returned (.int .i64 (jF h))/\Below w.heap.size w w':=by
 obtain⟨⟨vs,hvs,hls⟩,rfl,rfl,Xr,Xt,rfl⟩:=r;obtain⟨la,ln,lc,rfl,hl1,hl2,hl3,hl4,hl5⟩:=hvs;obtain⟨sa,sn,sc,rfl,hs1,hs2,hs3,hs4,hs5⟩:=Xr;obtain⟨pa,pn,pc,rfl,hp1,hp2,hp3,xJ,UC⟩:=Xt;have hll:h.ls.length=ln:=Qq;unfold X7;have hB:=Za.new w #[.slice la ln lc,.int .i64 h.most,.int .i64 h.Zm,.slice sa sn sc,.slice pa pn pc,.bool h.older] 85;obtain⟨c0,c1,c2,c3,c4,c5⟩:=hB.six;have hacc:=ZR w (.cells #[.slice la ln lc,.int .i64 h.most,.int .i64 h.Zm,.slice sa sn sc,.slice pa pn pc,.bool h.older] 85);have hE1:jF h=if h.most<1\/50<h.most\/h.most<ln\/h.Zm<0\/(ln:Int)<h.Zm then 1 else if h.ls.any Ke || Ke h.XU || Ke h.pat then 2 else 0:=by rw[jF,hll]
 by_cases hbad:h.most<1\/50<h.most\/h.most<ln\/h.Zm<0\/(ln:Int)<h.Zm
 ·rw[hE1,if_pos hbad]
  have hd:h.most<1\/(1<=h.most/\50<h.most)\/(1<=h.most/\h.most<=50/\h.most<ln)\/(1<=h.most/\h.most<=50/\(ln:Int)<=h.most/\h.Zm<0)\/(1<=h.most/\h.most<=50/\(ln:Int)<=h.most/\0<=h.Zm/\(ln:Int)<h.Zm):=QQ;clear hE1 hbad hl1 hs1 hp1 hl5 hs5 UC hll;generalize h.most=M at *;generalize h.Zm=W at *;rcases hd with h1|⟨h1,h2⟩|⟨h1,h2,h3⟩|⟨h1,h2,h3,h4⟩|⟨h1,h2,h3,h4,h5⟩
  all_goals
   go_enter Tryz.func117,Tryz.ntmps117
   go_wp2;exact QLZ
 ·rw[if_neg hbad]at hE1
  have hd:1<=h.most/\h.most<=50/\(ln:Int)<=h.most/\0<=h.Zm/\h.Zm<=(ln:Int):=QQ;obtain⟨g1,g2,g3,g4,g5⟩:=hd;have hln:ln<=50:=QQ;have QxQ:ln<=4398046511104:=QQ;have HE:=Zy hE1;have HL:=Zy hl1;have IX:=Zy hs1;have og:=Zy hp1;have HL5:=Zy hl5;have Vf:=Zy hll;have bJ:=Zy hls.sls;have HSC:=Zy (show Sl ((w.alloc (.cells #[.slice la ln lc,.int .i64 h.most,.int .i64 h.Zm,.slice sa sn sc,.slice pa pn pc,.bool h.older] 85))) (.slice sa sn sc) h.XU from Sl.below (w:=w) ⟨sa,sn,sc,rfl,hs1,hs2,hs3,hs4,hs5⟩ hacc);have HPC:=Zy (show Sl ((w.alloc (.cells #[.slice la ln lc,.int .i64 h.most,.int .i64 h.Zm,.slice sa sn sc,.slice pa pn pc,.bool h.older] 85))) (.slice pa pn pc) h.pat from Sl.below (w:=w) ⟨pa,pn,pc,rfl,hp1,hp2,hp3,xJ,UC⟩ hacc);have Hd:=Zy (hls.below hacc);clear hE1 hbad hl1 hs1 hp1 hl5 hll;have QxZ:=hl4.below hacc;have hsz:w.heap.size<(w.alloc (.cells #[.slice la ln lc,.int .i64 h.most,.int .i64 h.Zm,.slice sa sn sc,.slice pa pn pc,.bool h.older] 85)).heap.size:=QJ;generalize h.most=M at *;generalize h.Zm=W at *;go_enter Tryz.func117,Tryz.ntmps117
  go_upto_region 1 with fail
  change Code.wp _ _ _ _ (w.alloc (.cells #[.slice la ln lc,.int .i64 M,.int .i64 W,.slice sa sn sc,.slice pa pn pc,.bool h.older] 85));generalize(w.alloc (.cells #[.slice la ln lc,.int .i64 M,.int .i64 W,.slice sa sn sc,.slice pa pn pc,.bool h.older] 85))=w1 at *;go_wp2;have hVL:∀u:World,KM (u.alloc (.cells #[.slice sa sn sc,.slice pa pn pc] 22)) (some ⟨u.heap.size,0,none⟩) [.slice sa sn sc,.slice pa pn pc]:=fun u=>JD u [.slice sa sn sc,.slice pa pn pc] _
  have bY:=Zy hVL;have HS2:=Zy (show MH [.slice sa sn sc,.slice pa pn pc]from fun i hi=>by
   rcases(show i=0\/i=1 from QS)with rfl|rfl
   ·exact⟨sa,sn,sc,rfl⟩
   ·exact⟨pa,pn,pc,rfl⟩)
  have HLV:=Zy (show vs.length+2<=4398046511104 from QEl);clear hVL
  go_region_held3 (fun w'=>w'.cell? ⟨w.heap.size,0,none⟩=some (.slice la ln lc)/\w'.cell? ⟨w.heap.size,3,none⟩=some (.slice sa sn sc)/\w'.cell? ⟨w.heap.size,4,none⟩=some (.slice pa pn pc)/\Below w1.heap.size w1 w') (first|exact⟨c0,c3,c4,(ZH _ _).drew⟩|assumption|exact iy ‹_› (ZR _ _)|exact iy ‹_› ‹_›)
   (first|(refine zR QDu _ _ rfl _ (.slice a2 n2 c2) vs [.slice sa sn sc,.slice pa pn pc] _ 2 2 rfl rfl (Aw.alloc _) (bY.out _) HS2.out rfl HLV.out (Below.size (XW (XW (XW ‹_›)))) ?_;intro v9 w9 o9 Xm;have hS9:=iV ‹_› Xm Aw.row hsz hsz hsz;obtain⟨a9,n9,c9,rfl⟩:=o9.form)|(refine zR QDu _ _ rfl _ (.slice a2 n2 c2) vs [.slice sa sn sc,.slice pa pn pc] _ 2 2 rfl rfl Aw ((KM.drew (bY.out _)).below hb2) HS2.out rfl HLV.out (Below.size (XW (XW (XW ‹_›)))) ?_;intro v9 w9 o9 Xm;have hS9:=iV ‹_› Xm Aw.row hsz hsz hsz;obtain⟨a9,n9,c9,rfl⟩:=o9.form)|(go_at_call 138;((with_reducible refine(uD w1.heap.size la ln lc vs _ (QxZ.below (XW (XW (XW ‹_›)))) (Below.size (XW (XW (XW ‹_›)))) bJ.out HL.out QxQ HL5.out).mono ?_);rintro e w2 ⟨v2,rfl,Aw,hb2⟩;obtain⟨a2,n2,c2,rfl⟩:=Aw.form)))
  all_goals
   have hS:Below w1.heap.size w1 w9:=XW (XW (XW hS9));have hLi:Lists w9 (vs++[.slice sa sn sc,.slice pa pn pc]) (h.ls++[h.XU,h.pat]):=(Hd.out.below hS).append ((Lists.one (HSC.out.below hS)).append (Lists.one (HPC.out.below hS)));obtain⟨z1,z2,z3,z4,z5⟩:=o9.vs.get;have HLI:=Zy hLi;have HZ:=Zy z1;have hn9:n9<=52:=by rw[<-z1,ZN,HL.out];simp;omega
   have HNX:=Zy (show(h.ls++[h.XU,h.pat]).length=n9 by rw[<-hLi.len];exact z1);have hbb:=ZE hacc (Xh hsz) hS;clear hLi z1 z5 hS9;go_wp2
   go_loop [44] (fun iv=>∃k:Nat,iv=.int .i64 (k:Int)/\k<=n9/\∀j,j<k->Ke (rx (h.ls++[h.XU,h.pat]) j)=false) (fun iv=>n9-(intOf iv).toNat)
   case atStart=>exact⟨0,rfl,QQ,fun j hj=>QQ⟩
   case round=>
    obtain⟨k,rfl,hk,hno⟩:=hrel;have HO:=Zy hno;clear hno;by_cases hlt:k<n9
    ·obtain⟨b1,o1,rfl,hc⟩:=z4.at (k:=k) (by rw[HZ.out];exact hlt)
     have e1:=hc k (by rw[HZ.out];exact hlt);obtain⟨xa,xn,xc,x1,x2,x3,x4,x5,x6⟩:=HLI.out.sl k (by rw[HNX.out];exact hlt);rw[x1]at e1;have HX:=Zy x2;clear hc z4 x1 x2 x6;by_cases hlong:200<xn
     ·have HR:=Zy (show jF h=2 by
       rw[HE.out];have hh:(h.ls++[h.XU,h.pat]).any Ke=true:=by
        rw[List.any_eq_true];exact⟨_,NP (by rw[HNX.out];exact hlt),by simp[Ke,HX.out,hlong]⟩
       rw[QWD]at hh;rw[if_pos hh])
      go_wp2;go_ret;exact⟨XE HR.out.symm,hbb⟩
     ·have HN:=Zy (show Ke (rx (h.ls++[h.XU,h.pat]) k)=false by simp[Ke,HX.out];omega)
      go_wp2
      go_round
      case rel=>exact⟨k+1,Qy,QQ,fun j hj=>by
       rcases XZ.1 hj with h|rfl
       ·exact HO.out j h
       ·exact HN.out⟩
      case measure=>simp[intOf];omega
    ·obtain rfl:k=n9:=by omega
     have HR:=Zy (show jF h=0 by
      rw[HE.out];have hh:(h.ls++[h.XU,h.pat]).any Ke=false:=by
       rw[List.any_eq_false];intro x hx;obtain⟨j,hj,rfl⟩:=XN.1 hx;have:=HO.out j (by rw[HNX.out]at hj;exact hj);rw[Ab hj]at this;simpa using this
      rw[QWD]at hh;rw[if_neg (by simp[hh])])
     go_wp2;go_ret;exact⟨XE HR.out.symm,hbb⟩
def UG(base:Nat)(w:World)(vs:List Value)(X:List (List Int)):Prop:=vs.length=X.length/\∀i,i<X.length->Own 3 base w (vx vs i) (rx X i)
theorem UG.imp{base base':Nat}{w w':World}{vs:List Value}{X:List (List Int)}(h:UG base w vs X)(hk:∀v xs,Own 3 base w v xs->Own 3 base' w' v xs):UG base' w' vs X:=⟨h.1,fun i hi=>hk _ _ (h.2 i hi)⟩
theorem UG.snoc{base:Nat}{w:World}{vs:List Value}{X:List (List Int)}{v:Value}{xs:List Int}(h:UG base w vs X)(hv:Own 3 base w v xs):UG base w (vs++[v]) (X++[xs]):=by
 refine⟨QE1,fun i hi=>?_⟩;by_cases hl:i<X.length
 ·rw[Ea (by rw[h.1];exact hl),FW hl];exact h.2 i hl
 ·obtain rfl:i=X.length:=by simp at hi;omega
  have h1:=Aa (X:=X) (Y:=[xs]) (i:=0);have h2:=vo (vs:=vs) (us:=[v]) (i:=0);rw[h.1]at h2;rw[Yq]at h1 h2;rw[h1,h2];exact hv
theorem UG.nil(base:Nat)(w:World):UG base w [] []:=⟨rfl,fun i hi=>by simp at hi⟩
def oV(h:Hi)(w:World)(e:Ending)(w':World):Prop:=
 ∃lv sv pv vs,e=.returned (.agg (X7 lv h.most h.Zm sv pv h.older))/\Xc 22 w.heap.size w' lv vs/\UG w.heap.size w' vs h.ls/\Own 3 w.heap.size w' sv h.XU/\Own 3 w.heap.size w' pv h.pat/\Below w.heap.size w w'
theorem Za.YA{w:World}{B:Nat}{u0 u1 u2 u3 u4 u5:Value}{e:TypeId}(h:Za w B #[u0,u1,u2,u3,u4,u5] e):w.frozen? ⟨B,0,none⟩=false/\w.frozen? ⟨B,1,none⟩=false/\w.frozen? ⟨B,2,none⟩=false/\w.frozen? ⟨B,3,none⟩=false/\w.frozen? ⟨B,4,none⟩=false/\w.frozen? ⟨B,5,none⟩=false:=⟨h.free 0,h.free 1,h.free 2,h.free 3,h.free 4,h.free 5⟩
theorem Kh(lv:Value)(most Zm:Int)(sv pv:Value)(older:Bool)(h:Hi)(w:World)(r:Wh w lv most Zm sv pv older h)(QYo:h.ls.length<=50)(iR:∀i,i<h.ls.length->(rx h.ls i).length<=200)(jX:h.XU.length<=200)(QVZ:h.pat.length<=200):
  Calls Tryz.prog 118 #[.agg (X7 lv most Zm sv pv older)] w (oV h w):=by
 obtain⟨⟨vs,hvs,hls⟩,rfl,rfl,Xr,Xt,rfl⟩:=r;obtain⟨la,ln,lc,rfl,hl1,hl2,hl3,hl4,hl5⟩:=hvs;obtain⟨sa,sn,sc,rfl,hs1,hs2,hs3,hs4,hs5⟩:=Xr;obtain⟨pa,pn,pc,rfl,hp1,hp2,hp3,xJ,UC⟩:=Xt;have hll:h.ls.length=ln:=Qq;have hln:ln<=50:=QQ;have hsn:sn<=200:=QQ;have hpn:pn<=200:=QQ;unfold X7;have HC:=Zy (show oV h w=oV ⟨h.ls,h.most,h.Zm,h.XU,h.pat,h.older⟩ w from rfl);have hB:=(Za.new w #[.slice la ln lc,.int .i64 h.most,.int .i64 h.Zm,.slice sa sn sc,.slice pa pn pc,.bool h.older] 85).alloc (.cells #[.slice none 0 0,.int .i64 0,.int .i64 0,.slice none 0 0,.slice none 0 0,.bool false] 85);have hR:=Za.new (w.alloc (.cells #[.slice la ln lc,.int .i64 h.most,.int .i64 h.Zm,.slice sa sn sc,.slice pa pn pc,.bool h.older] 85)) #[.slice none 0 0,.int .i64 0,.int .i64 0,.slice none 0 0,.slice none 0 0,.bool false] 85;rw[Zu]at hR;have hacc:=Zo w (.cells #[.slice la ln lc,.int .i64 h.most,.int .i64 h.Zm,.slice sa sn sc,.slice pa pn pc,.bool h.older] 85) (.cells #[.slice none 0 0,.int .i64 0,.int .i64 0,.slice none 0 0,.slice none 0 0,.bool false] 85);have hsz:w.heap.size+2<=((w.alloc (.cells #[.slice la ln lc,.int .i64 h.most,.int .i64 h.Zm,.slice sa sn sc,.slice pa pn pc,.bool h.older] 85)).alloc (.cells #[.slice none 0 0,.int .i64 0,.int .i64 0,.slice none 0 0,.slice none 0 0,.bool false] 85)).heap.size:=QJ;have HL:=Zy hl1;have IX:=Zy hs1;have og:=Zy hp1;have Mr:=Zy hs5;have HP5:=Zy UC;have Vf:=Zy hll;have Hd:=Zy hls;have QjY:=Zy iR;clear hl1 hs1 hp1 hl5 hs5 UC hll hls iR QYo jX QVZ;generalize h.most=M at *;generalize h.Zm=W at *;generalize h.older=O at *;go_enter Tryz.func118,Tryz.ntmps118
 go_upto_region 1 with fail
 change Code.wp _ _ _ _ ((w.alloc (.cells #[.slice la ln lc,.int .i64 M,.int .i64 W,.slice sa sn sc,.slice pa pn pc,.bool O] 85)).alloc (.cells #[.slice none 0 0,.int .i64 0,.int .i64 0,.slice none 0 0,.slice none 0 0,.bool false] 85));generalize((w.alloc (.cells #[.slice la ln lc,.int .i64 M,.int .i64 W,.slice sa sn sc,.slice pa pn pc,.bool O] 85)).alloc (.cells #[.slice none 0 0,.int .i64 0,.int .i64 0,.slice none 0 0,.slice none 0 0,.bool false] 85))=w1 at *;obtain⟨c0,c1,c2,c3,c4,c5⟩:=hB.six;obtain⟨f0,-⟩:=hB.YA;go_wp2;have hB1:=hB.set 0 (.slice none 0 0);have OE:=hR.other (a:=⟨w.heap.size,0,none⟩) QJ (.slice none 0 0);have QVb:=hacc.setCell (p:=⟨w.heap.size,0,none⟩) (ZB _) (.slice none 0 0);have hsz1:w.heap.size+2<=(w1.setCell ⟨w.heap.size,0,none⟩ (.slice none 0 0)).heap.size:=by rw[size_setCell];exact hsz
 simp only[Zj,Zk]at hB1;clear hB hR hacc hsz c0 c1 c2 c3 c4 c5 f0
 go_loopw [11] (fun iv wr=>∃(k:Nat) (ra:Option Addr) (rn rc:Nat) (us:List Value),iv=.int .i64 (k:Int)/\k<=ln/\Za wr w.heap.size #[.slice ra rn rc,.int .i64 M,.int .i64 W,.slice sa sn sc,.slice pa pn pc,.bool O] 85/\Za wr (w.heap.size+1) #[.slice none 0 0,.int .i64 0,.int .i64 0,.slice none 0 0,.slice none 0 0,.bool false] 85/\
   Xc 22 (w.heap.size+2) wr (.slice ra rn rc) us/\UG (w.heap.size+2) wr us (h.ls.take k)/\Below w.heap.size w wr/\w.heap.size+2<=wr.heap.size) (fun iv _=>ln-(intOf iv).toNat)
 case atStart=>exact⟨0,none,0,0,[],rfl,QQ,hB1,OE,Xc.nil _ _ _,UG.nil _ _,QVb,hsz1⟩
 case round=>
  obtain⟨k,ra,rn,rc,us,rfl,hk,hB,hR,hown,hol,hbel,hsz⟩:=hrel;have Pk:=Zy hol;clear hol;obtain⟨c0,c1,c2,c3,c4,c5⟩:=hB.six;obtain⟨f0,f1,f2,f3,f4,f5⟩:=hB.YA;by_cases hlt:k<ln
  ·obtain⟨b1,o1,rfl,hc⟩:=(hl4.below hbel).at (k:=k) QH
   have e1:=hc k QH;obtain⟨xa,xn,xc,x1,x2,x3,x4,x5,x6⟩:=(Hd.out.below hbel).sl k QDa;rw[x1]at e1;have Jq:xn<=17592186044416:=by have:=QjY.out k QDa;omega
   have HX2:=Zy x2;have HX6:=Zy x6;have HU:=Zy (show us.length+1<=4398046511104 by rw[Pk.out.1,Zi];omega);clear hc x1 x2 x6;go_wp2;have bY:=Zy (show∀(u:World) (x:Option Addr) (n c:Nat),KM (u.alloc (.cells #[.slice x n c] 22)) (some ⟨u.heap.size,0,none⟩) [.slice x n c]from fun u x n c=>JD u [.slice x n c] _);have IX:=Zy (show∀(x:Option Addr) (n c:Nat),MH [.slice x n c]from fun x n c i hi=>by
    obtain rfl:i=0:=QS;exact⟨x,n,c,rfl⟩)
   have x5':=x5.drew
   go_region_law (first|(go_simp;go_at_call 31;refine(XY xa xn xc _ wr.drew x5' HX2.out Jq HX6.out).mono ?_;rintro e w2 ⟨v2,rfl,Aw,hb2⟩;obtain⟨a2,n2,c2,rfl⟩:=Aw.form;have hB2:=hB.drew.below hb2 hB.lt;have d0:=hB2.cell 0;have hlt2:=hB2.lt;have ho2:=hown.drew.kept hb2;have hz2:w.heap.size+2<=w2.heap.size:=Zf hsz hb2.size;simp only[List.getElem?_toArray,List.getElem?_cons_zero]at d0)|(refine zR QDu _ _ rfl _ (.slice ra rn rc) us [.slice a2 n2 c2] _ 1 1 rfl rfl (ho2.alloc _) (bY.out _ _ _ _) (IX.out _ _ _) rfl HU.out (XJ hz2 _) ?_;intro v9 w9 o9 Xm;obtain⟨a9,n9,c9,rfl⟩:=o9.form;have U7:=(hB2.alloc _).grown Xm (ho2.XP hB2 QZ);have e0:=U7.cell 0;have g0:=U7.free 0;simp only[List.getElem?_toArray,List.getElem?_cons_zero]at e0))
   all_goals
    go_wp2;go_roundw
    case rel=>
     have aX:=U7.set 0 (.slice a9 n9 c9);simp only[Zj,Zk]at aX;have hR2:=(((hR.drew.below hb2 (by show w.heap.size+1<wr.heap.size;omega)).alloc _).grown Xm (ho2.ne QQ)).other (a:=⟨w.heap.size,0,none⟩) QJ (.slice a9 n9 c9);have JP:Below w.heap.size w w2:=ZE hbel.drew (by show w.heap.size<=wr.heap.size;omega) hb2;have QUt:=Xm.size;rw[Zu]at QUt;refine⟨k+1,a9,n9,c9,_,Qy,QQ,aX,hR2,o9.other (o9.XP U7 QZ) _,?_,((JP.alloc QQ _).grown Xm QY (fun j hj=>by have:=ho2.row j hj;omega)).setCell (ZB _) _,by rw[size_setCell];omega⟩;rw[Wp QDa];have hbase:w.heap.size+2<=wr.heap.size:=hsz;refine UG.snoc (Pk.out.imp fun v xs hv=>?_) ?_
     ·have h1:=((hv.drew.kept hb2).alloc (.cells #[.slice a2 n2 c2] 22)).beside (ho2.alloc _) QZ Xm
      exact h1.other (h1.XP U7 QZ) _
     ·have h1:=((Aw.mono (base':=w.heap.size+2) hbase).alloc (.cells #[.slice a2 n2 c2] 22)).beside (ho2.alloc _) QZ Xm
      exact h1.other (h1.XP U7 QZ) _
    case measure=>simp[intOf];omega
  ·obtain rfl:k=ln:=by omega
   have hol:=Pk.out;rw[Z6 QD9]at hol;have Cz:=Zy hol;have QU6:=(hs4.below hbel).drew;have QVQ:=(xJ.below hbel).drew;have iL:sn<=17592186044416:=QQ;have QU9:pn<=17592186044416:=QQ;clear hol hl4 hlt;go_wp2
   go_region_law (first|(go_simp;go_at_call 31;((with_reducible refine(XY pa pn pc h.pat wS (QVQ.below hbS) og.out QU9 HP5.out).mono ?_));rintro e w9 ⟨vP,rfl,gU,Jp⟩;obtain⟨aP,nP,cP,rfl⟩:=gU.form;have U7:=hBS.below Jp hBS.lt;obtain⟨e0,e1,e2,e3,e4,e5⟩:=U7.six;obtain⟨g0,g1,g2,g3,g4,g5⟩:=U7.YA;have oS:=gK.kept Jp;have oP:=gU.mono hbS.size;have lY:=ZE hbS hbS.size Jp)|(go_simp;go_at_call 31;((with_reducible refine(XY sa sn sc h.XU wP (QU6.below hbP) IX.out iL Mr.out).mono ?_));rintro e w9 ⟨vS,rfl,gK,Jp⟩;obtain⟨aS,nS,cS,rfl⟩:=gK.form;have U7:=hBP.below Jp hBP.lt;obtain⟨e0,e1,e2,e3,e4,e5⟩:=U7.six;obtain⟨g0,g1,g2,g3,g4,g5⟩:=U7.YA;have oS:=gK.mono hbP.size;have oP:=gU.kept Jp;have lY:=ZE hbP hbP.size Jp)|(go_simp;go_at_call 31;((with_reducible refine(XY sa sn sc h.XU wr.drew QU6 IX.out iL Mr.out).mono ?_));rintro e wS ⟨vS,rfl,gK,hbS⟩;obtain⟨aS,nS,cS,rfl⟩:=gK.form;have hBS:=hB.drew.below hbS hB.lt;obtain⟨d0,d1,d2,d3,d4,d5⟩:=hBS.six;obtain⟨f0',f1',f2',f3',f4',f5'⟩:=hBS.YA)|(go_simp;go_at_call 31;((with_reducible refine(XY pa pn pc h.pat wr.drew QVQ og.out QU9 HP5.out).mono ?_));rintro e wP ⟨vP,rfl,gU,hbP⟩;obtain⟨aP,nP,cP,rfl⟩:=gU.form;have hBP:=hB.drew.below hbP hB.lt;obtain⟨d0,d1,d2,d3,d4,d5⟩:=hBP.six;obtain⟨f0',f1',f2',f3',f4',f5'⟩:=hBP.YA))
   all_goals
    have uP:=(U7.set 3 (.slice aS nS cS)).set 4 (.slice aP nP cP);simp only[Zj,Zk,Zv]at uP;obtain⟨q0,q1,q2,q3,q4,q5⟩:=uP.six;have Ga:=hR.drew.below lY (by show w.heap.size+1<wr.heap.size;omega);have lV:=(Ga.other (a:=⟨w.heap.size,3,none⟩) QJ (.slice aS nS cS)).other (a:=⟨w.heap.size,4,none⟩) QJ (.slice aP nP cP);obtain⟨p0,p1,p2,p3,p4,p5⟩:=lV.six;obtain⟨t0,t1,t2,t3,t4,t5⟩:=lV.YA;go_wp2;have hG:=((((((lV.set 0 (.slice ra rn rc)).set 1 (.int .i64 M)).set 2 (.int .i64 W)).set 3 (.slice aS nS cS)).set 4 (.slice aP nP cP)).set 5 (.bool O));simp only[Zj,Zk,Zv]at hG;obtain⟨y0,y1,y2,y3,y4,y5⟩:=hG.six;have hz2:w.heap.size+2<=wr.drew.heap.size:=hsz;have jK:Below w.heap.size w w9:=ZE hbel.drew (by show w.heap.size<=wr.heap.size;omega) lY;refine ZC (v:=.agg (X7 (.slice ra rn rc) M W (.slice aS nS cS) (.slice aP nP cP) O)) (by simp[results,Tryz.results118,go_sem,y0,y1,y2,y3,y4,y5,X7]) rfl ?_;rw[HC.out];have kV:∀(v:Value) (us:List Value),Xc 22 (w.heap.size+2) w9 v us->Xc 22 w.heap.size ((((((((w9.setCell ⟨w.heap.size,3,none⟩ (.slice aS nS cS)).setCell ⟨w.heap.size,4,none⟩ (.slice aP nP cP)).setCell ⟨w.heap.size+1,0,none⟩ (.slice ra rn rc)).setCell ⟨w.heap.size+1,1,none⟩ (.int .i64 M)).setCell ⟨w.heap.size+1,2,none⟩ (.int .i64 W)).setCell ⟨w.heap.size+1,3,none⟩ (.slice aS nS cS)).setCell ⟨w.heap.size+1,4,none⟩ (.slice aP nP cP)).setCell ⟨w.heap.size+1,5,none⟩ (.bool O)) v us:=fun v us h=>((((((((h.setCell QJ _).setCell QJ _).setCell QJ _).setCell QJ _).setCell QJ _).setCell QJ _).setCell QJ _).setCell QJ _).mono QQ
    have kO:∀(v:Value) (xs:List Int),Own 3 (w.heap.size+2) w9 v xs->Own 3 w.heap.size ((((((((w9.setCell ⟨w.heap.size,3,none⟩ (.slice aS nS cS)).setCell ⟨w.heap.size,4,none⟩ (.slice aP nP cP)).setCell ⟨w.heap.size+1,0,none⟩ (.slice ra rn rc)).setCell ⟨w.heap.size+1,1,none⟩ (.int .i64 M)).setCell ⟨w.heap.size+1,2,none⟩ (.int .i64 W)).setCell ⟨w.heap.size+1,3,none⟩ (.slice aS nS cS)).setCell ⟨w.heap.size+1,4,none⟩ (.slice aP nP cP)).setCell ⟨w.heap.size+1,5,none⟩ (.bool O)) v xs:=fun v us h=>((((((((h.setCell QJ _).setCell QJ _).setCell QJ _).setCell QJ _).setCell QJ _).setCell QJ _).setCell QJ _).setCell QJ _).mono QQ
    refine⟨.slice ra rn rc,.slice aS nS cS,.slice aP nP cP,us,rfl,kV _ _ (hown.drew.kept lY),Cz.out.imp fun v xs hv=>kO _ _ (hv.drew.kept lY),kO _ _ (oS.mono hz2),kO _ _ (oP.mono hz2),?_⟩;exact(((((((jK.setCell (ZB _) _).setCell (ZB _) _).setCell (ZA _) _).setCell (ZA _) _).setCell (ZA _) _).setCell (ZA _) _).setCell (ZA _) _).setCell (ZA _) _
theorem Zr{w:World}{p a:Addr}{u v:Value}(h:w.cell? p=some v)(hne:p.block≠a.block):(w.setCell a u).cell? p=some v:=by
 unfold World.cell? at *;rw[Zl _ _ _ _ hne];exact h
def Yn(P:Nat->Prop)(w:World)(v:Value)(xs:List Int):Prop:=∃a n c,v=.slice a n c/\xs.length=n/\n<=c/\c<=9223372036854775807/\Ints w a xs/\(a=none->n=0)/\∀ad,a=some ad->0<n->P ad.block
theorem Yn.sl{P:Nat->Prop}{w:World}{v:Value}{xs:List Int}(h:Yn P w v xs):Sl w v xs:=by
 obtain⟨a,n,c,h1,h2,h3,h4,h5,h6,_⟩:=h;exact⟨a,n,c,h1,h2,h3,h4,h5,h6⟩
theorem Yn.imp{P Q:Nat->Prop}{w:World}{v:Value}{xs:List Int}(h:Yn P w v xs)(hi:∀k,P k->Q k):Yn Q w v xs:=by
 exact QHl
theorem Yn.keep{P:Nat->Prop}{w w':World}{v:Value}{xs:List Int}(h:Yn P w v xs)(hc:∀p v,P p.block->w.cell? p=some v->w'.cell? p=some v):Yn P w' v xs:=by
 exact QHT
theorem Yn.setCell{P:Nat->Prop}{w:World}{v:Value}{xs:List Int}(h:Yn P w v xs){a:Addr}(ha:¬P a.block)(u:Value):Yn P (w.setCell a u) v xs:=
 h.keep fun p v hp hc=>Zr hc (fun e=>ha (e▸hp))
theorem Yn.below{P:Nat->Prop}{w w':World}{v:Value}{xs:List Int}(h:Yn P w v xs)(hb:Below w.heap.size w w'):Yn P w' v xs:=h.keep fun p v _ hc=>Zd hb p v hc
theorem Yn.drew{P:Nat->Prop}{w:World}{v:Value}{xs:List Int}(h:Yn P w v xs):Yn P w.drew v xs:=h.keep fun _ _ _ h=>h
theorem Yn.nil(P:Nat->Prop)(w:World):Yn P w (.slice none 0 0) []:=⟨none,0,0,rfl,rfl,ZB _,QQ,Ints.nil _ _,fun _=>rfl,fun ad e=>QDk⟩
theorem Sl.lt{w:World}{v:Value}{xs:List Int}(h:Sl w v xs):Yn (fun k=>k<w.heap.size) w v xs:=by
 exact QMY
theorem Own.uX{e:TypeId}{base:Nat}{w:World}{v:Value}{xs:List Int}(h:Own e base w v xs):Yn (fun k=>base<=k) w v xs:=by
 obtain⟨a,n,c,h1,h2,h3,h4,h5,h6⟩:=h.sl;exact QLW
theorem Yn.get{P:Nat->Prop}{w:World}{a:Option Addr}{n c:Nat}{xs:List Int}(h:Yn P w (.slice a n c) xs):xs.length=n/\n<=c/\c<=9223372036854775807/\Ints w a xs/\(a=none->n=0):=h.sl.get
theorem Yn.form{P:Nat->Prop}{w:World}{v:Value}{xs:List Int}(h:Yn P w v xs):∃a n c,v=.slice a n c:=by
 obtain⟨a,n,c,h1,_⟩:=h;exact⟨a,n,c,h1⟩
def EM(P:Nat->Prop)(w:World)(v:Value)(vs:List Value):Prop:=∃a n c,v=.slice a n c/\vs.length=n/\n<=c/\c<=9223372036854775807/\KM w a vs/\(a=none->n=0)/\∀ad,a=some ad->0<n->P ad.block
theorem EM.vs{P:Nat->Prop}{w:World}{v:Value}{vs:List Value}(h:EM P w v vs):Vs w v vs:=by
 obtain⟨a,n,c,h1,h2,h3,h4,h5,h6,_⟩:=h;exact⟨a,n,c,h1,h2,h3,h4,h5,h6⟩
theorem EM.imp{P Q:Nat->Prop}{w:World}{v:Value}{vs:List Value}(h:EM P w v vs)(hi:∀k,P k->Q k):EM Q w v vs:=by
 exact QHl
theorem EM.keep{P:Nat->Prop}{w w':World}{v:Value}{vs:List Value}(h:EM P w v vs)(hc:∀p v,P p.block->w.cell? p=some v->w'.cell? p=some v):EM P w' v vs:=by
 exact QHT
theorem EM.nil(P:Nat->Prop)(w:World):EM P w (.slice none 0 0) []:=⟨none,0,0,rfl,rfl,ZB _,QQ,KM.nil _ _,fun _=>rfl,fun ad e=>QDk⟩
theorem Vs.lt{w:World}{v:Value}{vs:List Value}(h:Vs w v vs):EM (fun k=>k<w.heap.size) w v vs:=by
 exact QMY
theorem Xc.vsp{e:TypeId}{base:Nat}{w:World}{v:Value}{vs:List Value}(h:Xc e base w v vs):EM (fun k=>base<=k) w v vs:=by
 obtain⟨a,n,c,h1,h2,h3,h4,h5,h6⟩:=h.vs;exact QLW
def Yh(P:Nat->Prop)(w:World)(vs:List Value)(X:List (List Int)):Prop:=vs.length=X.length/\∀i,i<X.length->Yn P w (vx vs i) (rx X i)
theorem Yh.lists{P:Nat->Prop}{w:World}{vs:List Value}{X:List (List Int)}(h:Yh P w vs X):Lists w vs X:=⟨h.1,fun i hi=>(h.2 i hi).sl⟩
theorem Yh.imp{P Q:Nat->Prop}{w w':World}{vs:List Value}{X:List (List Int)}(h:Yh P w vs X)(hi:∀v xs,Yn P w v xs->Yn Q w' v xs):Yh Q w' vs X:=⟨h.1,fun i k=>hi _ _ (h.2 i k)⟩
theorem Yh.append{P:Nat->Prop}{w:World}{vs us:List Value}{X Y:List (List Int)}(h:Yh P w vs X)(g:Yh P w us Y):Yh P w (vs++us) (X++Y):=by
 refine⟨by simp[h.1,g.1],fun i hi=>?_⟩;by_cases hl:i<X.length
 ·rw[Ea (by rw[h.1];exact hl),FW hl];exact h.2 i hl
 ·obtain⟨j,rfl⟩:∃j,i=X.length+j:=⟨i-X.length,QQ⟩
  rw[Aa,<-h.1,vo];exact g.2 j QS
theorem Yh.one{P:Nat->Prop}{w:World}{v:Value}{xs:List Int}(h:Yn P w v xs):Yh P w [v] [xs]:=⟨rfl,fun i hi=>by
 obtain rfl:i=0:=QS;exact h⟩
theorem Yn.lt{P:Nat->Prop}{w:World}{v:Value}{xs:List Int}(h:Yn P w v xs):Yn (fun k=>P k/\k<w.heap.size) w v xs:=by
 exact QMX
theorem EM.lt{P:Nat->Prop}{w:World}{v:Value}{vs:List Value}(h:EM P w v vs):EM (fun k=>P k/\k<w.heap.size) w v vs:=by
 exact QMX
theorem Yh.lt{P:Nat->Prop}{w:World}{vs:List Value}{X:List (List Int)}(h:Yh P w vs X):Yh (fun k=>P k/\k<w.heap.size) w vs X:=⟨h.1,fun i hi=>(h.2 i hi).lt⟩
theorem Yh.drop{P:Nat->Prop}{w:World}{vs:List Value}{X:List (List Int)}(h:Yh P w vs X)(k:Nat):Yh P w (vs.drop k) (X.drop k):=by
 refine⟨QE1,fun i hi=>?_⟩;rw[Eb,rE];exact h.2 _ QS
structure ug (base:Nat) (w:World) (lv sv pv:Value) (ls:List (List Int)) (XU pat:List Int):Prop where
 row:∃vs,Xc 22 base w lv vs/\UG base w vs ls
 XU:Own 3 base w sv XU
 pat:Own 3 base w pv pat
theorem ug.setCell{base:Nat}{w:World}{lv sv pv:Value}{ls:List (List Int)}{XU pat:List Int}(h:ug base w lv sv pv ls XU pat){a:Addr}(ha:a.block<base)(u:Value):ug base (w.setCell a u) lv sv pv ls XU pat:=by
 obtain⟨vs,h1,h2⟩:=h.row;exact⟨⟨vs,h1.setCell ha u,h2.imp fun _ _ k=>k.setCell ha u⟩,h.XU.setCell ha u,h.pat.setCell ha u⟩
theorem ug.kept{base:Nat}{w w':World}{lv sv pv:Value}{ls:List (List Int)}{XU pat:List Int}(h:ug base w lv sv pv ls XU pat)(hb:Below w.heap.size w w'):ug base w' lv sv pv ls XU pat:=by
 obtain⟨vs,h1,h2⟩:=h.row;exact⟨⟨vs,h1.kept hb,h2.imp fun _ _ k=>k.kept hb⟩,h.XU.kept hb,h.pat.kept hb⟩
theorem ug.mono{base base':Nat}{w:World}{lv sv pv:Value}{ls:List (List Int)}{XU pat:List Int}(h:ug base w lv sv pv ls XU pat)(hb:base'<=base):ug base' w lv sv pv ls XU pat:=by
 obtain⟨vs,h1,h2⟩:=h.row;exact⟨⟨vs,h1.mono hb,h2.imp fun _ _ k=>k.mono hb⟩,h.XU.mono hb,h.pat.mono hb⟩
theorem ug.form{base:Nat}{w:World}{lv sv pv:Value}{ls:List (List Int)}{XU pat:List Int}(h:ug base w lv sv pv ls XU pat):(∃a n c,lv=.slice a n c)/\(∃a n c,sv=.slice a n c)/\(∃a n c,pv=.slice a n c):=by
 obtain⟨vs,h1,h2⟩:=h.row;exact⟨h1.form,h.XU.form,h.pat.form⟩
structure WE (P:Nat->Prop) (w:World) (lv:Value) (most Zm:Int) (sv pv:Value) (older:Bool) (h:Hi):Prop where
 ls:∃vs,EM P w lv vs/\Yh P w vs h.ls
 most:most=h.most
 Zm:Zm=h.Zm
 XU:Yn P w sv h.XU
 pat:Yn P w pv h.pat
 older:older=h.older
theorem WE.hir{P:Nat->Prop}{w:World}{lv:Value}{most Zm:Int}{sv pv:Value}{older:Bool}{h:Hi}(r:WE P w lv most Zm sv pv older h):Wh w lv most Zm sv pv older h:=by
 obtain⟨vs,h1,h2⟩:=r.ls;exact⟨⟨vs,h1.vs,h2.lists⟩,r.most,r.Zm,r.XU.sl,r.pat.sl,r.older⟩
theorem WE.keep{P:Nat->Prop}{w w':World}{lv:Value}{most Zm:Int}{sv pv:Value}{older:Bool}{h:Hi}(r:WE P w lv most Zm sv pv older h)(hc:∀p v,P p.block->w.cell? p=some v->w'.cell? p=some v):WE P w' lv most Zm sv pv older h:=by
 obtain⟨vs,h1,h2⟩:=r.ls;exact⟨⟨vs,h1.keep hc,h2.imp fun _ _ k=>k.keep hc⟩,r.most,r.Zm,r.XU.keep hc,r.pat.keep hc,r.older⟩
theorem WE.imp{P Q:Nat->Prop}{w:World}{lv:Value}{most Zm:Int}{sv pv:Value}{older:Bool}{h:Hi}(r:WE P w lv most Zm sv pv older h)(hi:∀k,P k->Q k):WE Q w lv most Zm sv pv older h:=by
 obtain⟨vs,h1,h2⟩:=r.ls;exact⟨⟨vs,h1.imp hi,h2.imp fun _ _ k=>k.imp hi⟩,r.most,r.Zm,r.XU.imp hi,r.pat.imp hi,r.older⟩
theorem WE.setCell{P:Nat->Prop}{w:World}{lv:Value}{most Zm:Int}{sv pv:Value}{older:Bool}{h:Hi}(r:WE P w lv most Zm sv pv older h){a:Addr}(ha:¬P a.block)(u:Value):WE P (w.setCell a u) lv most Zm sv pv older h:=
 r.keep fun p v hp hc=>Zr hc (fun e=>ha (e▸hp))
theorem WE.below{P:Nat->Prop}{w w':World}{lv:Value}{most Zm:Int}{sv pv:Value}{older:Bool}{h:Hi}(r:WE P w lv most Zm sv pv older h)(hb:Below w.heap.size w w'):WE P w' lv most Zm sv pv older h:=r.keep fun p v _ hc=>Zd hb p v hc
theorem WE.lt{P:Nat->Prop}{w:World}{lv:Value}{most Zm:Int}{sv pv:Value}{older:Bool}{h:Hi}(r:WE P w lv most Zm sv pv older h):WE (fun k=>P k/\k<w.heap.size) w lv most Zm sv pv older h:=by
 obtain⟨vs,h1,h2⟩:=r.ls;exact⟨⟨vs,h1.lt,h2.lt⟩,r.most,r.Zm,r.XU.lt,r.pat.lt,r.older⟩
theorem ug.hip{base:Nat}{w:World}{lv sv pv:Value}{ls:List (List Int)}{XU pat:List Int}(h:ug base w lv sv pv ls XU pat)(most Zm:Int)(older:Bool):WE (fun k=>base<=k) w lv most Zm sv pv older ⟨ls,most,Zm,XU,pat,older⟩:=by
 obtain⟨vs,h1,h2⟩:=h.row;exact⟨⟨vs,h1.vsp,⟨h2.1,fun i hi=>(h2.2 i hi).uX⟩⟩,rfl,rfl,h.XU.uX,h.pat.uX,rfl⟩
def JC(P:Nat->Prop)(h:Hi)(line:List Int)(E:Int)(w:World)(e:Ending)(w':World):Prop:=
 ∃lv sv pv nv,e=.returned (.tuple #[.agg (X7 lv h.most h.Zm sv pv h.older),nv,.int .i64 E])/\WE P w' lv h.most h.Zm sv pv h.older h/\Yn P w' nv line/\Below w.heap.size w w'
def hi0:Hi:=⟨[],0,0,[],[],false⟩
theorem xS(P:Nat->Prop)(w:World):WE P w (.slice none 0 0) 0 0 (.slice none 0 0) (.slice none 0 0) false hi0:=⟨⟨[],EM.nil _ _,⟨rfl,fun i hi=>by simp[hi0]at hi⟩⟩,rfl,rfl,Yn.nil _ _,Yn.nil _ _,rfl⟩
structure qP (h:Hi):Prop where
 LD:1<=h.most
 UQ:h.most<=50
 len:(h.ls.length:Int)<=h.most
 VA:0<=h.Zm
 Ut:h.Zm<=h.ls.length
 lines:∀i,i<h.ls.length->(rx h.ls i).length<=200
 XU:h.XU.length<=200
 pat:h.pat.length<=200
theorem qK{h:Hi}(hE:jF h=0):qP h:=by
 unfold jF at hE;split at hE
 ·simp at hE
 ·split at hE
  ·simp at hE
  ·rename_i h1 h2
   simp only[Bool.not_eq_true,Bool.or_eq_false_iff,Ke,ZG,List.any_eq_false,Xe]at h2;refine⟨QQ,QQ,QQ,QQ,QQ,fun i hi=>?_,QQ,QQ⟩;have:=h2.1.1 (rx h.ls i) (NP hi);omega
def Xl(h:Hi)(nn:Nat)(n:Int):Int:=if jF h≠0 then jF h else if 200<nn then 2 else if n<0\/999<n then 1 else 0
theorem Yx(lv:Value)(most Zm:Int)(sv pv:Value)(older:Bool)(h:Hi)(a:Option Addr)(nn c:Nat)(n:Int)(w:World)(r:Wh w lv most Zm sv pv older h):
  Calls Tryz.prog 114 #[.agg (X7 lv most Zm sv pv older),.slice a nn c,.int .i64 n] w fun e w'=>e=.returned (.int .i64 (Xl h nn n))/\Below w.heap.size w w':=by
 obtain⟨E,hE⟩:∃E,jF h=E:=⟨_,rfl⟩;have hR:Xl h nn n=if E≠0 then E else if 200<nn then 2 else if n<0\/999<n then 1 else 0:=by rw[Xl,hE]
 have HC:=Zy (VO lv most Zm sv pv older h);have HE:=Zy hE;have hrr:=r;obtain⟨⟨vs,hvs,hls⟩,-,-,Xr,Xt,-⟩:=r;obtain⟨la,ln,lc,rfl,-⟩:=hvs;obtain⟨sa,sn,sc,rfl,-⟩:=Xr;obtain⟨pa,pn,pc,rfl,-⟩:=Xt;have HRR:=Zy hrr;clear hls hE hrr;unfold X7 at *;have hB:=Za.new w #[.slice la ln lc,.int .i64 most,.int .i64 Zm,.slice sa sn sc,.slice pa pn pc,.bool older] 85;obtain⟨c0,c1,c2,c3,c4,c5⟩:=hB.six;have hacc:=ZR w (.cells #[.slice la ln lc,.int .i64 most,.int .i64 Zm,.slice sa sn sc,.slice pa pn pc,.bool older] 85);have QKZ:=Zy (HRR.out.below hacc);by_cases h0:E=0
 ·rw[if_neg Q7]at hR
  subst h0;rcases(show 200<nn\/(nn<=200/\n<0)\/(nn<=200/\0<=n/\999<n)\/(nn<=200/\0<=n/\n<=999) from QQ)with h1|⟨h1,h2⟩|⟨h1,h2,h3⟩|⟨h1,h2,h3⟩
  ·rw[if_pos h1]at hR
   have HR:=Zy hR;clear hR;exact QG9
  all_goals
   rw[if_neg QQ]at hR;first|rw[if_pos QQ]at hR|rw[if_neg QQ]at hR
   have HR:=Zy hR;clear hR;exact QG9
 ·rw[if_pos h0]at hR
  have HR:=Zy hR;have h0':(E !=0)=true:=Q7;clear hR h0;exact QG9
theorem Re{w:World}{B:Nat}{u0 u1 u2 u3 u4 u5:Value}{p:Addr}{v:Value}(hc:w.cell? p=some v)(hne:p.block≠B):
  ((((((w.setCell ⟨B,0,none⟩ u0).setCell ⟨B,1,none⟩ u1).setCell ⟨B,2,none⟩ u2).setCell ⟨B,3,none⟩ u3).setCell ⟨B,4,none⟩ u4).setCell ⟨B,5,none⟩ u5).cell? p=some v:=
 Zr (Zr (Zr (Zr (Zr (Zr hc hne) hne) hne) hne) hne) hne
theorem Jd{N B:Nat}{w0 w:World}{u0 u1 u2 u3 u4 u5:Value}(h:Below N w0 w)(hB:N<=B):
  Below N w0 ((((((w.setCell ⟨B,0,none⟩ u0).setCell ⟨B,1,none⟩ u1).setCell ⟨B,2,none⟩ u2).setCell ⟨B,3,none⟩ u3).setCell ⟨B,4,none⟩ u4).setCell ⟨B,5,none⟩ u5):=
 (((((h.setCell (p:=⟨B,0,none⟩) hB u0).setCell (p:=⟨B,1,none⟩) hB u1).setCell (p:=⟨B,2,none⟩) hB u2).setCell (p:=⟨B,3,none⟩) hB u3).setCell (p:=⟨B,4,none⟩) hB u4).setCell (p:=⟨B,5,none⟩) hB u5
theorem Yn.six{P:Nat->Prop}{w:World}{B:Nat}{u0 u1 u2 u3 u4 u5:Value}{v:Value}{xs:List Int}(h:Yn P w v xs)(hB:¬P B):
  Yn P ((((((w.setCell ⟨B,0,none⟩ u0).setCell ⟨B,1,none⟩ u1).setCell ⟨B,2,none⟩ u2).setCell ⟨B,3,none⟩ u3).setCell ⟨B,4,none⟩ u4).setCell ⟨B,5,none⟩ u5) v xs:=
 h.keep fun p v hp hc=>Re hc (fun e=>hB (e▸hp))
theorem WE.six{P:Nat->Prop}{w:World}{B:Nat}{u0 u1 u2 u3 u4 u5:Value}{lv:Value}{most Zm:Int}{sv pv:Value}{older:Bool}{h:Hi}(r:WE P w lv most Zm sv pv older h)(hB:¬P B):
  WE P ((((((w.setCell ⟨B,0,none⟩ u0).setCell ⟨B,1,none⟩ u1).setCell ⟨B,2,none⟩ u2).setCell ⟨B,3,none⟩ u3).setCell ⟨B,4,none⟩ u4).setCell ⟨B,5,none⟩ u5) lv most Zm sv pv older h:=
 r.keep fun p v hp hc=>Re hc (fun e=>hB (e▸hp))
theorem Za.six'{w:World}{B:Nat}{a0 a1 a2 a3 a4 a5:Value}{e:TypeId}(h:Za w B #[a0,a1,a2,a3,a4,a5] e)(u0 u1 u2 u3 u4 u5:Value):
  Za ((((((w.setCell ⟨B,0,none⟩ u0).setCell ⟨B,1,none⟩ u1).setCell ⟨B,2,none⟩ u2).setCell ⟨B,3,none⟩ u3).setCell ⟨B,4,none⟩ u4).setCell ⟨B,5,none⟩ u5) B #[u0,u1,u2,u3,u4,u5] e:=by
 have hG:=((((((h.set 0 u0).set 1 u1).set 2 u2).set 3 u3).set 4 u4).set 5 u5);simpa only[Zj,Zk,Zv]using hG
end Go.Proofs.YtmdnepkekekncaaGreat
