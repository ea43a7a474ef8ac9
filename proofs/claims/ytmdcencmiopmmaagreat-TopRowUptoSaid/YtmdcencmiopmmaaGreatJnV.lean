/- joined, no condition of its own. -/
import Derived.Test.YtmdcencmiopmmaaGreatJnJ1
import Derived.Test.YtmdcencmiopmmaaGreatJnJ28
import Derived.Test.YtmdcencmiopmmaaGreatJnJ39
import Derived.Test.YtmdcencmiopmmaaGreatJnJ21
import Derived.Test.YtmdcencmiopmmaaGreatJnJ22
import Derived.Test.YtmdcencmiopmmaaGreatJnJ33
import Derived.Test.YtmdcencmiopmmaaGreatJnJ36
import Derived.Test.YtmdcencmiopmmaaGreatJnJ37
import Derived.Test.YtmdcencmiopmmaaGreatJnJ38
import Derived.Test.YtmdcencmiopmmaaGreatJnJ26
import Derived.Test.YtmdcencmiopmmaaGreatJnJ8
set_option linter.unusedVariables false
set_option linter.unusedSimpArgs false
set_option maxRecDepth 100000
set_option maxHeartbeats 12000000
namespace Go.Proofs.YtmdcencmiopmmaaGreat
open Go.RowKit
theorem uI{l:List Int}{big:Bool}{q r:Int}(h:KH l big q r)(hq:0<q)(hql:q<=l.length):0<=r/\r<=q:=by
 obtain⟨k1,⟨h1,h2,h3⟩,h4⟩:=h;rcases h4 with⟨h5,rfl⟩|⟨h5,h6,h7,h8⟩
 ·omega
 ·refine⟨?_,QQ⟩
  rcases YU r 0 with hr|hr
  ·have:=h7 (-1) QQ QQ
   rw[UL (.inl QQ)]at this;have:=jG (l:=l) (big:=big) (k:=k1) h5 QQ;omega
  ·exact hr
section
variable {xs:List Int} {q:Nat} {mode key b:Int} (h1:xs.length<=200) (h2:q<=xs.length) (hm:mode=1\/mode=2)
include h1 h2 hm
theorem Rq:Jy xs q mode key b=(if 32<=key/\key≠127 then
  if mode=2/\(q:Int)<xs.length then(xs.take q++[key]++xs.drop (q+1),(q:Int)+1,0)
  else if xs.length=200 then([],0,8)else(xs.take q++[key]++xs.drop q,(q:Int)+1,0)
 else if key≠8/\key≠127/\key≠21/\key≠23 then([],0,9)
 else if(q:Int)=0 then([],0,5)
 else if key=21 then(xs.drop q,0,0)
 else if key=23 then(xs.take b.toNat++xs.drop q,b,0)
 else if mode=2 then(xs,(q:Int)-1,0)
 else(xs.take (q-1)++xs.drop q,(q:Int)-1,0)):=by
 unfold Jy;rw[if_neg QQ,if_neg QQ,Xq]
end
theorem CY(ad:Addr)(n c q:Nat)(xs:List Int)(mode key:Int)(w:World)(ha:Ints w (some ad) xs)(hn:xs.length=n)(hc:n<=c)(hc2:c<=9223372036854775807)(dZ:n<=200)(hqn:q<=n)(hmode:mode=1\/mode=2):
  Calls Tryz.prog 136 #[.agg #[.slice (some ad) n c,.int .i64 (q:Int)],.int .i64 mode,.int .i64 key] w (Yp True (KH xs false q) xs q mode key w):=by
 have HKH:=Zy (fun b=>Rq (xs:=xs) (q:=q) (mode:=mode) (key:=key) (b:=b) QQ QQ hmode);have hub:U1 xs q mode key->key=23:=fun h=>h.2.2.2.2
 have QJB:U1 xs q mode key->0<q:=fun h=>by have:=h.2.1;omega
 have HN:=Zy hn;clear hn;have hb:=Zn w (.cells #[.slice (some ad) n c,.int .i64 (q:Int)] 30) (.cells #[.slice none 0 0,.int .i64 0] 30);have hA:=Za.new (w.alloc (.cells #[.slice (some ad) n c,.int .i64 (q:Int)] 30)) #[.slice none 0 0,.int .i64 0] 30;have hP:=(Za.new w #[.slice (some ad) n c,.int .i64 (q:Int)] 30).alloc (.cells #[.slice none 0 0,.int .i64 0] 30);rw[Zv]at hA;go_enter Tryz.func136,Tryz.ntmps136
 go_upto_region 4 with fail
 obtain⟨w2,hW2⟩:∃w2,w2=(w.alloc (.cells #[.slice (some ad) n c,.int .i64 (q:Int)] 30)).alloc (.cells #[.slice none 0 0,.int .i64 0] 30):=⟨_,rfl⟩;rw[<-hW2]at hb hA hP ⊢;clear hW2;have ha2:=ha.below hb;obtain⟨c0,c1,-,-⟩:=hP.two;obtain⟨d0,d1,f0,f1⟩:=hA.two;have hz:=hA.lt
 go_cut [34] (fun v wx=>v=.bool false/\wx=w2)
 case first=>
  rcases hmode with rfl|rfl
  all_goals
   go_wp2;go_meet;exact⟨QY,rfl⟩
 obtain⟨rfl,rfl⟩:=hcut;go_upto_region 6 with fail
 go_quiet (fail)
 go_upto_block 0 with fail
 have hb0:=below_drewN (ZH wc.heap.size wc) nq
 go_cut [9,10,11] (fun f t x wx=>∃(fn tn:Nat) (a3:Option Addr) (n3 c3:Nat),f=.int .i64 (fn:Int)/\t=.int .i64 (tn:Int)/\x=.slice a3 n3 c3/\Ready w wc wx (KH xs false q) (some ad) n c xs q mode key fn tn a3 n3 c3)
 case first=>
  by_cases hpr:32<=key/\key≠127
  ·have HK1:=Zy (fun b=>by rw[HKH.out b,if_pos hpr]:∀b,Jy xs q mode key b=if mode=2/\(q:Int)<xs.length then(xs.take q++[key]++xs.drop (q+1),(q:Int)+1,0)else if xs.length=200 then([],0,8)else(xs.take q++[key]++xs.drop q,(q:Int)+1,0))
   obtain⟨k1,k2⟩:=hpr;have g1:(key !=127)=true:=QBB;have hnb:¬U1 xs q mode key:=fun h=>QBR
   have DZ:=bn (wc.drewN nq) key;by_cases hov:mode=2/\(q:Int)<(n:Int)
   ·have HK:=Zy (show Jy xs q mode key 0=(xs.take q++[key]++xs.drop (q+1),(q:Int)+((1:Nat):Int),0) by rw[HK1.out,if_pos QBs];rfl)
    obtain⟨m1,m2⟩:=hov;have g2:(mode==2)=true:=by simpa using m1
    clear hmode m1;go_wp2;go_meet;exact⟨q,q+1,_,1,1,rfl,Qk,rfl,QQ,QQ,⟨[key],0,DZ,rfl,HK.out,fun h=>absurd h hnb⟩,QQ,(fun h=>QBQ),(hP.drewN nq).alloc _,(hA.drewN nq).alloc _,hb0.alloc hb0.size _⟩
   ·by_cases h2:n=200
    ·have HK:=Zy (show Jy xs q mode key 0=([],0,8) by rw[HK1.out,if_neg QBs,if_pos (by rw[HN.out];exact h2)])
     have g5:((n:Int)==200)=true:=QY;have hb4:=hb0.alloc hb0.size (.cells #[.int .i64 key] 3);have UY:=(hA.drewN nq).alloc (.cells #[.int .i64 key] 3);obtain⟨e0,e1,e2,e3⟩:=UY.two;obtain⟨y0,y1,-,-⟩:=Za.two ((UY.set 0 (.slice none 0 0)).set 1 (.int .i64 0));have HBZ:=Zy ((ZE hb hb.size hb4).setCell (p:=⟨w.heap.size+1,0,none⟩) (ZA _) (.slice none 0 0) |>.setCell (p:=⟨w.heap.size+1,1,none⟩) (ZA _) (.int .i64 0));have i3:(n:Int)=200:=QQ;by_cases hm2:mode=2
     ·have g2:(mode==2)=true:=by simpa using hm2
      have g3:¬(q:Int)<(n:Int):=fun h=>hov ⟨hm2,h⟩
      have g4:¬q<n:=QQ;exact QEE
     ·have g2:(mode==2)=false:=by simpa using hm2
      exact QEE
    ·have HK:=Zy (show Jy xs q mode key 0=(xs.take q++[key]++xs.drop q,(q:Int)+((1:Nat):Int),0) by rw[HK1.out,if_neg QBs,if_neg (by rw[HN.out];exact h2)];rfl)
     have i2:((n:Int)==200)=false:=QY;by_cases hm2:mode=2
     ·have g2:(mode==2)=true:=by simpa using hm2
      have g4:q=n:=by have:¬(q:Int)<(n:Int):=fun h=>hov ⟨hm2,h⟩;omega
      subst g4;exact QEx
     ·have g2:(mode==2)=false:=by simpa using hm2
      exact QEx
  ·have HK1:=Zy (fun b=>by rw[HKH.out b,if_neg hpr]:∀b,Jy xs q mode key b=if key≠8/\key≠127/\key≠21/\key≠23 then([],0,9)else if(q:Int)=0 then([],0,5)else if key=21 then(xs.drop q,0,0)else if key=23 then(xs.take b.toNat++xs.drop q,b,0)else if mode=2 then(xs,(q:Int)-1,0)else(xs.take (q-1)++xs.drop q,(q:Int)-1,0))
   obtain⟨y0,y1,-,-⟩:=Za.two (((hA.drewN nq).set 0 (.slice none 0 0)).set 1 (.int .i64 0));have hbz:=(below_drewN hb nq).setCell (p:=⟨w.heap.size+1,0,none⟩) (ZA _) (.slice none 0 0) |>.setCell (p:=⟨w.heap.size+1,1,none⟩) (ZA _) (.int .i64 0)
   by_cases h4:key≠8/\key≠127/\key≠21/\key≠23
   ·have HK:=Zy (show Jy xs q mode key 0=([],0,9) by rw[HK1.out,if_pos h4])
    have hnb:¬U1 xs q mode key:=fun h=>QBR
    obtain⟨k1,k2,k3,k4⟩:=h4;have g1:(key !=8)=true:=by simpa using k1
    have g2:(key !=127)=true:=QBB;have g3:(key !=21)=true:=by simpa using k3
    have g4:(key !=23)=true:=by simpa using k4
    have k5:¬32<=key:=fun h=>hpr ⟨h,k2⟩
    clear hpr;go_wp2;refine ZC (v:=.tuple #[.agg #[.slice none 0 0,.int .i64 0],.int .i64 9]) QA rfl ?_;exact Yp.of HK.out (fun h=>absurd h hnb) (.inl rfl) rfl QQ hbz
   ·have h5:key=8\/key=127\/key=21\/key=23:=by omega
    by_cases hq0:q=0
    ·subst hq0
     have HK:=Zy (show Jy xs (0:Nat) mode key 0=([],0,5) by rw[HK1.out,if_neg h4];exact if_pos rfl);have hnb:¬U1 xs (0:Nat) mode key:=fun h=>by have:=QJB h;omega
     clear hpr h4;rcases h5 with rfl|rfl|rfl|rfl
     all_goals
      go_wp2;refine ZC (v:=.tuple #[.agg #[.slice none 0 0,.int .i64 0],.int .i64 5]) QA rfl ?_;exact Yp.of HK.out (fun h=>absurd h hnb) (.inl rfl) rfl QQ hbz
    ·have hqi:¬(q:Int)=0:=by omega
     have FR:=Zy (fun b=>by rw[HK1.out b,if_neg h4,if_neg hqi]:∀b,Jy xs q mode key b=if key=21 then(xs.drop q,0,0)else if key=23 then(xs.take b.toNat++xs.drop q,b,0)else if mode=2 then(xs,(q:Int)-1,0)else(xs.take (q-1)++xs.drop q,(q:Int)-1,0));by_cases h21:key=21
     ·have HK:=Zy (show Jy xs q mode key 0=(xs.take 0++[]++xs.drop q,((0:Nat):Int)+((0:Nat):Int),0) by rw[FR.out,if_pos h21];simp)
      subst h21;have hnb:¬U1 xs q mode 21:=fun h=>QBR
      clear hpr h4 h5;go_wp2;go_meet;exact⟨0,q,_,0,0,rfl,rfl,rfl,QQ,QQ,⟨[],0,.inl rfl,rfl,HK.out,fun h=>absurd h hnb⟩,QQ,fun _=>rfl,hP.drewN nq,hA.drewN nq,hb0⟩
     ·by_cases h23:key=23
      ·have HK3:=Zy (fun b=>by rw[FR.out b,if_neg h21,if_pos h23]:∀b,Jy xs q mode key b=(xs.take b.toNat++xs.drop q,b,0))
       subst h23;clear hpr h4 h5 h21;go_wp2_with fail
       refine(xG (some ad) n c xs false (q:Int) _ (ha2.drewN nq) HN.out QQ QQ QQ).mono ?_;rintro e w5 ⟨r,rfl,hwb,hb5⟩;obtain⟨hr0,hr1⟩:=uI hwb QQ QB;obtain⟨rn,rfl⟩:=Z9 hr0;have HK:=Zy (show Jy xs q mode 23 (rn:Int)=(xs.take rn++[]++xs.drop q,(rn:Int)+((0:Nat):Int),0) by rw[HK3.out];simp);have HWB:=Zy hwb;clear hwb;have hb6:Below wc.heap.size wc w5:=ZE hb0 hb0.size hb5;go_wp2;go_meet;exact⟨rn,q,_,0,0,rfl,rfl,rfl,QQ,QQ,⟨[],rn,.inl rfl,rfl,HK.out,fun _=>HWB.out⟩,QQ,fun _=>rfl,hP.below hb6 hP.lt,hA.below hb6 hA.lt,hb6⟩
      ·have h8:key=8\/key=127:=by omega
       have hnb:¬U1 xs q mode key:=fun h=>QBR
       by_cases hm2:mode=2
       ·have HK:=Zy (show Jy xs q mode key 0=(xs,(q:Int)-1,0) by rw[FR.out,if_neg h21,if_neg h23,if_pos hm2])
        have g2:(mode==2)=true:=by simpa using hm2
        clear hpr h4 h5 h21 h23 hmode hm2;rcases h8 with rfl|rfl
        all_goals
         go_wp2_with fail
         refine(Zw (some ad) n c xs _ (ha2.drewN nq) HN.out QQ (fun h=>QBQ)).mono ?_;rintro e w5 ⟨v5,rfl,o5,hb5⟩;obtain⟨a5,n5,c5,rfl⟩:=o5.form;have hb6:Below wc.heap.size wc w5:=ZE hb0 hb0.size hb5;have Kn:=hA.below hb6 hA.lt;obtain⟨e0,e1,e2,e3⟩:=Kn.two;go_wp2;obtain⟨z0,z1,-,-⟩:=Za.two ((Kn.set 0 (.slice a5 n5 c5)).set 1 (.int .i64 ((q:Int)-1)));refine ZC (v:=.tuple #[.agg #[.slice a5 n5 c5,.int .i64 ((q:Int)-1)],.int .i64 0]) (by simp[results,Tryz.results136,go_sem,z0,z1]) rfl ?_;have o6:=(o5.setCell (a:=⟨w.heap.size+1,0,none⟩) (show w.heap.size+1<wc.heap.size from hz) (.slice a5 n5 c5)).setCell (a:=⟨w.heap.size+1,1,none⟩) (show w.heap.size+1<wc.heap.size from hz) (.int .i64 ((q:Int)-1));exact Yp.of (hcap:=o6.QXV (show w.heap.size<=wc.heap.size from hb.size)) HK.out (fun h=>absurd h hnb) o6.get.2.1 o6.get.1 (by have:=o6.get.1;have:=HN.out;omega) ((ZE hb hb.size hb6).setCell (p:=⟨w.heap.size+1,0,none⟩) (ZA _) _ |>.setCell (p:=⟨w.heap.size+1,1,none⟩) (ZA _) _)
       ·have HK:=Zy (show Jy xs q mode key 0=(xs.take (q-1)++[]++xs.drop q,((q-1:Nat):Int)+((0:Nat):Int),0) by rw[FR.out,if_neg h21,if_neg h23,if_neg hm2];simp;omega)
        have g2:(mode==2)=false:=by simpa using hm2
        clear hpr h4 h5 h21 h23 hmode hm2;rcases h8 with rfl|rfl
        all_goals
         go_wp2;go_meet;exact⟨q-1,q,_,0,0,Qk,rfl,rfl,QQ,QQ,⟨[],0,.inl rfl,rfl,HK.out,fun h=>absurd h hnb⟩,QQ,fun _=>rfl,hP.drewN nq,hA.drewN nq,hb0⟩
 case rest=>
  obtain⟨fn,tn,a3,n3,c3,rfl,rfl,rfl,hR⟩:=hcut;have HR:=Zy hR;have hbx:=ZE hb hb.size HR.out.YX;have hac:=ha2.below HR.out.YX;clear c0 c1 d0 d1 f0 f1 hP hA hz hb ha ha2 hb0;obtain⟨c0,c1,-,-⟩:=hR.box.two;have hres:=hR.res;obtain⟨d0,d1,f0,f1⟩:=hres.two;have hz:=hres.lt;have hf:=hR.f1;have ht:=hR.t1;have kZ:=hR.top;clear hR;go_upto_region 25 with fail
  obtain⟨ys,b,DZ,hl3,hkey,hbk⟩:=HR.out.pieces;have H3:=Zy HR.out.nil;have HL3:=Zy hl3;have HK:=Zy hkey;have HBK:=Zy hbk;clear hl3 hkey hbk HR HKH hub QJB;have L1:=Zy (show(xs.take fn).length=fn by rw[Zp,HN.out];omega);have L2:=Zy (show(xs.drop tn).length=n-tn by rw[Xy,HN.out]);have hfc:fn<=c:=QQ;have i1:(fn:Int)<=(c:Int):=QQ;obtain⟨aa,Ob⟩:∃aa,(if c=tn then some ad else some (ad.add tn))=aa:=⟨_,rfl⟩;have hI2:Ints wc aa (xs.drop tn):=by
   rw[<-Ob];split
   ·exact .inl (List.drop_eq_nil_of_le QB)
   ·exact hac.tN tn
  have hz2:aa=none->n-tn=0:=by
   rw[<-Ob];intro h;split at h<;>cases h
  have IK:=(Nu wc 26 c c3 (c-tn) (hac.take fn) DZ hI2 L1.out HL3.out L2.out QQ QQ QQ (fun h=>QBQ) H3.out hz2).drew;have hck:=ZT wc (.cells #[.slice (some ad) fn c,.slice a3 n3 c3,.slice aa (n-tn) (c-tn)] 26);have HKL:=Zy (show((xs.take fn++ys++xs.drop tn).length)=fn+n3+(n-tn) by rw[Zd,Zd,L1.out,HL3.out,L2.out]);clear hI2 DZ hac hz2;have iw:IntKind.i64.wrap ((fn:Int)+(n3:Int))=(fn:Int)+(n3:Int):=QAz
  go_region_law (first|(go_simp;go_at_call 200;refine(Vi _ 3 _ _ _ _ _ IK QQ).mono ?_;rintro e w8 ⟨v8,rfl,o8,XF⟩;obtain⟨a8,n8,c8,rfl⟩:=o8.form;have IX:Za w8 (w.heap.size+1) #[.slice none 0 0,.int .i64 0] 30:=Za.below ((hres.alloc _).drew) XF (by show _<(wc.alloc _).heap.size;rw[Zv];omega);obtain⟨kd0,kd1,kf0,kf1⟩:=IX.two))
  all_goals
   have Jv:Below wc.heap.size wc w8:=hck.drew.trans (XF.mono (by show _<=(wc.alloc _).heap.size;rw[Zv];omega));rw[Mc]at o8;have hG:=((IX.set 0 (.slice a8 n8 c8)).set 1 (.int .i64 ((fn:Int)+(n3:Int))));obtain⟨y0,y1,-,-⟩:=Za.two hG;have o8:=o8.mono (base':=wc.heap.size+1) (by show wc.heap.size+1<=(wc.alloc _).heap.size;rw[Zv];omega);have o9:=(o8.setCell (a:=⟨w.heap.size+1,0,none⟩) QAe (.slice a8 n8 c8)).setCell (a:=⟨w.heap.size+1,1,none⟩) QAe (.int .i64 ((fn:Int)+(n3:Int)));go_simp;go_wp2;refine ZC (v:=.tuple #[.agg #[.slice a8 n8 c8,.int .i64 ((fn:Int)+(n3:Int))],.int .i64 0]) QA rfl ?_;refine Yp.of (hcap:=o9.QXV (by have:=hbx.size;omega)) HK.out HBK.out o9.get.2.1 o9.get.1 (by have:=o9.get.1;have:=HKL.out;omega) ?_;exact QFV
theorem MP{xs:List Int}{p mode key b:Int}(h:200<xs.length):Jy xs p mode key b=([],0,2):=by unfold Jy;rw[if_pos h]
theorem bN{xs:List Int}{p mode key b:Int}(h:xs.length<=200)(h2:p<0\/(xs.length:Int)<p\/(mode≠1/\mode≠2)):Jy xs p mode key b=([],0,1):=by unfold Jy;rw[if_neg QQ,if_pos h2]
theorem Gj{xs:List Int}{p mode key:Int}(h:200<xs.length):¬U1 xs p mode key:=fun h'=>by have:=h'.1;omega
theorem PK{xs:List Int}{p mode key:Int}(h2:p<0\/(xs.length:Int)<p\/(mode≠1/\mode≠2)):¬U1 xs p mode key:=fun h'=>by
 obtain⟨_,h3,h4,h5,_⟩:=h';omega
theorem Ae(a:Option Addr)(n c:Nat)(xs:List Int)(p mode key:Int)(w:World)(hn:xs.length=n)(h:200<n)(h3:n<=9223372036854775807):
  Calls Tryz.prog 136 #[.agg #[.slice a n c,.int .i64 p],.int .i64 mode,.int .i64 key] w (Yp True (KH xs false p) xs p mode key w):=by
 have HK:=Zy (MP (xs:=xs) (p:=p) (mode:=mode) (key:=key) (b:=0) QQ);have HU:=Zy (Gj (xs:=xs) (p:=p) (mode:=mode) (key:=key) QQ);have hb:=Zn w (.cells #[.slice a n c,.int .i64 p] 30) (.cells #[.slice none 0 0,.int .i64 0] 30);have hA:=Za.new (w.alloc (.cells #[.slice a n c,.int .i64 p] 30)) #[.slice none 0 0,.int .i64 0] 30;rw[Zv]at hA;obtain⟨y0,y1,-,-⟩:=hA.two;clear hn;go_enter Tryz.func136,Tryz.ntmps136
 go_wp2;refine ZC (v:=.tuple #[.agg #[.slice none 0 0,.int .i64 0],.int .i64 2]) QA rfl ?_;exact Yp.of HK.out (fun h=>absurd h HU.out) (.inl rfl) rfl QQ hb
theorem Fu(a:Option Addr)(n c:Nat)(xs:List Int)(p mode key:Int)(w:World)(hn:xs.length=n)(h:n<=200)(hbad:p<0\/(n:Int)<p\/(mode≠1/\mode≠2)):
  Calls Tryz.prog 136 #[.agg #[.slice a n c,.int .i64 p],.int .i64 mode,.int .i64 key] w (Yp True (KH xs false p) xs p mode key w):=by
 have HK:=Zy (bN (xs:=xs) (p:=p) (mode:=mode) (key:=key) (b:=0) QQ (by rw[hn];exact hbad));have HU:=Zy (PK (xs:=xs) (p:=p) (mode:=mode) (key:=key) (by rw[hn];exact hbad));have hb:=Zn w (.cells #[.slice a n c,.int .i64 p] 30) (.cells #[.slice none 0 0,.int .i64 0] 30);have hA:=Za.new (w.alloc (.cells #[.slice a n c,.int .i64 p] 30)) #[.slice none 0 0,.int .i64 0] 30;rw[Zv]at hA;obtain⟨y0,y1,-,-⟩:=hA.two;clear hn;by_cases e1:p<0
 ·clear hbad
  exact QDe
 ·by_cases e2:(n:Int)<p
  ·clear hbad
   exact QDe
  ·obtain⟨m1,m2⟩:mode≠1/\mode≠2:=by omega
   have g1:(mode !=1)=true:=by simpa using m1
   have g2:(mode !=2)=true:=by simpa using m2
   clear hbad;exact QDe
theorem eX(a:Option Addr)(n c:Nat)(xs:List Int)(p mode key:Int)(w:World)(ha:Ints w a xs)(hn:xs.length=n)(hc:n<=c)(hc2:c<=9223372036854775807)(h0:a=none->c=0):
  Calls Tryz.prog 136 #[.agg #[.slice a n c,.int .i64 p],.int .i64 mode,.int .i64 key] w (Yp True (KH xs false p) xs p mode key w):=by
 by_cases h1:200<n
 ·exact Ae a n c xs p mode key w hn h1 QQ
 ·by_cases h2:p<0\/(n:Int)<p\/(mode≠1/\mode≠2)
  ·exact Fu a n c xs p mode key w hn QQ h2
  ·obtain⟨q,rfl⟩:=Z9 (show 0<=p from QQ)
   rcases a with _|ad
   ·obtain rfl:c=0:=h0 rfl
    obtain rfl:n=0:=QQ;obtain rfl:xs=[]:=Ze hn;obtain rfl:q=0:=QQ;exact Fj mode key w QQ
   ·exact CY ad n c q xs mode key w ha hn hc hc2 QQ QQ QQ
theorem Br(lv:Value)(most Zi:Int)(sv pv:Value)(older:Bool)(ls:List (List Int))(M W:Int)(XQ pat:List Int)(O:Bool)(a:Option Addr)(nn c:Nat)(w:World)(r:WB w lv most Zi sv pv older ⟨ls,M,W,XQ,pat,O⟩)(xs:List Int)(hE:xC ⟨ls,M,W,XQ,pat,O⟩=0)(hx:Ints w a xs)(JK:xs.length=nn)(hx0:a=none->nn=0)(hnn:nn<=200)(h0:0<nn):
  Calls Tryz.prog 133 #[.agg (X3 lv most Zi sv pv older),.slice a nn c] w (LX (fun k=>w.heap.size<=k) (Wp ⟨ls,M,W,XQ,pat,O⟩ xs) 0 w):=by
 have hok:=We hE;have HE:=Zy hE;have Ja:=Zy r;have hm1:1<=M:=hok.Hm;have hm2:M<=50:=hok.UQ;have hlm:(ls.length:Int)<=M:=hok.len;have jf:=Zy JK;have HX0:=Zy hx0;have Nh:=Zy hok.lines;have fO:=Zy hok.XQ;have fP:=Zy hok.pat;clear hE hok JK hx0;obtain⟨⟨vs,hvs,hls⟩,h1,h2,Xl,Xm,h3⟩:=r;simp only at hls h1 h2 h3 Xl Xm;obtain rfl:M=most:=h1.symm;obtain rfl:W=Zi:=h2.symm;obtain rfl:O=older:=h3.symm;obtain⟨la,ln,lc,rfl,hl1,hl2,hl3,hl4,hl5⟩:=hvs;obtain⟨sa,sn,sc,rfl,hs1,hs2,hs3,hs4,hs5⟩:=Xl;obtain⟨pa,pn,pc,rfl,hp1,hp2,hp3,xQ,Uv⟩:=Xm;have hll:ls.length=ln:=Qq;have V7:=Zy (fun W' r=>Vz (.slice la ln lc) M W (.slice sa sn sc) (.slice pa pn pc) O ⟨ls,M,W,XQ,pat,O⟩ W' r);have jg:=Zy (fun W' r=>Ki (.slice la ln lc) M W (.slice sa sn sc) (.slice pa pn pc) O ⟨ls,M,W,XQ,pat,O⟩ W' r (by show ls.length<=50;omega) Nh.out fO.out fP.out);rw[hll]at hlm;obtain⟨n,rfl⟩:∃n:Nat,M=(n:Int):=⟨M.toNat,QQ⟩;have hn1:1<=n:=QQ;have QZD:n<=50:=QQ;have QjO:ln<=n:=QQ;have Mh:nn<=17592186044416:=QQ;clear hm1 hm2 hlm;have kT:=Zy hll;unfold X3 at *;have hB:=(Za.new w #[.slice la ln lc,.int .i64 (n:Int),.int .i64 W,.slice sa sn sc,.slice pa pn pc,.bool O] 65).alloc (.cells #[.slice none 0 0,.int .i64 0,.int .i64 0,.slice none 0 0,.slice none 0 0,.bool false] 65);have hR:=Za.new (w.alloc (.cells #[.slice la ln lc,.int .i64 (n:Int),.int .i64 W,.slice sa sn sc,.slice pa pn pc,.bool O] 65)) #[.slice none 0 0,.int .i64 0,.int .i64 0,.slice none 0 0,.slice none 0 0,.bool false] 65;rw[Zv]at hR;have hacc:=Zn w (.cells #[.slice la ln lc,.int .i64 (n:Int),.int .i64 W,.slice sa sn sc,.slice pa pn pc,.bool O] 65) (.cells #[.slice none 0 0,.int .i64 0,.int .i64 0,.slice none 0 0,.slice none 0 0,.bool false] 65);have hsz:w.heap.size+2<=((w.alloc (.cells #[.slice la ln lc,.int .i64 (n:Int),.int .i64 W,.slice sa sn sc,.slice pa pn pc,.bool O] 65)).alloc (.cells #[.slice none 0 0,.int .i64 0,.int .i64 0,.slice none 0 0,.slice none 0 0,.bool false] 65)).heap.size:=QJ;have HR1:=Zy (Ja.out.below hacc);clear hs1 hp1 hl1 hl5 hs5 Uv hll hls Ja;go_enter Tryz.func133,Tryz.ntmps133
 go_upto_region 1 with fail
 change Code.wp _ _ _ _ ((w.alloc (.cells #[.slice la ln lc,.int .i64 (n:Int),.int .i64 W,.slice sa sn sc,.slice pa pn pc,.bool O] 65)).alloc (.cells #[.slice none 0 0,.int .i64 0,.int .i64 0,.slice none 0 0,.slice none 0 0,.bool false] 65));generalize((w.alloc (.cells #[.slice la ln lc,.int .i64 (n:Int),.int .i64 W,.slice sa sn sc,.slice pa pn pc,.bool O] 65)).alloc (.cells #[.slice none 0 0,.int .i64 0,.int .i64 0,.slice none 0 0,.slice none 0 0,.bool false] 65))=w1 at *;obtain⟨c0,c1,c2,c3,c4,c5⟩:=hB.six;go_wp2_with ((go_at_call 194);refine(V7.out _ HR1.out).mono ?_;rintro e wc ⟨rfl,hb2⟩;rw[HE.out];have hB2:=hB.below hb2 hB.lt;obtain⟨d0,d1,d2,d3,d4,d5⟩:=hB2.six;have hR2:=hR.below hb2 hR.lt;obtain⟨p0,p1,p2,p3,p4,p5⟩:=hR2.six;obtain⟨t0,t1,t2,t3,t4,t5⟩:=hR2.Yy;have Z4:=ZE hacc QQ hb2;have hlt2:=hB2.lt;have hz2:=hb2.size;have HR2:=Zy (HR1.out.below hb2))
 refine(jg.out _ HR2.out).mono ?_;rintro e w2 ⟨Ov,lQ,lC,vs2,rfl,ho2,qP,os2,EE,hb3⟩;obtain⟨ra,rn,rc,rfl⟩:=ho2.form;obtain⟨ta,tn,tc,rfl⟩:=os2.form;obtain⟨ua,un,uc,rfl⟩:=EE.form;have Ji:=ZE Z4 QQ hb3;have hB3:=hB2.below hb3 hB2.lt;have Vr:=hR2.below hb3 hR2.lt;have hz3:=hb3.size;have cO:=ho2.mono (base':=w.heap.size+2) QQ;have IY:=qP.imp (base':=w.heap.size+2) fun _ _ k=>k.mono QQ
 have bW:=EE.mono (base':=w.heap.size+2) QQ;have xF:=Zy cO;have BQ:=Zy IY;have fT:=Zy bW;simp only[X3];clear ho2 qP os2 EE cO IY bW c0 c1 c2 c3 c4 c5 d0 d1 d2 d3 d4 d5 p0 p1 p2 p3 p4 p5 t0 t1 t2 t3 t4 t5;have nA:=Za.new w2 #[.slice ra rn rc,.int .i64 (n:Int),.int .i64 W,.slice ta tn tc,.slice ua un uc,.bool O] 65;have hk3:=ZT w2 (.cells #[.slice ra rn rc,.int .i64 (n:Int),.int .i64 W,.slice ta tn tc,.slice ua un uc,.bool O] 65);have Ct:(w2.alloc (.cells #[.slice ra rn rc,.int .i64 (n:Int),.int .i64 W,.slice ta tn tc,.slice ua un uc,.bool O] 65)).heap.size=w2.heap.size+1:=QJ;have hB4:=hB3.alloc (.cells #[.slice ra rn rc,.int .i64 (n:Int),.int .i64 W,.slice ta tn tc,.slice ua un uc,.bool O] 65);have hR4:=Vr.alloc (.cells #[.slice ra rn rc,.int .i64 (n:Int),.int .i64 W,.slice ta tn tc,.slice ua un uc,.bool O] 65);go_upto_region 7 with fail
 change Code.wp _ _ _ _ (w2.alloc (.cells #[.slice ra rn rc,.int .i64 (n:Int),.int .i64 W,.slice ta tn tc,.slice ua un uc,.bool O] 65));generalize(w2.alloc (.cells #[.slice ra rn rc,.int .i64 (n:Int),.int .i64 W,.slice ta tn tc,.slice ua un uc,.bool O] 65))=w3 at *;have Vy:=ZE Ji QQ hk3;obtain⟨c0,c1,c2,c3,c4,c5⟩:=hB4.six;go_wp2_with fail
 refine(O8 n hn1 QQ w3).mono ?_;rintro e w4 ⟨p,g,rfl,hring,hp3,hg3,hb4⟩;have Y7:=ZE Vy QQ hb4;have Ry:=hb4.size;have hN4:=nA.below hb4 nA.lt;have JS:=hB4.below hb4 hB4.lt;have KF:=hR4.below hb4 hR4.lt;have hk4:Below w2.heap.size w2 w4:=ZE hk3 QQ hb4;have HO4:=Zy (xF.out.kept hk4);have HRG:=Zy hring;have hpg:p≠g:=hring.2.2.2.1;have hpl:=hring.1.lt;have hgl:=hring.2.1.lt;have hx4:=hx.below Y7;have hrn:vs2.length=rn:=xF.out.vs.get.1;have hrl:vs2.length=ls.length:=BQ.out.1;have QJS:rn=ln:=by rw[<-kT.out];omega
 have QK4:=Zy (show vs2.length=ln from QQ);have Qke:=Zy QJS;have QjE:rn<=n:=QQ;clear hring hrn hrl QJS c0 c1 c2 c3 c4 c5 JS;obtain⟨n0,n1,n2,n3,n4,n5⟩:=hN4.six;go_upto_region 9 with fail
 have sS:∀a n c,Ip [Value.slice a n c]:=fun a n c i hi=>by
  obtain rfl:i=0:=Qa;exact⟨a,n,c,rfl⟩
 have QqM:=Zy sS;have HLEN:=Zy (show vs2.length+1<=4398046511104 by rw[QK4.out];omega);clear sS
 first
 | go_region_law (first|(go_simp;go_at_call 43;((with_reducible refine(Zw a nn c xs w4.drew hx4.drew jf.out Mh HX0.out).mono ?_));rintro e w5 ⟨v5,rfl,QQo,hb5⟩;obtain⟨a5,n5',R5,rfl⟩:=QQo.form;have hN5:=hN4.drew.below hb5 hN4.lt;obtain⟨f0,f1,f2,f3,f4,f5⟩:=hN5.six;obtain⟨fa0,fa1,fa2,fa3,fa4,fa5⟩:=(hN5.alloc (.cells #[.slice a5 n5' R5] 26)).six;have SC:=Zy (XT.kept (w:=w4.drew) (HO4.out.drew) hb5))|(refine D7 QAQ _ _ rfl (w.heap.size+2) (.slice ra rn rc) vs2 [.slice a5 n5' R5] _ 1 1 rfl rfl (SC.out.alloc _) (JE w5 [.slice a5 n5' R5] _) (QqM.out _ _ _) rfl HLEN.out (by have:=hb5.size;simp at this ⊢;omega) ?_;intro v9 w9 o9 Xe QKJ;obtain⟨a9,n9,c9,rfl⟩:=o9.form))
 | fail "region"
 all_goals
  have RH:Below w4.heap.size w4 w5:=ZE (ZH _ _).drew (ZB _) hb5;have mh:=RH.size;have hz7:(w5.alloc (.cells #[.slice a5 n5' R5] 26)).heap.size=w5.heap.size+1:=QJ;have QJo:some p≠(Value.slice ra rn rc).ownBlock:=xF.out.QQ3 QQ;have QJr:some g≠(Value.slice ra rn rc).ownBlock:=xF.out.QQ3 QQ;have QJp:some w2.heap.size≠(Value.slice ra rn rc).ownBlock:=xF.out.QQ3 (ZB _);have QJn:some (w.heap.size+1)≠(Value.slice ra rn rc).ownBlock:=xF.out.ne QQ;have QqT:=Zy (show Ux w9 p g n 0 0 (List.replicate n (.slice none 0 0))from⟨((HRG.out.1.below RH hpl).alloc _).grown Xe QJo,((HRG.out.2.1.below RH hgl).alloc _).grown Xe QJr,HRG.out.2.2⟩);have hN9:=(hN5.alloc (.cells #[.slice a5 n5' R5] 26)).grown Xe QJp;have BK:=((KF.below RH QQ).alloc (.cells #[.slice a5 n5' R5] 26)).grown Xe QJn;have dD:Below w.heap.size w w9:=((ZE Y7 QQ RH).alloc QQ (.cells #[.slice a5 n5' R5] 26)).grown Xe QQ (fun k hk=>by have:=xF.out.row k hk;omega);have QJG:w5.heap.size+1<=w9.heap.size:=by have:=Xe.size;omega
  have C9:∀v ys,Own 3 (w.heap.size+2) w2 v ys->Own 3 (w.heap.size+2) w9 v ys:=fun v ys h=>
   ((Own.kept (h.kept hk4) RH).alloc (.cells #[.slice a5 n5' R5] 26)).beside (SC.out.alloc _) QZ Xe
  have QJ8:Own 3 w4.heap.size w9 (.slice a5 n5' R5) xs:=(QQo.alloc (.cells #[.slice a5 n5' R5] 26)).beside (SC.out.alloc _) QZ Xe;have rX:=Zy (show Yd (fun k=>w.heap.size+2<=k/\k≠w2.heap.size/\k≠p/\k≠g) w9 (vs2++[.slice a5 n5' R5]) (ls++[xs])from
   Yd.append ⟨BQ.out.1,fun i hi=>((BQ.out.2 i hi).OZ (C9 _ _ (BQ.out.2 i hi))).imp (fun k hk=>QQ)⟩ (Yd.one (QJ8.jr.imp (fun k hk=>QQ))))
  have Qqe:=Zy ((fT.out.OZ (C9 _ _ fT.out)).imp (Q:=fun k=>w.heap.size+2<=k/\k≠w2.heap.size/\k≠p/\k≠g) (fun k hk=>QQ));have pR:=Zy (o9.TD.imp (Q:=fun k=>k≠p/\k≠g) (fun k hk=>by
   rcases QKJ with h|h
   ·rw[h]at hk;have:=XH xF.out k hk;omega
   ·rw[h]at hk;simp only[ZM]at hk;omega))
  have hn9:n9=ln+1:=by have:=o9.vs.get.1;simp only[Zd,XD,List.length_nil]at this;have:=QK4.out;omega
  have fo:=Zy (show(vs2++[Value.slice a5 n5' R5]).length=n9 from o9.vs.get.1);have Lv:=Zy (show(ls++[xs]).length=n9 by rw[<-rX.out.1];exact fo.out);have Qqo:=Zy hn9;have QjH:n9<=n+1:=QQ;clear hn9 QKJ QQo o9 QJ8 C9 Xe QJo QJr QJp QJn f0 f1 f2 f3 f4 f5 fa0 fa1 fa2 fa3 fa4 fa5 n0 n1 n2 n3 n4 n5;have QUB:=Zy (show∃al:List Value,vs2++[Value.slice a5 n5' R5]=al from⟨_,rfl⟩);obtain⟨al,hal⟩:=QUB.out;rw[hal]at rX pR fo;clear QUB;have HAL:=Zy hal;clear hal;simp only[List.getElem_toArray,List.getElem_cons_succ,List.getElem_cons_zero,Act.put,Zj,Zu,Zk];go_wp2
  go_loopw [36] (fun i wr=>∃k:Nat,i=.int .i64 (k:Int)/\k<=n9/\Hid (fE wr p g n al k)/\yI p g w9 wr/\Below w.heap.size w wr) (fun i _=>n9-(intOf i).toNat)
  case atStart=>exact⟨0,rfl,QQ,.inl ⟨QQ,_,QqT.out,fun i hi=>QQ⟩,yI.refl _ _ _,dD⟩
  case round=>
   obtain⟨k,rfl,hk,HPU,IU,JM⟩:=hrel;by_cases hlt:k<n9
   ·obtain⟨va,vn,vc,hv1,hv2,hv3,hv4,hv5,hv6,hv7⟩:=pR.out.keep (w':=wr) (fun q v hq hc=>IU.cell hq.1 hq.2 hc)
    simp only[Xx]at hv1;obtain⟨rfl,rfl,rfl⟩:=hv1;obtain⟨b1,o1,rfl,hc⟩:=hv5.at (k:=k) (by rw[fo.out];exact hlt);have e1:=hc k (by rw[fo.out];exact hlt);obtain⟨ya,yn,yc,hy⟩:=(rX.out.2 k ZY).form;rw[hy]at e1;have HY:=Zy hy;clear hc hv2 hv3 hv4 hv5 hv6 hv7 hy;rcases HPU with⟨hkn,slots,hr,hs⟩|⟨hkn,slots,hr,hs0,hs⟩
    ·rcases Z7 k n with hkn'|hkn'
     ·have HS:=Zy hs
      have QJe:place n 0 k=k:=QAi;have TY:=Zy (GU p n 0 k g ya yn yc wr slots hr QQ hkn' QQ);have HR:=Zy hr;rw[QJe]at TY;clear hs hr QJe;go_wp2_with ((go_at_call 197);refine TY.out.mono ?_;rintro e w' ⟨rfl,q,rfl⟩)
      go_roundw
      case rel=>exact⟨k+1,Qk,QQ,.inl ⟨QQ,_,HR.out.QY4 ⟨ya,yn,yc,rfl⟩ q k,fun i hi=>by
       by_cases e:k=i
       ·subst e;rw[Yk (by rw[HR.out.2.2.1];exact hkn'),HY.out]
       ·rw[ZR e];exact HS.out i QQ⟩,((IU.set (a:=⟨g,k,none⟩) (.inr rfl) _).set (a:=⟨p,2,none⟩) (.inl rfl) _).drewN q,below_drewN ((JM.setCell (p:=⟨g,k,none⟩) (by show w.heap.size<=g;omega) _).setCell (p:=⟨p,2,none⟩) (by show w.heap.size<=p;omega) _) q⟩
      case measure=>simp[intOf];omega
     ·obtain rfl:k=n:=by omega
      have HS:=Zy hs;have TY:=Zy (GK p k 0 g ya yn yc wr slots hr QQ QQ);have HR:=Zy hr;clear hs hr;go_wp2_with ((go_at_call 197);refine TY.out.mono ?_;rintro e w' ⟨rfl,q,rfl⟩)
      go_roundw
      case rel=>exact⟨k+1,Qk,QQ,.inr ⟨rfl,_,HR.out.QY3 ⟨ya,yn,yc,rfl⟩ q 0 (place k 0 1),by rw[Yk (by rw[HR.out.2.2.1];omega),HY.out],fun i h1 h2=>by
       rw[ZR QQ];exact HS.out i h2⟩,((IU.set (a:=⟨g,0,none⟩) (.inr rfl) _).set (a:=⟨p,1,none⟩) (.inl rfl) _).drewN q,below_drewN ((JM.setCell (p:=⟨g,0,none⟩) (by show w.heap.size<=g;omega) _).setCell (p:=⟨p,1,none⟩) (by show w.heap.size<=p;omega) _) q⟩
      case measure=>simp[intOf];omega
    ·omega
   ·have hkn:k=n9:=by omega
    subst hkn;obtain⟨f,s,slots,hr,hf,hs,hrv⟩:=HPU.list fo.out hn1;have HRV:=Zy hrv;have HLI:=Zy (Le p n f s g wr slots hr hf hs QQ);have hNr:=IU.blk (B:=w2.heap.size) QQ QQ hN9;have hRr:=IU.blk (B:=w.heap.size+1) QQ QQ BK;have hzr:wr.heap.size=w9.heap.size:=IU.1;have HAr:=Zy (rX.out.imp (Q:=fun k=>w.heap.size+2<=k/\k≠w2.heap.size) (w':=wr) (fun v ys h=>(h.keep (w':=wr) (fun q v hq hc=>IU.cell hq.2.2.1 hq.2.2.2 hc)).imp (fun k hk=>⟨hk.1,hk.2.1⟩)));have HPr:=Zy ((Qqe.out.keep (w':=wr) (fun q v hq hc=>IU.cell hq.2.2.1 hq.2.2.2 hc)).imp (Q:=fun k=>w.heap.size+2<=k/\k≠w2.heap.size) (fun k hk=>⟨hk.1,hk.2.1⟩));clear hrv hr;go_wp2_with ((go_at_call 198);refine HLI.out.mono ?_;rintro e qB ⟨v10,rfl,bY,JN⟩;obtain⟨b10,m10,c10,rfl⟩:=bY.form;have QUJ:=Zy bY;have QKv:=hNr.below JN hNr.lt;have RL:=hRr.below JN hRr.lt;have IZ:=JN.size;have QZa:=ZE JM QQ JN;clear bY;obtain⟨n0,n1,n2,n3,n4,n5⟩:=QKv.six;obtain⟨m0,m1,m2,m3,m4,m5⟩:=QKv.Yy;obtain⟨p0,p1,p2,p3,p4,p5⟩:=RL.six;obtain⟨t0,t1,t2,t3,t4,t5⟩:=RL.Yy)
    have dF:=((RL.other (a:=⟨w2.heap.size,0,none⟩) Q5 (.slice b10 m10 c10)).other (a:=⟨w2.heap.size,2,none⟩) Q5 (.int .i64 (m10:Int))).other (a:=⟨w2.heap.size,3,none⟩) Q5 (.slice none 0 0);obtain⟨y0,y1,y2,y3,y4,y5⟩:=(dF.six' (.slice b10 m10 c10) (.int .i64 (n:Int)) (.int .i64 (m10:Int)) (.slice none 0 0) (.slice ua un uc) (.bool O)).six;refine ZC (v:=.tuple #[.agg (X3 (.slice b10 m10 c10) (n:Int) (m10:Int) (.slice none 0 0) (.slice ua un uc) O),.int .i64 0]) Zq rfl ?_;have hxs:xs≠[]:=by have:=jf.out;rintro rfl;simp at this;omega
    have QjN:ls.length=ln:=kT.out;have hkl:k=ln+1:=Qqo.out;have QKH:Yd (fun k=>w.heap.size+2<=k/\k≠w2.heap.size) wr (K7 n f s slots) (qg ⟨ls,(n:Int),W,XQ,pat,O⟩ xs):=by
     rw[HRV.out];unfold qg;rw[if_neg hxs];simp only;by_cases hc:n<k
     ·rw[if_pos hc,if_pos QQ];exact HAr.out.drop 1
     ·rw[if_neg hc,if_neg QQ];exact HAr.out
    have hml:m10=(qg ⟨ls,(n:Int),W,XQ,pat,O⟩ xs).length:=by
     rw[<-QKH.1];exact QUJ.out.vs.get.1.symm
    have hAH:Wp ⟨ls,(n:Int),W,XQ,pat,O⟩ xs=⟨qg ⟨ls,(n:Int),W,XQ,pat,O⟩ xs,(n:Int),(m10:Int),[],pat,O⟩:=by
     unfold Wp;rw[hml]
    rw[hAH];have QZT:=((QZa.setCell (p:=⟨w2.heap.size,0,none⟩) Qv (.slice b10 m10 c10)).setCell (p:=⟨w2.heap.size,2,none⟩) Qv (.int .i64 (m10:Int))).setCell (p:=⟨w2.heap.size,3,none⟩) Qv (.slice none 0 0);have hcl:=fun(q:Addr) (v:Value) (hq:w.heap.size+2<=q.block/\q.block≠w2.heap.size) (hc:qB.cell? q=some v)=>
     Oe (B:=w.heap.size+1) (u0:=.slice b10 m10 c10) (u1:=.int .i64 (n:Int)) (u2:=.int .i64 (m10:Int)) (u3:=.slice none 0 0) (u4:=.slice ua un uc) (u5:=.bool O) (Zr (Zr (Zr hc (a:=⟨w2.heap.size,0,none⟩) (u:=.slice b10 m10 c10) hq.2) (a:=⟨w2.heap.size,2,none⟩) (u:=.int .i64 (m10:Int)) hq.2) (a:=⟨w2.heap.size,3,none⟩) (u:=.slice none 0 0) hq.2) QQ
    exact⟨_,_,_,rfl,⟨⟨K7 n f s slots,((QUJ.out.vsp.imp (Q:=fun k=>w.heap.size+2<=k/\k≠w2.heap.size) (fun k hk=>QQ)).keep hcl).imp (fun k hk=>QQ),QKH.imp (fun v ys h=>((h.below JN).keep hcl).imp (fun k hk=>QQ))⟩,rfl,rfl,Yf.nil _ _,((HPr.out.below JN).keep hcl).imp (fun k hk=>QQ),rfl⟩,Jd QZT (ZA _)⟩
def gu(R:Hi->Int->Prop)(P:Nat->Prop)(w:World)(e:Ending)(w':World):Prop:=∃h E,R h E/\LX P h E w e w'
theorem dY(lv:Value)(most Zi:Int)(sv pv:Value)(older:Bool)(h:Hi)(a:Option Addr)(nn c:Nat)(xs:List Int)(w:World)(r:WB w lv most Zi sv pv older h)(hx:Ints w a xs)(JK:xs.length=nn)(hx0:a=none->nn=0):
  Calls Tryz.prog 133 #[.agg (X3 lv most Zi sv pv older),.slice a nn c] w (gu (QX4 h xs) (fun k=>w.heap.size<=k) w):=by
 obtain⟨ls,M,W,XQ,pat,O⟩:=h;by_cases hE:xC ⟨ls,M,W,XQ,pat,O⟩=0
 ·rcases Z7 200 nn with hn|hn
  ·exact(Aj lv most Zi sv pv older ls M W XQ pat O a nn c w r hE hn _).mono fun e w' h=>⟨hi0,2,.inr (.inl ⟨hE,QQ,rfl,rfl⟩),h⟩
  ·rcases XM nn with h0|h0
   ·exact(Ak lv most Zi sv pv older ls M W XQ pat O a nn c w r xs hE hx JK hx0 hn h0).mono fun e w' h=>⟨_,0,.inr (.inr ⟨hE,QQ,rfl,rfl⟩),h⟩
   ·exact(Br lv most Zi sv pv older ls M W XQ pat O a nn c w r xs hE hx JK hx0 hn h0).mono fun e w' h=>⟨_,0,.inr (.inr ⟨hE,QQ,rfl,rfl⟩),h⟩
 ·exact(FY lv most Zi sv pv older ls M W XQ pat O a nn c w r _ rfl hE _).mono fun e w' h=>⟨hi0,_,.inl ⟨hE,rfl,rfl⟩,h⟩
theorem Yf.UR{F:Nat->Prop}{w:World}{B i:Nat}{u v:Value}{xs:List Int}(h:Yf F w v xs)(hB:¬F B):Yf F (w.setCell ⟨B,i,none⟩ u) v xs:=h.setCell hB u
theorem Vw.UR{F:Nat->Prop}{w:World}{B i:Nat}{u:Value}{lv:Value}{most Zi:Int}{sv pv:Value}{older:Bool}{h:Hi}(r:Vw F w lv most Zi sv pv older h)(hB:¬F B):Vw F (w.setCell ⟨B,i,none⟩ u) lv most Zi sv pv older h:=
 r.JB (Xv.setCell (a:=⟨B,i,none⟩) hB u) (fun _ h=>h)
theorem At.Nw{F0 G0 F:Nat->Prop}{w0 w:World}{B:Nat}{f:Nat->Value}{S:SS}{lv sv pv:Value}{hh:Hi}(h:At F0 G0 w0 F w B f S)(r:Vw F w lv hh.most hh.Zi sv pv hh.older hh):
  ∃f',At F0 G0 w0 F ((((((w.setCell ⟨B,37,none⟩ lv).setCell ⟨B,38,none⟩ (.int .i64 hh.most)).setCell ⟨B,39,none⟩ (.int .i64 hh.Zi)).setCell ⟨B,40,none⟩ sv).setCell ⟨B,41,none⟩ pv).setCell ⟨B,42,none⟩ (.bool hh.older)) B f' {S with Z8:=hh}/\f' 0=f 0:=by
 have nB:=h.hf.m.nB;have g:=h.hf.d.Z8;obtain⟨h1,h2,h3,h4,h5,h6⟩:=S.Z8;have a1:=h.store (S':={S with Z8:=⟨hh.ls,S.Z8.most,S.Z8.Zi,S.Z8.XQ,S.Z8.pat,S.Z8.older⟩}) 37 lv {h.hf.d with Z8:=⟨r.ls,rfl,rfl,h.hf.d.Z8.XQ,h.hf.d.Z8.pat,rfl⟩};have r1:=r.UR (i:=37) (u:=lv) nB;have a2:=a1.store (S':={S with Z8:=⟨hh.ls,hh.most,S.Z8.Zi,S.Z8.XQ,S.Z8.pat,S.Z8.older⟩}) 38 (.int .i64 hh.most) {a1.hf.d with Z8:=⟨r1.ls,rfl,rfl,a1.hf.d.Z8.XQ,a1.hf.d.Z8.pat,rfl⟩,OO:=rfl};have r2:=r1.UR (i:=38) (u:=.int .i64 hh.most) nB;have a3:=a2.store (S':={S with Z8:=⟨hh.ls,hh.most,hh.Zi,S.Z8.XQ,S.Z8.pat,S.Z8.older⟩}) 39 (.int .i64 hh.Zi) {a2.hf.d with Z8:=⟨r2.ls,rfl,rfl,a2.hf.d.Z8.XQ,a2.hf.d.Z8.pat,rfl⟩,C8:=rfl};have r3:=r2.UR (i:=39) (u:=.int .i64 hh.Zi) nB;have a4:=a3.store (S':={S with Z8:=⟨hh.ls,hh.most,hh.Zi,hh.XQ,S.Z8.pat,S.Z8.older⟩}) 40 sv {a3.hf.d with Z8:=⟨r3.ls,rfl,rfl,r3.XQ,a3.hf.d.Z8.pat,rfl⟩};have r4:=r3.UR (i:=40) (u:=sv) nB;have a5:=a4.store (S':={S with Z8:=⟨hh.ls,hh.most,hh.Zi,hh.XQ,hh.pat,S.Z8.older⟩}) 41 pv {a4.hf.d with Z8:=⟨r4.ls,rfl,rfl,r4.XQ,r4.pat,rfl⟩};have r5:=r4.UR (i:=41) (u:=pv) nB;have a6:=a5.store (S':={S with Z8:=hh}) 42 (.bool hh.older) {a5.hf.d with Z8:=r5,holder:=rfl};exact⟨_,a6,rfl⟩
theorem WZ(F G:Nat->Prop)(B:Nat)(S:SS)(lv sv pv:Value)(hh:Hi)(a:Option Addr)(m c:Nat)(l:List Int)(E:Int)(w:World)(h:Yv F G w B S)(r:Vw F w lv hh.most hh.Zi sv pv hh.older hh)(hl:Yf F w (.slice a m c) l)(hm:m<=4096)(hn:S.told.length<=4398046511103):
  Calls Tryz.prog 131 #[.pointer (some ⟨B,0,none⟩),.agg (X3 lv hh.most hh.Zi sv pv hh.older),.slice a m c,.int .i64 E] w (VP F G w B (S.moved (hh,l,E)) YG):=by
 obtain⟨f,hf⟩:=h;have hA:=At.begin hf;unfold X3;obtain⟨o,hv1,hlv⟩:∃(o:Option Addr×Nat×Nat),lv=.slice o.1 o.2.1 o.2.2/\True:=by
  obtain⟨vs,h1,-⟩:=r.ls;obtain⟨a,n,c,e,-⟩:=h1;exact⟨(a,n,c),e,trivial⟩
 obtain⟨la,ln,lc⟩:=o;obtain⟨sa,sn,sc,rfl⟩:=r.XQ.form;obtain⟨pa,pn,pc,rfl⟩:=r.pat.form;dsimp only at hv1;subst hv1;have hbx:=fun W:World=>ZT W (.cells #[.slice la ln lc,.int .i64 hh.most,.int .i64 hh.Zi,.slice sa sn sc,.slice pa pn pc,.bool hh.older] 65)
 have hR:=Za.new w #[.slice la ln lc,.int .i64 hh.most,.int .i64 hh.Zi,.slice sa sn sc,.slice pa pn pc,.bool hh.older] 65;have hBl:=hf.uq;by_cases hE:E=0
 ·subst hE
  obtain⟨f',hA2,-⟩:=hA.Nw r;have hA3:=hA2.JA (hbx _);have hl2:=((((((hl.UR (i:=37) (u:=.slice la ln lc) hA.hf.m.nB).UR (i:=38) (u:=.int .i64 hh.most) hA.hf.m.nB).UR (i:=39) (u:=.int .i64 hh.Zi) hA.hf.m.nB).UR (i:=40) (u:=.slice sa sn sc) hA.hf.m.nB).UR (i:=41) (u:=.slice pa pn pc) hA.hf.m.nB).UR (i:=42) (u:=.bool hh.older) hA.hf.m.nB).below (hbx _);have HT:=Zy (uP F (Gx G w _) B {S with Z8:=hh} a m c l 0 _ ⟨f',hA3.hf⟩ hl2.sl hm (.inl rfl));have HA2:=Zy hA3;obtain⟨y0,y1,y2,y3,y4,y5⟩:_/\_/\_/\_/\_/\_:=⟨hR.cell 0,hR.cell 1,hR.cell 2,hR.cell 3,hR.cell 4,hR.cell 5⟩;simp only[List.getElem?_toArray,List.getElem?_cons_zero,List.getElem?_cons_succ]at y0 y1 y2 y3 y4 y5;obtain⟨c37,z37⟩:=hf.m.blk.at 37;obtain⟨c38,z38⟩:=hf.m.blk.at 38;obtain⟨c39,z39⟩:=hf.m.blk.at 39;obtain⟨c40,z40⟩:=hf.m.blk.at 40;obtain⟨c41,z41⟩:=hf.m.blk.at 41;obtain⟨c42,z42⟩:=hf.m.blk.at 42;have he:S.moved (hh,l,0)=({S with Z8:=hh}).Jt l 0:=rfl;rw[he];clear hf hA hA2 hA3 hR r hl hl2 he hbx;go_enter Tryz.func131,Tryz.ntmps131
  go_wp2_with fail
  refine HT.out.mono ?_;rintro e w2 ⟨rfl,hv⟩;obtain⟨F',f3,hA3,-,-⟩:=HA2.out.call hv;exact QF2
 ·have hA1:=hA.JA (hbx w)
  have HT:=Zy (U2 F (Gx G w _) B S _ ⟨f,hA1.hf⟩ hn);have HA1:=Zy hA1;have he:S.moved (hh,l,E)=S.Yt:=by unfold SS.moved;rw[if_pos hE]
  rw[he];have hE2:(E !=0)=true:=QBC;clear hf hA hA1 hR r hl hbx he hE;go_enter Tryz.func131,Tryz.ntmps131
  go_wp2_with fail
  refine HT.out.mono ?_;rintro e w2 ⟨rfl,hv⟩;obtain⟨F',f3,hA3,-,-⟩:=HA1.out.call hv;exact QF2
theorem Own.cap0{e:TypeId}{base:Nat}{w:World}{a:Option Addr}{n c:Nat}{xs:List Int}(h:Own e base w (.slice a n c) xs):a=none->c=0:=by
 rcases h.2 with⟨hv,_⟩|⟨g,cap,cur,hv,hb,hg,hn,hm,hs,ht⟩
 ·simp only[Xx]at hv
  obtain⟨rfl,rfl,rfl⟩:=hv;exact fun _=>rfl
 ·simp only[Xx]at hv
  obtain⟨rfl,_,rfl⟩:=hv;exact fun e=>QAU
theorem Rz{xs:List Int}{p mode key b:Int}(h:U1 xs p mode key->KH xs false p b):Jy xs p mode key b=Jy xs p mode key (Km xs false p):=by
 by_cases hu:U1 xs p mode key
 ·rw[Dq (by have:=hu.2.1;omega) hu.2.2.1 (h hu) (Wu xs false p (by have:=hu.2.1;omega))]
 ·exact MR hu _ _
structure KyP (S:SS) (key:Int) (w wx:World) (L:Nat) (a:Option Addr) (n c:Nat):Prop where
 lo:w.heap.size<=L
 c0:wx.cell? ⟨L,0,none⟩=some (.slice a n c)
 c1:wx.cell? ⟨L,1,none⟩=some (.int .i64 (S.KD key).2.1)
 sl:Sl wx (.slice a n c) (S.KD key).1
 n4:n<=4096
 YX:Below w.heap.size w wx
theorem sH{B:Nat}{m:Int}{w wa wb:World}(hB:B<w.heap.size)(h:wa.cell? ⟨B,2,none⟩=some (.int .i64 m)/\Below w.heap.size w wa)(hb:Below wa.heap.size wa wb):wb.cell? ⟨B,2,none⟩=some (.int .i64 m)/\Below w.heap.size w wb:=⟨ZL hb _ _ h.1,h.2.trans (hb.mono h.2.size)⟩
theorem QZK{B:Nat}{m:Int}{w wa:World}(hB:B<w.heap.size)(h:wa.cell? ⟨B,2,none⟩=some (.int .i64 m)/\Below w.heap.size w wa)(o:Obj):(wa.alloc o).cell? ⟨B,2,none⟩=some (.int .i64 m)/\Below w.heap.size w (wa.alloc o):=sH hB h (ZT _ _)
theorem QZY{B:Nat}{m:Int}{w wa:World}(h:Below w.heap.size w wa)(hc:w.cell? ⟨B,2,none⟩=some (.int .i64 m))(o:Obj):(wa.alloc o).cell? ⟨B,2,none⟩=some (.int .i64 m)/\Below w.heap.size w (wa.alloc o):=⟨ZL (h.alloc h.size o) _ _ hc,Zo.alloc h⟩
theorem QZJ{B L:Nat}{m:Int}{w wa:World}(hB:B<w.heap.size)(h:wa.cell? ⟨B,2,none⟩=some (.int .i64 m)/\Below w.heap.size w wa)(hL:w.heap.size<=L)(u v:Value):((wa.setCell ⟨L,0,none⟩ u).setCell ⟨L,1,none⟩ v).cell? ⟨B,2,none⟩=some (.int .i64 m)/\Below w.heap.size w ((wa.setCell ⟨L,0,none⟩ u).setCell ⟨L,1,none⟩ v):=
 ⟨Zr (Zr h.1 (by intro e;simp at e;omega)) (by intro e;simp at e;omega),(h.2.setCell (p:=⟨L,0,none⟩) hL _).setCell (p:=⟨L,1,none⟩) hL _⟩
theorem QZZ{Wz n c:Nat}{w6:World}{a:Option Addr}{ys:List Int}(hi:Ints w6 a ys)(hl:ys.length=n)(hc:n<=1000/\n<=c/\c<=9223372036854775807/\(a=none->n=0)/\(True->∀ad,a=some ad->Wz<=ad.block)):Yf (fun k=>Wz<=k/\k<w6.heap.size) w6 (.slice a n c) ys:=
 (Yf.lt (P:=fun k=>Wz<=k) ⟨a,n,c,rfl,hl,hc.2.1,hc.2.2.1,hi,hc.2.2.2.1,fun ad e _=>hc.2.2.2.2 trivial ad e⟩)
theorem QVg{S:SS}{key:Int}{w w6:World}{L n c Wz:Nat}{a:Option Addr}(hL:Za w6 L #[.slice none 0 0,.int .i64 0] 30)(hlo:w.heap.size<=L)(hlt:L<Wz)(hs:Yf (fun k=>Wz<=k/\k<w6.heap.size) w6 (.slice a n c) (S.KD key).1)(hn:n<=1000)(hB:Below w.heap.size w w6):
  KyP S key w ((w6.setCell ⟨L,0,none⟩ (.slice a n c)).setCell ⟨L,1,none⟩ (.int .i64 (S.KD key).2.1)) L a n c:=by
 obtain⟨k0,k1,-,-⟩:=((hL.set 0 (.slice a n c)).set 1 (.int .i64 (S.KD key).2.1)).two;have hnF:¬(Wz<=L/\L<w6.heap.size):=QQ;exact⟨hlo,k0,k1,((hs.UR (i:=0) (u:=.slice a n c) hnF).UR (i:=1) (u:=.int .i64 (S.KD key).2.1) hnF).sl,QQ,(hB.setCell (p:=⟨L,0,none⟩) hlo _).setCell (p:=⟨L,1,none⟩) hlo _⟩
theorem QVh{S:SS}{key:Int}{w w6:World}{n c Wz:Nat}{a:Option Addr}(hs:Yf (fun k=>Wz<=k/\k<w6.heap.size) w6 (.slice a n c) (S.KD key).1)(hn:n<=1000)(hB:Below w.heap.size w w6):
  KyP S key w (w6.alloc (.cells #[.slice a n c,.int .i64 (S.KD key).2.1] 30)) w6.heap.size a n c:=by
 obtain⟨k0,k1,-,-⟩:=(Za.new w6 #[.slice a n c,.int .i64 (S.KD key).2.1] 30).two;exact⟨hB.size,k0,k1,(hs.below (ZT _ _)).sl,QQ,Zo.alloc hB⟩
theorem uN(F G:Nat->Prop)(B:Nat)(S:SS)(key:Int)(w:World)(h:Yv F G w B S)(hl:S.text.length<=200)(hp0:0<=S.pos)(hp1:S.pos<=200)(hn:S.told.length<=4398046511103)(hty:∀c ty,S.now=some (c,ty)->ty.length<=4398046511103):
  Calls Tryz.prog 88 #[.pointer (some ⟨B,0,none⟩),.int .i64 key] w (VP F G w B (S.typed key) YG):=by
 by_cases hk:key=27
 ·subst hk
  have HT:=Zy (TF F G B S w h hp0 hp1);have he:S.typed 27=S.leave:=by unfold SS.typed;rw[if_pos rfl]
  rw[he];clear h hl hp0 hp1 hn hty he;go_enter Tryz.func88,Tryz.ntmps88
  go_wp2_with fail
  refine HT.out.mono ?_;rintro e w2 ⟨rfl,hv⟩;exact QEO
 obtain⟨f,hf⟩:=h;have hA:=At.begin hf;have c2:=hf.cell 2;rw[hf.d.mode]at c2;have kT:=Zy (fun(w':World) (hb:Below w.heap.size w w')=>DL F _ B S w' ⟨f,(hA.JA hb).hf⟩ QQ);have hBl:=hf.uq;have HA:=Zy hA;have gT:=Zy hn;have HTY:=Zy hty;have HL:=Zy hl;have QjT:(key==27)=false:=by simpa using hk
 have HE:=Zy (show S.typed key=(if(S.KD key).2.2≠0 then S.Yt else {S.set (S.KD key).1 (S.KD key).2.1 with now:=S.now.map fun p=>(p.1,p.2++[key])}) by unfold SS.typed;rw[if_neg hk]);have HKF:=Zy (show Jy S.text S.pos S.mode key (Km S.text false S.pos)=S.KD key from rfl);clear hf hA hl hn hty hk hp0 hp1;go_enter Tryz.func88,Tryz.ntmps88
 go_upto_region 2 with fail
 go_cut [4,5] (fun v4 v5 wx=>∃L a n c,v4=.pointer (some ⟨L,0,none⟩)/\v5=.int .i64 (S.KD key).2.2/\KyP S key w wx L a n c)
 case first=>
  go_region_held3 (fun w'=>w'.cell? ⟨B,2,none⟩=some (.int .i64 S.mode)/\Below w.heap.size w w') (first|exact⟨c2,(ZH _ _).drew⟩|(with_reducible assumption)|exact sH hBl ‹_› ‹_› | exact QZK hBl ‹_› _|exact QZY Wh c2 _|exact QZJ hBl ‹_› Ml _ _)
   (first|(go_at_call 42;refine(kT.out _ ?_).mono ?_;(·repeat' (first|(with_reducible exact ZH _ _)|(with_reducible refine Zo.alloc ?_)|(with_reducible refine Zo.drew ?_)));rintro e w5 ⟨v5,rfl,o5,hb5⟩;obtain⟨a5,n5,k5,rfl⟩:=o5.form;have JS:Below w.heap.size w w5:=QG)|(go_at_call 136;refine(eX a5 n5 k5 S.text S.pos S.mode key _ ?_ ?_ ?_ ?_ ?_).mono ?_;(·first|exact o5.get.2.1|exact o5.get.2.1.below (ZT _ _));(·exact o5.get.1);(·exact o5.cap.1);(·exact o5.cap.2.1);(·exact o5.cap0);rintro e w6 ⟨a6,n6,k6,b6,rfl,hu6,hi6,hl6,hc6,hb6⟩;rw[Rz hu6,HKF.out]at hi6 hl6 ⊢;have hs6:=QZZ hi6 hl6 hc6;have Wh:Below w.heap.size w w6:=Qv4;have hs5:=JS.size;(first|(refine yA (P:=Za w6 (w.heap.size) #[.slice none 0 0,.int .i64 0] 30) ?_ ?_;(·repeat' (first|((with_reducible refine JV ?_);(first|rfl|(simp;done)))|(with_reducible refine Za.YP hb6 ?_)|(with_reducible refine Za.YP hb5 ?_)|(with_reducible refine Za.J5 ?_)|(with_reducible refine Za.Yc ?_)));intro hL6;have QWW:=hL6.lt;have Ml:=ZB w.heap.size;obtain⟨h60,h61,k60,k61⟩:=hL6.two)|(refine yA (P:=Za w6 (w5.heap.size) #[.slice none 0 0,.int .i64 0] 30) ?_ ?_;(·repeat' (first|((with_reducible refine JV ?_);(first|rfl|(simp;done)))|(with_reducible refine Za.YP hb6 ?_)|(with_reducible refine Za.YP hb5 ?_)|(with_reducible refine Za.J5 ?_)|(with_reducible refine Za.Yc ?_)));intro hL6;have QWW:=hL6.lt;have Ml:=hs5;obtain⟨h60,h61,k60,k61⟩:=hL6.two)|skip)))
  all_goals
   go_wp2;go_meet
   first
    | exact⟨_,_,_,_,rfl,rfl,QVg hL6 Ml QAh hs6 hc6.1 Wh⟩
    | exact⟨_,_,_,_,rfl,rfl,QVh hs6 hc6.1 Wh⟩
 case rest=>
  obtain⟨L,a,n,c,rfl,rfl,hK⟩:=hcut;have hA2:=HA.out.below hK.YX;have l0:=hK.c0;have l1:=hK.c1;by_cases hE:(S.KD key).2.2=0
  ·rw[hE]
   have HST:=Zy (Lf _ _ B S a n c (S.KD key).1 (S.KD key).2.1 wc ⟨f,hA2.hf⟩ hK.sl hK.n4);have he2:S.typed key={S.set (S.KD key).1 (S.KD key).2.1 with now:=S.now.map fun p=>(p.1,p.2++[key])}:=by rw[HE.out,if_neg (fun e=>e hE)]
   have HA2:=Zy hA2;have HE2:=Zy he2;clear hA2 hK hE he2;go_wp2_with fail
   refine HST.out.mono ?_;rintro e w7 ⟨rfl,hv7⟩;obtain⟨F7,f7,hA3,-,-⟩:=HA2.out.call hv7;obtain⟨ru,v47⟩:=hA3.hf.m.blk.at 47;have Es:=hA3.hf.m.now;have hno:(S.set (S.KD key).1 (S.KD key).2.1).now=S.now:=rfl;rw[hno]at Es;cases yV:S.now with
   | none=>
    rw[yV]at Es;have Es:f7 47=.pointer none:=Es;rw[Es]at ru;have kg:=Zy hA3;have TJ:=Zy yV;clear hA3 hv7 Es yV hno;go_wp2
    go_end0
    exact⟨rfl,by rw[HE2.out,Lr TJ.out];exact kg.out.done⟩
   | some qq=>
    obtain⟨c7,Ff⟩:=qq;rw[yV]at Es;obtain⟨C7,tv7,h47,q2,q3,q4,q5,q6⟩:=Es;rw[h47]at ru;obtain⟨ta,tn,tc,rfl⟩:=q5.form;have k5:w7.cell? ⟨C7,5,none⟩=some (.slice ta tn tc):=q4.cell 5;have z5:=q4.free 5;have k5':(w7.alloc (.cells #[.int .i64 key] 3)).cell? ⟨C7,5,none⟩=some (.slice ta tn tc):=ZL (ZT _ _) _ _ k5;have QyE:(w7.alloc (.cells #[.int .i64 key] 3)).cell? ⟨B,47,none⟩=some (.pointer (some ⟨C7,0,none⟩)):=ZL (ZT _ _) _ _ ru;have QJC:=HTY.out c7 Ff yV;have kg:=Zy hA3;have TJ:=Zy yV;have HQ5:=Zy q5;have HQ4:=Zy q4;have H47:=Zy h47;have HT7:=Zy QJC;clear hA3 hv7 yV hno q2 q3 q4 q5 q6 h47 QJC;go_upto_region 7 with fail
    go_region_law (first|(refine MQ QAQ _ _ rfl 0 (.slice ta tn tc) Ff key _ rfl rfl ((HQ5.out.drew).alloc _) (Ao w7.drew (.int .i64 key) 3 rfl) (Nat.lt_of_le_of_lt HT7.out QZ) (Z0 _) ?_;intro v8 w8 o8 gG nV;obtain⟨a8,n8,m8,rfl⟩:=o8.form;have UW:VF w8 B f7:=Za.grown (Za.alloc (show VF w7.drew B f7 from kg.out.hf.m.blk) (.cells #[.int .i64 key] 3)) gG (HQ5.out.Xa kg.out.hf.m.blk QZ);have g47:w8.cell? ⟨B,47,none⟩=some (.pointer (some ⟨C7,0,none⟩)):=(by rw[UW.cell QQ,H47.out]);have JY:=Za.grown (Za.alloc (w:=w7.drew) HQ4.out (.cells #[.int .i64 key] 3)) gG (HQ5.out.Xa HQ4.out QZ);have g5:w8.cell? ⟨C7,5,none⟩=some (.slice ta tn tc):=JY.cell 5;have y5:=JY.free 5;clear JY))
    all_goals
     go_wp2
     go_end0
     have hT:=kg.out.typ (w1:=w7.drew.alloc (.cells #[.int .i64 key] 3)) (key:=key) TJ.out H47.out (HQ4.out.cell 5) (Zo.alloc (Zo.drew (ZH _ w7))) gG o8 nV rfl;exact⟨rfl,by rw[HE2.out,TJ.out];exact hT.done⟩
  ·have HB:=Zy (U2 _ _ B S wc ⟨f,hA2.hf⟩ gT.out)
   have he2:S.typed key=S.Yt:=by rw[HE.out,if_pos hE]
   have hE2:((S.KD key).2.2 !=0)=true:=QBC;have HA2:=Zy hA2;have HE2:=Zy he2;clear hA2 hK hE he2;generalize(S.KD key).2.2=er at hE2 ⊢;go_wp2_with fail
   refine HB.out.mono ?_;rintro e w7 ⟨rfl,hv⟩;go_wp2
   go_end0
   obtain⟨F',f',hA3,-,-⟩:=HA2.out.call hv;exact⟨rfl,by rw[HE2.out];exact hA3.done⟩
theorem TH(W0:World)(F G:Nat->Prop)(B K:Nat)(S:SS)(n:Int)(w:World)(h:Yv F G w B S)(hI:XW K S)(hm:S.mode=0)(h0:0<=n)(h9:n<=999)(hK:K<=4398046511103)(hn:S.told.length+K+2<=4398046511103):
  Calls Tryz.prog 144 #[.pointer (some ⟨B,0,none⟩),.int .i64 n] w (VP F G w B (S.again W0 n) YG):=by
 obtain⟨f,hf⟩:=h;have hA:=At.begin hf;have c46:=hf.cell 46;have hl:=hf.d.last;cases hlast:S.last with
 | none=>
  rw[hlast]at hl;have hl:f 46=.pointer none:=hl;rw[hl]at c46;have HB:=Zy (U2 F G B S w ⟨f,hf⟩ QQ);have he:S.again W0 n=S.Yt:=by unfold SS.again;rw[hlast]
  rw[he];clear hf hA hl hlast he hI hn;go_enter Tryz.func144,Tryz.ntmps144
  go_wp2_with fail
  refine HB.out.mono ?_;rintro e w2 ⟨rfl,hv⟩;exact QEO
 | some pr=>
  obtain⟨c,ty⟩:=pr;rw[hlast]at hl;obtain⟨C,tv,QKA,hFC,hC,htv⟩:=hl;rw[QKA]at c46;obtain⟨ta,tn,tc,rfl⟩:=htv.form;have hcz:∃c',c'=(if 0<n then {c with a:=n}else c:C5):=⟨_,rfl⟩;obtain⟨c',hc'⟩:=hcz;have hla:=hI.la c ty hlast;have hok:Va c':=by
   subst hc';split
   ·exact⟨h0,h9⟩
   ·exact hla.1
  have he:S.again W0 n=if(S.Ko W0 c').2=false\/(S.Ko W0 c').1.mode=0 then(S.Ko W0 c').1 else(ty.foldl SS.typed (S.Ko W0 c').1).typed 27:=by
   unfold SS.again;rw[hlast,hc']
  have hno:S.now=none:=hI.n0 (.inl hm);have hD:=hI.Ko (W:=W0) hm c' hok;have hT:=Tl.Ko W0 S c';obtain⟨k0,k1,k2,k3,k4,k5⟩:=Za.six hC;obtain⟨W3,hW3⟩:∃W3,W3=((w.alloc (.cells #[.int .i64 c.a,.int .i64 c.b,.int .i64 c.c,.int .i64 c.d,.int .i64 c.e,.slice ta tn tc] 219)).alloc (.cells #[.int .i64 c'.a,.int .i64 c'.b,.int .i64 c'.c,.int .i64 c'.d,.int .i64 c'.e] 87)):=⟨_,rfl⟩;have hb3:Below w.heap.size w W3:=by rw[hW3];exact Zo.alloc (Zo.alloc (ZH _ w))
  have hL1:Za W3 w.heap.size #[.int .i64 c.a,.int .i64 c.b,.int .i64 c.c,.int .i64 c.d,.int .i64 c.e,.slice ta tn tc] 219:=by rw[hW3];exact(Za.new w _ _).alloc _
  have hL2:Za W3 (w.heap.size+1) #[.int .i64 c'.a,.int .i64 c'.b,.int .i64 c'.c,.int .i64 c'.d,.int .i64 c'.e] 87:=by
   rw[hW3];have:=Za.new (w.alloc (.cells #[.int .i64 c.a,.int .i64 c.b,.int .i64 c.c,.int .i64 c.d,.int .i64 c.e,.slice ta tn tc] 219)) #[.int .i64 c'.a,.int .i64 c'.b,.int .i64 c'.c,.int .i64 c'.d,.int .i64 c'.e] 87
   rwa[Zv]at this
  have hA3:=hA.below hb3;have hz3:W3.heap.size=w.heap.size+1+1:=by rw[hW3,Zv,Zv]
  have gQ:=Zy (Lh W0 _ _ B K S c' W3 ⟨f,hA3.hf⟩ hI hm hok QQ);obtain⟨d0,d1,d2,d3,d4⟩:=Za.five hL2;have l5:W3.cell? ⟨w.heap.size,5,none⟩=some (.slice ta tn tc):=hL1.cell 5;have hF1:Fx F w W3 w.heap.size:=.inr ⟨ZB _,QQ⟩;have QJE:=(htv.below hb3).imp (Q:=Fx F w W3) Fx.old;have HE:=Zy he;have kg:=Zy hA3;have HI:=Zy hI;have HTV:=Zy QJE;have HDD:=Zy hD;have HT:=Zy hT;have HLA:=Zy hla.2;have Kj:=Zy hno;have gT:=Zy hn;have HW3:=Zy hW3;clear hA hf hA3 he hD hT hla htv QJE hI hno hn hlast hL1 hL2 hb3 hz3 hC hFC QKA hm hW3;go_enter Tryz.func144,Tryz.ntmps144
  go_upto_if 24 with fail
  go_cut [25] (fun _ wx=>W3=wx)
  case first=>as_aux_lemma=>
   by_cases hn0:0<n
   ·obtain rfl:c'={c with a:=n}:=by rw[hc',if_pos hn0]
    clear d0 d1 d2 d3 d4 l5 hc';go_wp2;go_meet;exact HW3.out
   ·obtain rfl:c'=c:=by rw[hc',if_neg hn0]
    clear d0 d1 d2 d3 d4 l5 hc';go_wp2;go_meet;exact HW3.out
  case rest=>
   obtain rfl:=hcut;clear hc';go_wp2_with fail
   refine gQ.out.mono ?_;rintro e w4 ⟨rfl,hv4⟩;obtain⟨F4,f4,UY,hsub,hsame⟩:=kg.out.call hv4;have l54:w4.cell? ⟨w.heap.size,5,none⟩=some (.slice ta tn tc):=hsame.JB _ _ hF1 l5;have QJD:=(HTV.out.keep hsame.JB).imp hsub;obtain⟨c2,-⟩:=UY.hf.m.blk.at 2;rw[UY.hf.d.mode]at c2;have QK8:=Zy QJD;have iZ:=Zy UY;clear hv4 UY hsame QJD d0 d1 d2 d3 d4 l5 hsub;have hrr:∀b m,(S.Ko W0 c').2=b->(S.Ko W0 c').1.mode=m->True:=fun _ _ _ _=>trivial
   clear hrr;by_cases hfin:(S.Ko W0 c').2=false\/(S.Ko W0 c').1.mode=0
   ·as_aux_lemma=>
    have HF:=Zy hfin;rcases hfin with h2|h2
    ·rw[h2]
     clear h2;go_wp2
     go_end0
     exact⟨rfl,QAg⟩
    ·rw[h2]at c2
     clear h2;cases hb2:(S.Ko W0 c').2
     ·go_wp2
      go_end0
      exact⟨rfl,QAg⟩
     ·go_wp2
      go_end0
      exact⟨rfl,QAg⟩
   ·have h2:(S.Ko W0 c').2=true:=by
     cases h:(S.Ko W0 c').2
     ·exact absurd (.inl h) hfin
     ·rfl
    have hmm:((S.Ko W0 c').1.mode==0)=false:=by
     have:¬(S.Ko W0 c').1.mode=0:=fun e=>hfin (.inr e)
     simpa using this
    have HF:=Zy hfin;have hj:∀c7 Ff,(S.Ko W0 c').1.now=some (c7,Ff)->Ff.length<=0:=fun c7 Ff e=>by rw[HDD.out.2.2 h2 c7 Ff e Kj.out];exact ZB _
    have HJ:=Zy hj;have HTT:=Zy (show∀j,j<=ty.length->((ty.take j).foldl SS.typed (S.Ko W0 c').1).told.length<=S.told.length+1+j from fun j hj2=>by
     obtain⟨m1,e1,e2,-⟩:=HT.out.told;obtain⟨m2,g1,g2,-⟩:=(Tl.Vf (ty.take j) (S.Ko W0 c').1).told;rw[g1,e1,Zd,Zd];rw[Zp]at g2
     omega)
    have HII:=Zy (show∀j,j<=ty.length->XW K ((ty.take j).foldl SS.typed (S.Ko W0 c').1)from fun j hj2=>
     XW.Vf (ty.take j) _ 0 HDD.out.1 HJ.out (by have:=HLA.out;rw[Zp];omega))
    have hset:(S.Ko W0 c').1.mode=(S.Ko W0 c').1.mode:=rfl;rw[h2];clear hfin hj h2 hset;go_wp2;obtain⟨g1,g2,g3,g4,g5⟩:=QK8.out.get;have HG:=Zy g1;have htn:tn<=4398046511103:=by have:=HLA.out;omega
    clear g1 g2 g3 g4 g5
    go_loopw [41] (fun x wr=>∃(j:Nat) (F':Nat->Prop) (f':Nat->Value),x=.int .i64 (j:Int)/\j<=tn/\At F G w F' wr B f' ((ty.take j).foldl SS.typed (S.Ko W0 c').1)/\Yf F' wr (.slice ta tn tc) ty) (fun x _=>tn-(intOf x).toNat)
    case atStart=>exact⟨0,F4,f4,rfl,QQ,iZ.out,QK8.out⟩
    case round=>
     obtain⟨j,F5,f5,rfl,hj,Kn,hs5⟩:=hrel;by_cases hlt:j<tn
     ·as_aux_lemma=>
      have hi0:(0:Int)<=(j:Int):=QQ;have hin:(j:Int)<(tn:Int):=QQ;have hjt:j<ty.length:=by rw[HG.out];exact hlt
      obtain⟨b1,o1,rfl,hcc⟩:=Ints.at hs5.get.2.2.2.1 hjt;have cv:=hcc j hjt;have hi:=HII.out j QQ;have ht:=HTT.out j QQ;have hnw:∀c7 Ff,((ty.take j).foldl SS.typed (S.Ko W0 c').1).now=some (c7,Ff)->Ff.length<=4398046511103:=fun c7 Ff e=>by have:=(hi.nw c7 Ff e).2;omega
      have HTY:=Zy (uN F5 _ B _ (ix ty j) wr ⟨f5,Kn.hf⟩ hi.tl hi.p0 (by have:=hi.p1;have:=hi.tl;omega) (by have:=gT.out;have:=HLA.out;omega) hnw);have SG:=Zy Kn;have LB:=Zy hs5;clear Kn hs5 hcc hi ht hnw;go_wp2_with (go_at_call 88;go_loud (refine(HTY.out).mono ?_;rintro e w6 ⟨rfl,hv6⟩;have HV6:=Zy hv6;clear hv6))
      obtain⟨F6,f6,Vt,OL,Er⟩:=SG.out.call HV6.out;refine⟨⟨j+1,F6,f6,Qk,QQ,?_,(LB.out.keep Er.JB).imp OL⟩,Qp⟩;rw[XX (by rw[HG.out];exact hlt),List.foldl_append,<-Yw (by rw[HG.out];exact hlt)];exact Vt
     ·as_aux_lemma=>
      obtain rfl:j=tn:=QQ;rw[XV (by rw[HG.out];exact ZB _)]at Kn;have hi:=HII.out ty.length (ZB _);have ht:=HTT.out ty.length (ZB _);rw[XV (ZB _)]at hi ht;have hnw:∀c7 Ff,(ty.foldl SS.typed (S.Ko W0 c').1).now=some (c7,Ff)->Ff.length<=4398046511103:=fun c7 Ff e=>by have:=(hi.nw c7 Ff e).2;omega
      have HTY:=Zy (uN F5 _ B _ 27 wr ⟨f5,Kn.hf⟩ hi.tl hi.p0 (by have:=hi.p1;have:=hi.tl;omega) (by have:=gT.out;have:=HLA.out;omega) hnw);have SG:=Zy Kn;clear Kn hs5 hi ht hnw hlt;go_wp2_with fail
      refine HTY.out.mono ?_;rintro e w6 ⟨rfl,hv6⟩;go_wp2
      go_end0
      obtain⟨F6,f6,Vt,-,-⟩:=SG.out.call hv6;exact⟨rfl,by rw[HE.out,if_neg HF.out];exact Vt.done⟩
theorem PX(F G:Nat->Prop)(B:Nat)(S:SS)(w:World)(h:Yv F G w B S)(hl:S.text.length<=200)(hfl:S.first.length<=200)(hp:S.past.length<=30)(hn:S.told.length<=4398046511103):
  Calls Tryz.prog 143 #[.pointer (some ⟨B,0,none⟩)] w (VP F G w B S.Ky YG):=by
 obtain⟨f,hf⟩:=h;have hA:=At.begin hf;obtain⟨p,hpt⟩:=hf.d.text.ptr;obtain⟨q,hqt⟩:=hf.d.first.ptr
 have c0:=hf.cell 0;have c45:=hf.cell 45;rw[hpt]at c0;rw[hqt]at c45;have htx:=hf.d.text;have hfx:=hf.d.first
 rw[hpt]at htx;rw[hqt]at hfx;have H1:=Zy (fun(w':World) (hb:Below w.heap.size w w')=>Wv.list (htx.keep (G:=F) (Xv.below F hb) (fun _ h=>h)) (show S.text.length<=10000 from QQ));have H2:=Zy (fun(w':World) (hb:Below w.heap.size w w')=>Wv.list (hfx.keep (G:=F) (Xv.below F hb) (fun _ h=>h)) (show S.first.length<=10000 from QQ));have HA:=Zy hA;have gT:=Zy hn;have HP:=Zy hp;have HL:=Zy hl;have HFL:=Zy hfl;clear hf hA hpt hqt htx hfx hn hp hl hfl;go_enter Tryz.func143,Tryz.ntmps143
 go_upto_region 0 with fail
 go_cut [13] (fun v wx=>v=.bool (decide (S.text=S.first))/\Below w.heap.size w wx)
 case first=>
  go_region_law (first
   | (go_simp;go_at_call 79;(with_reducible show Calls _ _ #[.agg #[.pointer p]] _ _);refine(H1.out _ ?_).mono ?_;(·first|exact Wh|exact Zo.drew (ZH _ w));rintro e w5 ⟨v5,rfl,o5,hb5⟩;obtain⟨a5,n5,k5,rfl⟩:=o5.form;have s5:=o5.sl;have JS:Below w.heap.size w w5:=(by first|exact Zo.call hb5 Wh|exact Zo.call hb5 (Zo.drew (ZH _ w)));have x0:=ZL JS _ _ c0;have x45:=ZL JS _ _ c45;(try have t6:=s6.below hb5))
   | (go_simp;go_at_call 79;(with_reducible show Calls _ _ #[.agg #[.pointer q]] _ _);refine(H2.out _ ?_).mono ?_;(·first|exact JS|exact Zo.drew (ZH _ w));rintro e w6 ⟨v6,rfl,o6,hb6⟩;obtain⟨a6,n6,k6,rfl⟩:=o6.form;have s6:=o6.sl;have Wh:Below w.heap.size w w6:=(by first|exact Zo.call hb6 JS|exact Zo.call hb6 (Zo.drew (ZH _ w)));have y0:=ZL Wh _ _ c0;have y45:=ZL Wh _ _ c45;(try have t5:=s5.below hb6))
   | (go_simp;go_at_call 23;refine(WH _ _ _ _ _ _ S.text S.first _ ?_ ?_ ?_ ?_ ?_).mono ?_;(·first|exact t5.get.2.2.2.1|exact s5.get.2.2.2.1);(·first|exact t6.get.2.2.2.1|exact s6.get.2.2.2.1);(·exact s5.get.1);(·exact s6.get.1);(·have:=s5.get.2.1;have:=s5.get.2.2.1;omega);rintro e w7 ⟨rfl,nq,rfl⟩))
  all_goals
   go_wp2;go_meet;refine⟨rfl,?_⟩;refine below_drewN ?_ _;first|exact Wh|exact JS
 case rest=>
  obtain⟨rfl,hb2⟩:=hcut;have hA2:=HA.out.JA hb2;have HA2:=Zy hA2;by_cases heq:S.text=S.first
  ·rw[decide_eq_true heq]
   have HB:=Zy (U2 _ _ B S _ ⟨f,hA2.hf⟩ gT.out);have he:S.Ky=S.Yt:=by unfold SS.Ky;rw[if_pos heq]
   have HE:=Zy he;clear hA2 heq he hb2;go_wp2_with fail
   refine HB.out.mono ?_;rintro e w7 ⟨rfl,hv⟩;go_wp2
   go_end0
   obtain⟨F',f',hA3,-,-⟩:=HA2.out.call hv;exact⟨rfl,Qv9⟩
  ·rw[decide_eq_false heq]
   have HB:=Zy (Nr _ _ B S _ ⟨f,hA2.hf⟩ HP.out);have he:S.Ky={S.save with text:=S.first,pos:=0}:=by unfold SS.Ky;rw[if_neg heq]
   have HE:=Zy he;clear hA2 heq he hb2;go_wp2_with fail
   refine HB.out.mono ?_;rintro e w7 ⟨rfl,hv⟩;obtain⟨F',f',hA3,-,-⟩:=HA2.out.call hv;obtain⟨q3,hq3⟩:=hA3.hf.d.first.ptr
   obtain⟨x0,z0⟩:=hA3.hf.m.blk.at 0;obtain⟨x1,z1⟩:=hA3.hf.m.blk.at 1;obtain⟨x45,z45⟩:=hA3.hf.m.blk.at 45;rw[hq3]at x45;have kg:=Zy hA3;have HQ:=Zy hq3;clear hA3 hv hq3;go_wp2
   go_end0
   have hA3:=kg.out;have hfx:=hA3.hf.d.first
   rw[HQ.out]at hfx;have UY:=hA3.store (S':={S.save with text:=S.first}) 0 (.pointer q3) {hA3.hf.d with text:=hfx};exact⟨rfl,by rw[HE.out];exact(UY.store (S':={S.save with text:=S.first,pos:=0}) 1 (.int .i64 0) {UY.hf.d with pos:=rfl}).done⟩
theorem iC(F G:Nat->Prop)(B:Nat)(S:SS)(w:World)(h:Yv F G w B S)(hp:S.past.length<=30)(hn:S.told.length<=4398046511103):
  Calls Tryz.prog 142 #[.pointer (some ⟨B,0,none⟩)] w (VP F G w B S.back YG):=by
 obtain⟨f,hf⟩:=h;have hA:=At.begin hf;obtain⟨p,hpt⟩:=hf.d.text.ptr;obtain⟨us,hps,hsn⟩:=hf.d.past.get;have AY:=hps;obtain⟨a,n,c,hv,-⟩:=hps;rw[hv]at AY;obtain⟨g1,g2,g3,g4,g5⟩:=AY.get;have c0:=hf.cell 0;have c1:=hf.cell 1;have eO:=hf.cell 43;have c44:=hf.cell 44;rw[hpt]at c0;rw[hf.d.pos]at c1;rw[hv]at eO;rw[hf.d.fut]at c44;have HD:=Zy (fun(w':World) (hb:Below w.heap.size w w')=>Pv a n c us p S.pos w' (g4.YP hb) hsn.oks g1 (by rw[<-g1,hsn.1];exact hp) g5);have HA:=Zy hA;have HSN:=Zy hsn;have HPT:=Zy hpt;have HN:=Zy (g1.symm.trans hsn.1);have hBl:=hf.uq;have gT:=Zy hn;have HP:=Zy g1;clear hf hA AY hsn hv g1 g2 g3 g4 g5 hpt hp hn;go_enter Tryz.func142,Tryz.ntmps142
 go_upto_region 0 with fail
 go_cut [2,3,4] (fun v2 v3 v4 wx=>∃H K a1 n1 c1 a2 n2 c2 p' q',v2=.pointer (some ⟨H,0,none⟩)/\v3=.pointer (some ⟨K,0,none⟩)/\v4=.bool (decide (0<us.length))/\w.heap.size<=H/\w.heap.size<=K/\wx.cell? ⟨H,0,none⟩=some (.slice a1 n1 c1)/\wx.cell? ⟨H,1,none⟩=some (.slice a2 n2 c2)/\wx.cell? ⟨K,0,none⟩=some (.pointer p')/\wx.cell? ⟨K,1,none⟩=some (.int .i64 q')/\(0<us.length->je (fun k=>w.heap.size<=k) wx (.slice a1 n1 c1) us.dropLast/\zT us (us.length-1)=⟨.pointer p',.int .i64 q'⟩)/\Below w.heap.size w wx)
 case first=>
  go_region_law (first|(go_simp;go_at_call 205;refine(HD.out _ ?_).mono ?_;(·repeat' (first|(with_reducible exact ZH _ _)|(with_reducible refine Zo.alloc ?_)|(with_reducible refine Zo.drew ?_)));rintro e w5 ⟨a1,n1,c1,a2,n2,c2,p',q',rfl,hpq,hb5⟩;have hs5:w.heap.size<=w5.heap.size:=(by have:=hb5.size;simp at this;omega);(first|(refine yA (P:=Za w5 (w.heap.size) #[.slice none 0 0,.slice none 0 0] 109) ?_ ?_;(·repeat' (first|((with_reducible refine JV ?_);(first|rfl|(simp;done)))|(with_reducible refine Za.YP hb5 ?_)|(with_reducible refine Za.J5 ?_)|(with_reducible refine Za.Yc ?_)));intro hH2;have hlt2:=hH2.lt;obtain⟨h20,h21,k20,k21⟩:=hH2.two)|(refine yA (P:=Za w5 (w.heap.size+1) #[.slice none 0 0,.slice none 0 0] 109) ?_ ?_;(·repeat' (first|((with_reducible refine JV ?_);(first|rfl|(simp;done)))|(with_reducible refine Za.YP hb5 ?_)|(with_reducible refine Za.J5 ?_)|(with_reducible refine Za.Yc ?_)));intro hH2;have hlt2:=hH2.lt;obtain⟨h20,h21,k20,k21⟩:=hH2.two)|skip);(first|(refine yA (P:=Za w5 (w.heap.size) #[.pointer none,.int .i64 0] 106) ?_ ?_;(·repeat' (first|((with_reducible refine JV ?_);(first|rfl|(simp;done)))|(with_reducible refine Za.YP hb5 ?_)|(with_reducible refine Za.J5 ?_)|(with_reducible refine Za.Yc ?_)));intro hH3;have hlt3:=hH3.lt;obtain⟨h30,h31,sM,sI⟩:=hH3.two)|(refine yA (P:=Za w5 (w.heap.size+1) #[.pointer none,.int .i64 0] 106) ?_ ?_;(·repeat' (first|((with_reducible refine JV ?_);(first|rfl|(simp;done)))|(with_reducible refine Za.YP hb5 ?_)|(with_reducible refine Za.J5 ?_)|(with_reducible refine Za.Yc ?_)));intro hH3;have hlt3:=hH3.lt;obtain⟨h30,h31,sM,sI⟩:=hH3.two)|skip);have JS:Below w.heap.size w w5:=QG))
  all_goals
   go_wp2;go_meet;refine⟨_,_,a1,n1,c1,a2,n2,c2,p',q',rfl,rfl,rfl,QQ,QQ,?_,?_,?_,?_,fun h=>⟨(hpq h).1.OA ?_ ?_,(hpq h).2⟩,?_⟩
   ·go_simp
   ·go_simp
   ·go_simp
   ·go_simp
   ·repeat' (first|(with_reducible exact Xv.refl _ _)|(with_reducible refine Xv.Yc ?_)|(with_reducible refine Xv.J5 ?_)|((with_reducible refine Xv.vX ?_ ?_);(intro hk;simp at hk;omega)))
   ·intro k hk
    simp at hk;omega
   ·repeat' (first|(with_reducible exact JS)|(with_reducible refine Zo.alloc ?_)|(with_reducible refine Zo.drew ?_)|((with_reducible refine Zo.set ?_ ?_);(first|omega|(simp;omega))))
 case rest=>
  obtain⟨H,K,a1,n1,c1',a2,n2,c2,p',q',rfl,rfl,rfl,hH,hK,x0,x1,x2,x3,hpq,hb2⟩:=hcut;obtain⟨wz,hWe⟩:∃W5,W5=wc:=⟨_,rfl⟩;subst hWe;have hA2:=HA.out.below hb2;have HA2:=Zy hA2;have HPQ:=Zy hpq;by_cases hz:us.length=0
  ·have hd:decide (0<us.length)=false:=decide_eq_false QQ
   rw[hd];have HB:=Zy (U2 (Fx F w wz) (Gx G w wz) B S wz ⟨f,hA2.hf⟩ gT.out);clear hA2 hpq;go_wp2_with fail
   refine HB.out.mono ?_;rintro e w7 ⟨rfl,hv⟩;go_wp2
   go_end0
   have he:S.back=S.Yt:=by
    unfold SS.back;rw[if_pos (by rw[<-HSN.out.1];exact hz)]
   obtain⟨F',f',hA3,-,-⟩:=HA2.out.call hv;exact⟨rfl,by rw[he];exact hA3.done⟩
  ·have hd:decide (0<us.length)=true:=decide_eq_true QQ
   rw[hd];have y0:=hA2.hf.cell 0;have y1:=hA2.hf.cell 1;have y43:=hA2.hf.cell 43;have y44:=hA2.hf.cell 44;have k0:=hA2.hf.free 0;have k1:=hA2.hf.free 1;have k43:=hA2.hf.free 43;have k44:=hA2.hf.free 44;have hHB:H≠B:=QQ;have hKB:K≠B:=QQ;clear hA2 hpq;go_upto_region 3 with fail
   go_region
   go_wp2
   go_end0
   have hsl:=HSN.out.1;have hl:S.past.length-1<S.past.length:=QQ;have hpl:(S.past.getLast?).getD ([],0)=S.past[S.past.length-1]:=by rw[List.getLast?_eq_getElem?,XJ hl];rfl
   obtain⟨hps,hq⟩:=HPQ.out QQ;obtain⟨t1,t2⟩:=HSN.out.2 (S.past.length-1) hl;rw[hsl]at hq;rw[hq]at t1 t2;dsimp only at t1 t2;simp only[Value.int.injEq,true_and]at t2;have he:S.back={S with text:=S.past[S.past.length-1].1,pos:=q',past:=S.past.dropLast}:=by
    unfold SS.back;rw[if_neg QQ,hpl,t2]
   have hA2:=HA2.out;have hA3:=hA2.store (S':={S with past:=S.past.dropLast}) 43 (.slice a1 n1 c1') {hA2.hf.d with past:=((HSN.out.dropLast).keep (Xv.below _ hb2) Fx.old).snp (hps.lt.imp fun k hk=>Fx.new k hk)};have UY:=hA3.store (S':={S with past:=S.past.dropLast}) 44 (.slice none 0 0) {hA3.hf.d with fut:=rfl};have Kn:=UY.store (S':={S with text:=S.past[S.past.length-1].1,past:=S.past.dropLast}) 0 (.pointer p') {UY.hf.d with text:=((t1.keep (Xv.below _ hb2) Fx.old).keep (Xv.setCell (a:=⟨B,43,none⟩) hA2.hf.m.nB _) (fun _ h=>h)).keep (Xv.setCell (a:=⟨B,44,none⟩) hA2.hf.m.nB _) (fun _ h=>h)};have Vt:=Kn.store (S':={S with text:=S.past[S.past.length-1].1,pos:=q',past:=S.past.dropLast}) 1 (.int .i64 q') {Kn.hf.d with pos:=rfl};exact⟨rfl,by rw[he];exact Vt.drew.done⟩
theorem Vw.form{F:Nat->Prop}{w:World}{lv:Value}{most Zi:Int}{sv pv:Value}{older:Bool}{h:Hi}(r:Vw F w lv most Zi sv pv older h):∃la ln lc sa sn sc pa pn pc,lv=.slice la ln lc/\sv=.slice sa sn sc/\pv=.slice pa pn pc:=by
 obtain⟨sa,sn,sc,h1⟩:=r.XQ.form;obtain⟨pa,pn,pc,h2⟩:=r.pat.form;obtain⟨vs,h3,-⟩:=r.ls;obtain⟨a,n,c,e,-⟩:=h3;exact⟨a,n,c,sa,sn,sc,pa,pn,pc,e,h1,h2⟩
theorem At.jr{F0 G0 F:Nat->Prop}{w0 w w':World}{B:Nat}{f:Nat->Value}{S:SS}{v:Value}{xs:List Int}(h:At F0 G0 w0 F w B f S)(o:Own 3 w.heap.size w' v xs):Yf (Fx F w w') w' v xs:=o.jr.lt.imp fun k hk=>Fx.new k hk
theorem Vw.fx{F:Nat->Prop}{w w':World}{lv:Value}{most Zi:Int}{sv pv:Value}{older:Bool}{h:Hi}(r:Vw (fun k=>w.heap.size<=k) w' lv most Zi sv pv older h):Vw (Fx F w w') w' lv most Zi sv pv older h:=r.lt.imp fun k hk=>Fx.new k hk
theorem PY(F G:Nat->Prop)(B:Nat)(S:SS)(w:World)(h:Yv F G w B S)(hl:S.text.length<=200)(hh:xC S.Z8=0)(hn:S.told.length<=4398046511103):
  Calls Tryz.prog 85 #[.pointer (some ⟨B,0,none⟩)] w (VP F G w B S.accept YG):=by
 obtain⟨f,hf⟩:=h;have hA:=At.begin hf;obtain⟨p,hp⟩:=hf.d.text.ptr;obtain⟨c0,-⟩:=hf.m.blk.at 0;rw[hp]at c0;have htx:=hf.d.text;rw[hp]at htx;have HT:=Zy (Wv.list htx QQ);have HA:=Zy hA;have HN:=Zy hn;have HL:=Zy hl;have HH:=Zy hh;clear hf hA hp htx hn hl hh;go_enter Tryz.func85,Tryz.ntmps85
 go_wp2_with fail
 refine HT.out.mono ?_;rintro e w2 ⟨v,rfl,o2,hb2⟩;obtain⟨a2,n2,c2,rfl⟩:=o2.form;have hA2:=HA.out.below hb2;have hs2:=HA.out.jr o2;obtain⟨g1,g2,g3,g4,g5⟩:=hs2.get;have hh2:=hA2.hf.d.Z8;have HD:=Zy (dY _ _ _ _ _ _ S.Z8 a2 n2 c2 S.text w2 hh2.hir g4 g1 g5);obtain⟨la,ln,lc,sa,sn,sc,pa,pn,pc,e1,e2,e3⟩:=hh2.form;obtain⟨c37,-⟩:=hA2.hf.m.blk.at 37;obtain⟨c38,-⟩:=hA2.hf.m.blk.at 38;obtain⟨c39,-⟩:=hA2.hf.m.blk.at 39;obtain⟨c40,-⟩:=hA2.hf.m.blk.at 40;obtain⟨c41,-⟩:=hA2.hf.m.blk.at 41;obtain⟨c42,-⟩:=hA2.hf.m.blk.at 42;rw[e1]at c37;rw[hA2.hf.d.OO]at c38;rw[hA2.hf.d.C8]at c39;rw[e2]at c40;rw[e3]at c41;rw[hA2.hf.d.holder]at c42;rw[e1,e2,e3]at HD;unfold X3 at HD;have HA2:=Zy hA2;have HS2:=Zy hs2;have HG1:=Zy (show n2<=4096 by have:=HL.out;omega);clear hA2 hs2 hh2 g1 g2 g3 g4 g5 e1 e2 e3 o2 hb2;go_wp2_with fail
 refine HD.out.mono ?_;rintro e w3 ⟨h3,E3,hR,lv,sv,pv,rfl,hP,hb3⟩;obtain⟨rfl,rfl⟩:h3=Wp S.Z8 S.text/\E3=0:=by
  rcases hR with⟨q,_⟩|⟨_,q,_⟩|⟨_,_,q1,q2⟩
  ·exact absurd HH.out q
  ·have:=HL.out;omega
  ·exact⟨q1,q2⟩
 clear hR;obtain⟨la3,ln3,lc3,sa3,sn3,sc3,pa3,pn3,pc3,rfl,rfl,rfl⟩:=hP.form;have hA3:=HA2.out.below hb3;obtain⟨f4,UY,-⟩:=hA3.Nw (hh:=Wp S.Z8 S.text) (Vw.fx hP);have nB:=hA3.hf.m.nB;have hl4:=(((((((HS2.out.below hb3).imp (Fx.old (w:=w2) (w':=w3))).UR (i:=37) (u:=.slice la3 ln3 lc3) nB).UR (i:=38) (u:=.int .i64 (Wp S.Z8 S.text).most) nB).UR (i:=39) (u:=.int .i64 (Wp S.Z8 S.text).Zi) nB).UR (i:=40) (u:=.slice sa3 sn3 sc3) nB).UR (i:=41) (u:=.slice pa3 pn3 pc3) nB).UR (i:=42) (u:=.bool (Wp S.Z8 S.text).older) nB;have HTL:=Zy (uX _ _ B {S with Z8:=Wp S.Z8 S.text} 2 _ S.text _ ⟨f4,UY.hf⟩ hl4 HN.out);obtain⟨LY,z37⟩:=hA3.hf.m.blk.at 37;obtain⟨x38,z38⟩:=hA3.hf.m.blk.at 38;obtain⟨x39,z39⟩:=hA3.hf.m.blk.at 39;obtain⟨LM,z40⟩:=hA3.hf.m.blk.at 40;obtain⟨Fe,z41⟩:=hA3.hf.m.blk.at 41;obtain⟨Fb,z42⟩:=hA3.hf.m.blk.at 42;have iZ:=Zy UY;clear hA3 UY nB hl4 hP hb3 c0 c37 c38 c39 c40 c41 c42;unfold X3;go_wp2_with fail
 refine HTL.out.mono ?_;rintro e w5 ⟨rfl,hv⟩;obtain⟨F5,f5,Kn,-,-⟩:=iZ.out.call hv;have Vt:=Kn.N9;have HBG:=Zy (uP _ _ B _ none 0 0 [] 1 _ ⟨_,Vt.hf⟩ (Sl.nil _) QQ (.inr rfl));obtain⟨ru,z47⟩:=Kn.hf.m.blk.at 47;have HA6:=Zy Vt;clear Kn Vt hv;go_wp2_with fail
 refine HBG.out.mono ?_;rintro e w7 ⟨rfl,hv⟩;obtain⟨F7,f7,jP,-,-⟩:=HA6.out.call hv;have HA7:=Zy jP;clear jP hv;go_wp2
 go_end0
 exact⟨rfl,HA7.out.done⟩
theorem Ww.qK{h:Hi}{xs:List Int}{n way:Int}{h':Hi}{l:List Int}{E:Int}(r:Ww h xs n way h' l E):qK h xs n way=(h',l,E):=by
 unfold Go.Proofs.YtmdcencmiopmmaaGreat.qK;rcases r with⟨h1,rfl,rfl,rfl⟩|⟨h1,h2,rfl,rfl,rfl⟩|⟨h1,k,h2,rfl,rfl,rfl⟩
 ·rw[if_pos h1]
 ·rw[if_neg (fun e=>e h1),h2]
 ·rw[if_neg (fun e=>e h1),h2]
theorem Ww.small{h:Hi}{xs:List Int}{n way:Int}{h':Hi}{l:List Int}{E:Int}(r:Ww h xs n way h' l E):l.length<=200:=by
 have hm:=uV h xs n way;rw[r.qK]at hm;rcases r with⟨h1,rfl,rfl,rfl⟩|⟨h1,h2,rfl,rfl,rfl⟩|⟨h1,k,h2,rfl,rfl,rfl⟩
 ·simp
 ·simp
 ·exact(hm rfl).2
theorem Y4.small{h:Hi}{xs ps:List Int}{ol:Bool}{h':Hi}{l:List Int}{E:Int}(r:Y4 h xs ps ol h' l E):l.length<=200:=by
 have hm:=r.ok;rcases r with⟨_,_,rfl,_⟩|⟨_,_,_,rfl,_⟩|⟨_,_,_,_,rfl,_⟩|⟨_,_,_,k,_,rfl,rfl,rfl⟩|⟨_,_,_,_,_,rfl,_⟩
 ·simp
 ·simp
 ·simp
 ·exact(hm rfl).2
 ·simp
theorem KI.small{h:Hi}{xs:List Int}{tu:Bool}{h':Hi}{l:List Int}{E:Int}(r:KI h xs tu h' l E):l.length<=200:=by
 obtain⟨h1,hf,_⟩:=r;exact hf.small
theorem Yf.len{F:Nat->Prop}{w:World}{a:Option Addr}{m c:Nat}{l:List Int}(h:Yf F w (.slice a m c) l)(hl:l.length<=200):m<=4096:=by have:=h.get.1;omega
theorem Ka{F G:Nat->Prop}{w:World}{B:Nat}{f:Nat->Value}{S:SS}(h:HF F G w B f S):∃la ln lc sa sn sc pa pn pc,Vw F w (.slice la ln lc) S.Z8.most S.Z8.Zi (.slice sa sn sc) (.slice pa pn pc) S.Z8.older S.Z8/\
  f 37=.slice la ln lc/\f 38=.int .i64 S.Z8.most/\f 39=.int .i64 S.Z8.Zi/\f 40=.slice sa sn sc/\f 41=.slice pa pn pc/\f 42=.bool S.Z8.older:=by
 obtain⟨la,ln,lc,sa,sn,sc,pa,pn,pc,e1,e2,e3⟩:=h.d.Z8.form;have r:=h.d.Z8;rw[e1,e2,e3]at r;exact⟨la,ln,lc,sa,sn,sc,pa,pn,pc,r,e1,h.d.OO,h.d.C8,e2,e3,h.d.holder⟩
theorem Bu(F G:Nat->Prop)(B K:Nat)(S:SS)(key:Int)(w:World)(h:Yv F G w B S)(hI:XW K S)(hk:key=13\/key=10)(hn:S.told.length<=4398046511103):
  Calls Tryz.prog 84 #[.pointer (some ⟨B,0,none⟩),.int .i64 key] w (VP F G w B (S.asked key) YG):=by
 obtain⟨f,hf⟩:=h;have hA:=At.begin hf;have he:S.asked key=({S with mode:=0}).moved (CQ S.Z8 S.text S.ask S.older):=by unfold SS.asked;rw[if_pos hk]
 rw[he];obtain⟨c2,z2⟩:=hf.m.blk.at 2;have hA2:=hA.store (S':={S with mode:=0}) 2 (.int .i64 0) {hA.hf.d with mode:=rfl};generalize hw2:w.setCell ⟨B,2,none⟩ (.int .i64 0)=w2 at hA2;obtain⟨p,hp⟩:=hA2.hf.d.text.ptr;obtain⟨la,ln,lc,sa,sn,sc,pa,pn,pc,hH,e37,e38,e39,e40,e41,e42⟩:=Ka hA2.hf;obtain⟨qa,qn,qc,e48⟩:=hA2.hf.d.ask.form;have x0:=hA2.hf.cell 0;have LY:=hA2.hf.cell 37;have x38:=hA2.hf.cell 38;have x39:=hA2.hf.cell 39;have LM:=hA2.hf.cell 40;have Fe:=hA2.hf.cell 41;have Fb:=hA2.hf.cell 42;have x48:=hA2.hf.cell 48;have gD:=hA2.hf.cell 49;rw[hp]at x0;rw[e37]at LY;rw[e38]at x38;rw[e39]at x39;rw[e40]at LM;rw[e41]at Fe;rw[e42]at Fb;rw[e48]at x48;rw[hA2.hf.d.older]at gD;have htx:=hA2.hf.d.text;have qU:=hA2.hf.d.ask;rw[hp]at htx;rw[e48]at qU;have HA2:=Zy hA2;have HI:=Zy hI;have gT:=Zy hn;have HH:=Zy hH;have HK:=Zy qU;have HT:=Zy (fun(w':World) (hb:Below w2.heap.size w2 w')=>Wv.list (htx.keep (G:=F) (Xv.below F hb) (fun _ h=>h)) (show S.text.length<=10000 from QBt));have HW:=Zy hw2;clear hf hA hA2 hp hH e37 e38 e39 e40 e41 e42 e48 htx qU hI hn he hw2;rcases hk with rfl|rfl
 all_goals
  go_enter Tryz.func84,Tryz.ntmps84
  go_upto_region 3 with fail
  rw[HW.out]
  go_region_law (first
   | (go_simp;go_at_call 79;refine(HT.out _ ?_).mono ?_;(·first|exact Zo.drew (ZH _ w2)|exact ZH _ w2);rintro e w5 ⟨v5,rfl,o5,hb5⟩;obtain⟨a5,n5,k5,rfl⟩:=o5.form;have JS:Below w2.heap.size w2 w5:=(by first|exact Zo.call hb5 (Zo.drew (ZH _ w2))|exact hb5);have y37:=ZL JS _ _ LY;have y38:=ZL JS _ _ x38;have y39:=ZL JS _ _ x39;have y40:=ZL JS _ _ LM;have rz:=ZL JS _ _ Fe;have rq:=ZL JS _ _ Fb;have y48:=ZL JS _ _ x48;have y49:=ZL JS _ _ gD)
   | (go_simp;go_at_call 132;refine Calls.mono (Cw _ _ _ _ _ _ S.Z8 a5 n5 k5 S.text qa qn qc S.ask S.older w5 (HH.out.below JS).hir o5.sl.get.2.2.2.1 o5.sl.get.1 o5.sl.get.2.2.2.2 (HK.out.below JS).get.2.2.2.1 HK.out.get.1 HK.out.get.2.2.2.2 HK.out.get.2.1 HK.out.get.2.2.1) ?_;rintro e w8 ⟨h8,l8,E8,VC,lv,sv,pv,nv,rfl,dH,qR,XF⟩;obtain⟨a8,n8,k8,rfl⟩:=qR.form;have qj:=HA2.out.below (Zo.call XF JS))
   | (go_simp;go_at_call 131;refine Calls.mono (WZ _ _ B {S with mode:=0} lv sv pv h8 a8 n8 k8 l8 E8 w8 ⟨_,qj.hf⟩ (dH.lt.imp fun k hk=>.inr ⟨Zh JS.size hk.1,hk.2⟩) (qR.lt.imp fun k hk=>.inr ⟨Zh JS.size hk.1,hk.2⟩) (qR.len VC.small) gT.out) ?_;rintro e w9 ⟨rfl,cK⟩))
  all_goals
   go_wp2
   go_end0
   obtain⟨F9,f9,Wq,-,-⟩:=qj.call cK;rw[oZ VC];exact⟨rfl,Wq.done⟩
theorem Bj(W0:World)(F G:Nat->Prop)(B K:Nat)(S:SS)(ca cb cc cd ce:Int)(w:World)(h:Yv F G w B S)(hI:XW K S)(hm:S.mode=0)(hc:0<=ca/\ca<=999)(hK:K<=4398046511103)(hn:S.told.length+K+2<=4398046511103)(h0:cc≠0):
  Calls Tryz.prog 90 #[.pointer (some ⟨B,0,none⟩),.agg #[.int .i64 ca,.int .i64 cb,.int .i64 cc,.int .i64 cd,.int .i64 ce]] w (VP F G w B (S.command W0 ⟨ca,cb,cc,cd,ce⟩) YG):=by
 obtain⟨f,hf⟩:=h;have hb1:=ZT w (.cells #[.int .i64 ca,.int .i64 cb,.int .i64 cc,.int .i64 cd,.int .i64 ce] 87);have KO:=Za.new w #[.int .i64 ca,.int .i64 cb,.int .i64 cc,.int .i64 cd,.int .i64 ce] 87;have hA1:=(At.begin hf).below hb1;obtain⟨p,hpt⟩:=hf.d.text.ptr;have c0:=hA1.hf.cell 0;have htx:=hA1.hf.d.text;rw[hpt]at c0 htx;have HT:=Zy (Wv.list htx Qm);have HI:=Zy hI;have HN:=Zy hn;have HA1:=Zy hA1;have HM:=Zy hm;have he:S.command W0 ⟨ca,cb,cc,cd,ce⟩=(S.Ko W0 ⟨ca,cb,cc,cd,ce⟩).1:=by
  unfold SS.command;dsimp only;rw[if_pos h0]
 have HE:=Zy he;clear hI hn hf hb1 hA1 hpt htx he hm;go_enter Tryz.func90,Tryz.ntmps90
 go_wp2_with fail
 refine HT.out.mono ?_;rintro e w2 ⟨v,rfl,o2,hb2⟩;obtain⟨a2,n2,k2,rfl⟩:=o2.form;have hA2:=HA1.out.below hb2;obtain⟨d0,d1,d2,d3,d4⟩:=Za.five (KO.below hb2 KO.lt);clear c0 KO;have h1:(cc !=0)=true:=Q7;have HB:=Zy (Lh W0 _ _ B K S ⟨ca,cb,cc,cd,ce⟩ w2 ⟨f,hA2.hf⟩ HI.out HM.out hc QAZ);exact QDy
theorem kW(W0:World)(F G:Nat->Prop)(B K:Nat)(S:SS)(ca cb cc cd ce:Int)(w:World)(h:Yv F G w B S)(hI:XW K S)(hm:S.mode=0)(hc:0<=ca/\ca<=999)(hK:K<=4398046511103)(hn:S.told.length+K+2<=4398046511103)(h0:cd≠117)(h1:cd≠85)(h2:cd≠46)(h3:cd≠107)(h4:cd≠106)(h5:cd≠71)(h6:cd≠110)(h7:cd≠78)(h8:cd≠47)(h9:cd≠63):
  Calls Tryz.prog 90 #[.pointer (some ⟨B,0,none⟩),.agg #[.int .i64 ca,.int .i64 cb,.int .i64 0,.int .i64 cd,.int .i64 ce]] w (VP F G w B (S.command W0 ⟨ca,cb,0,cd,ce⟩) YG):=by
 obtain⟨f,hf⟩:=h;have hb1:=ZT w (.cells #[.int .i64 ca,.int .i64 cb,.int .i64 0,.int .i64 cd,.int .i64 ce] 87);have KO:=Za.new w #[.int .i64 ca,.int .i64 cb,.int .i64 0,.int .i64 cd,.int .i64 ce] 87;have hA1:=(At.begin hf).below hb1;obtain⟨p,hpt⟩:=hf.d.text.ptr;have c0:=hA1.hf.cell 0;have htx:=hA1.hf.d.text;rw[hpt]at c0 htx;have HT:=Zy (Wv.list htx Qm);have HI:=Zy hI;have HN:=Zy hn;have HA1:=Zy hA1;have HM:=Zy hm;have he:S.command W0 ⟨ca,cb,0,cd,ce⟩=(S.Ko W0 ⟨ca,cb,0,cd,ce⟩).1:=by
  unfold SS.command;dsimp only;rw[if_neg QZ,if_neg h0,if_neg h1,if_neg h2,if_neg h3,if_neg h4,if_neg h5,if_neg QQ,if_neg QQ]
 have HE:=Zy he;clear hI hn hf hb1 hA1 hpt htx he hm;go_enter Tryz.func90,Tryz.ntmps90
 go_wp2_with fail
 refine HT.out.mono ?_;rintro e w2 ⟨v,rfl,o2,hb2⟩;obtain⟨a2,n2,k2,rfl⟩:=o2.form;have hA2:=HA1.out.below hb2;obtain⟨d0,d1,d2,d3,d4⟩:=Za.five (KO.below hb2 KO.lt);clear c0 KO;have g0:(cd==117)=false:=Q7;have g1:(cd==85)=false:=QA1;have g2:(cd==46)=false:=QA0;have g3:(cd==107)=false:=QAt;have g4:(cd==106)=false:=QBD;have g5:(cd==71)=false:=by simpa using h5
 have g6:(cd==110)=false:=by simpa using h6
 have g7:(cd==78)=false:=by simpa using h7
 have g8:(cd==47)=false:=by simpa using h8
 have g9:(cd==63)=false:=by simpa using h9
 have HB:=Zy (Lh W0 _ _ B K S ⟨ca,cb,0,cd,ce⟩ w2 ⟨f,hA2.hf⟩ HI.out HM.out hc QAZ);exact QDy
theorem DR(W0:World)(F G:Nat->Prop)(B K:Nat)(S:SS)(ca cb cc cd ce:Int)(w:World)(h:Yv F G w B S)(hI:XW K S)(hm:S.mode=0)(hc:0<=ca/\ca<=999)(hK:K<=4398046511103)(hn:S.told.length+K+2<=4398046511103):
  Calls Tryz.prog 90 #[.pointer (some ⟨B,0,none⟩),.agg #[.int .i64 ca,.int .i64 cb,.int .i64 0,.int .i64 117,.int .i64 ce]] w (VP F G w B (S.command W0 ⟨ca,cb,0,117,ce⟩) YG):=by
 obtain⟨f,hf⟩:=h;have hb1:=ZT w (.cells #[.int .i64 ca,.int .i64 cb,.int .i64 0,.int .i64 117,.int .i64 ce] 87);have KO:=Za.new w #[.int .i64 ca,.int .i64 cb,.int .i64 0,.int .i64 117,.int .i64 ce] 87;have hA1:=(At.begin hf).below hb1;obtain⟨p,hpt⟩:=hf.d.text.ptr;have c0:=hA1.hf.cell 0;have htx:=hA1.hf.d.text;rw[hpt]at c0 htx;have HT:=Zy (Wv.list htx Qm);have HI:=Zy hI;have HN:=Zy hn;have HA1:=Zy hA1;have HM:=Zy hm;have he:S.command W0 ⟨ca,cb,0,117,ce⟩=S.back:=by
  unfold SS.command;dsimp only;rw[if_neg QZ];rw[if_pos rfl]
 have HE:=Zy he;clear hI hn hf hb1 hA1 hpt htx he hm;go_enter Tryz.func90,Tryz.ntmps90
 go_wp2_with fail
 refine HT.out.mono ?_;rintro e w2 ⟨v,rfl,o2,hb2⟩;obtain⟨a2,n2,k2,rfl⟩:=o2.form;have hA2:=HA1.out.below hb2;obtain⟨d0,d1,d2,d3,d4⟩:=Za.five (KO.below hb2 KO.lt);clear c0 KO;have HB:=Zy (iC _ _ B S w2 ⟨f,hA2.hf⟩ HI.out.pl QAZ);exact QDy
theorem Dc(W0:World)(F G:Nat->Prop)(B K:Nat)(S:SS)(ca cb cc cd ce:Int)(w:World)(h:Yv F G w B S)(hI:XW K S)(hm:S.mode=0)(hc:0<=ca/\ca<=999)(hK:K<=4398046511103)(hn:S.told.length+K+2<=4398046511103):
  Calls Tryz.prog 90 #[.pointer (some ⟨B,0,none⟩),.agg #[.int .i64 ca,.int .i64 cb,.int .i64 0,.int .i64 85,.int .i64 ce]] w (VP F G w B (S.command W0 ⟨ca,cb,0,85,ce⟩) YG):=by
 obtain⟨f,hf⟩:=h;have hb1:=ZT w (.cells #[.int .i64 ca,.int .i64 cb,.int .i64 0,.int .i64 85,.int .i64 ce] 87);have KO:=Za.new w #[.int .i64 ca,.int .i64 cb,.int .i64 0,.int .i64 85,.int .i64 ce] 87;have hA1:=(At.begin hf).below hb1;obtain⟨p,hpt⟩:=hf.d.text.ptr;have c0:=hA1.hf.cell 0;have htx:=hA1.hf.d.text;rw[hpt]at c0 htx;have HT:=Zy (Wv.list htx Qm);have HI:=Zy hI;have HN:=Zy hn;have HA1:=Zy hA1;have HM:=Zy hm;have he:S.command W0 ⟨ca,cb,0,85,ce⟩=S.Ky:=by
  unfold SS.command;dsimp only;rw[if_neg QZ];rw[if_neg QZ];rw[if_pos rfl]
 have HE:=Zy he;clear hI hn hf hb1 hA1 hpt htx he hm;go_enter Tryz.func90,Tryz.ntmps90
 go_wp2_with fail
 refine HT.out.mono ?_;rintro e w2 ⟨v,rfl,o2,hb2⟩;obtain⟨a2,n2,k2,rfl⟩:=o2.form;have hA2:=HA1.out.below hb2;obtain⟨d0,d1,d2,d3,d4⟩:=Za.five (KO.below hb2 KO.lt);clear c0 KO;have HB:=Zy (PX _ _ B S w2 ⟨f,hA2.hf⟩ HI.out.tl HI.out.fl HI.out.pl QAZ);exact QDy
theorem uO(W0:World)(F G:Nat->Prop)(B K:Nat)(S:SS)(ca cb cc cd ce:Int)(w:World)(h:Yv F G w B S)(hI:XW K S)(hm:S.mode=0)(hc:0<=ca/\ca<=999)(hK:K<=4398046511103)(hn:S.told.length+K+2<=4398046511103):
  Calls Tryz.prog 90 #[.pointer (some ⟨B,0,none⟩),.agg #[.int .i64 ca,.int .i64 cb,.int .i64 0,.int .i64 46,.int .i64 ce]] w (VP F G w B (S.command W0 ⟨ca,cb,0,46,ce⟩) YG):=by
 obtain⟨f,hf⟩:=h;have hb1:=ZT w (.cells #[.int .i64 ca,.int .i64 cb,.int .i64 0,.int .i64 46,.int .i64 ce] 87);have KO:=Za.new w #[.int .i64 ca,.int .i64 cb,.int .i64 0,.int .i64 46,.int .i64 ce] 87;have hA1:=(At.begin hf).below hb1;obtain⟨p,hpt⟩:=hf.d.text.ptr;have c0:=hA1.hf.cell 0;have htx:=hA1.hf.d.text;rw[hpt]at c0 htx;have HT:=Zy (Wv.list htx Qm);have HI:=Zy hI;have HN:=Zy hn;have HA1:=Zy hA1;have HM:=Zy hm;have he:S.command W0 ⟨ca,cb,0,46,ce⟩=S.again W0 ca:=by
  unfold SS.command;dsimp only;rw[if_neg QZ];rw[if_neg QZ];rw[if_neg QZ];rw[if_pos rfl]
 have HE:=Zy he;clear hI hn hf hb1 hA1 hpt htx he hm;go_enter Tryz.func90,Tryz.ntmps90
 go_wp2_with fail
 refine HT.out.mono ?_;rintro e w2 ⟨v,rfl,o2,hb2⟩;obtain⟨a2,n2,k2,rfl⟩:=o2.form;have hA2:=HA1.out.below hb2;obtain⟨d0,d1,d2,d3,d4⟩:=Za.five (KO.below hb2 KO.lt);clear c0 KO;have HB:=Zy (TH W0 _ _ B K S ca w2 ⟨f,hA2.hf⟩ HI.out HM.out hc.1 hc.2 hK HN.out);exact QDy
theorem Bz(W0:World)(F G:Nat->Prop)(B K:Nat)(S:SS)(ca cb cc cd ce:Int)(w:World)(h:Yv F G w B S)(hI:XW K S)(hm:S.mode=0)(hc:0<=ca/\ca<=999)(hK:K<=4398046511103)(hn:S.told.length+K+2<=4398046511103):
  Calls Tryz.prog 90 #[.pointer (some ⟨B,0,none⟩),.agg #[.int .i64 ca,.int .i64 cb,.int .i64 0,.int .i64 47,.int .i64 ce]] w (VP F G w B (S.command W0 ⟨ca,cb,0,47,ce⟩) YG):=by
 obtain⟨f,hf⟩:=h;have hb1:=ZT w (.cells #[.int .i64 ca,.int .i64 cb,.int .i64 0,.int .i64 47,.int .i64 ce] 87);have KO:=Za.new w #[.int .i64 ca,.int .i64 cb,.int .i64 0,.int .i64 47,.int .i64 ce] 87;have hA1:=(At.begin hf).below hb1;obtain⟨p,hpt⟩:=hf.d.text.ptr;have c0:=hA1.hf.cell 0;have htx:=hA1.hf.d.text;rw[hpt]at c0 htx;have HT:=Zy (Wv.list htx Qm);have HI:=Zy hI;have HN:=Zy hn;have HA1:=Zy hA1;have HM:=Zy hm;have he:S.command W0 ⟨ca,cb,0,47,ce⟩={S with mode:=3,ask:=[],older:=true}:=by
  exact QEg
 have HE:=Zy he;clear hI hn hf hb1 hA1 hpt htx he hm;go_enter Tryz.func90,Tryz.ntmps90
 go_wp2_with fail
 refine HT.out.mono ?_;rintro e w2 ⟨v,rfl,o2,hb2⟩;obtain⟨a2,n2,k2,rfl⟩:=o2.form;have hA2:=HA1.out.below hb2;obtain⟨d0,d1,d2,d3,d4⟩:=Za.five (KO.below hb2 KO.lt);clear c0 KO;have c2:=hA2.hf.cell 2;have z2:=hA2.hf.free 2;have c48:=hA2.hf.cell 48;have z48:=hA2.hf.free 48;have c49:=hA2.hf.cell 49;have z49:=hA2.hf.free 49;have HA2:=Zy hA2;clear hA2 o2 hb2;go_upto_region 23 with fail
 go_region
 go_wp2
 go_end0
 have hA2:=HA2.out.drew;have hA3:=hA2.store (S':={S with mode:=3}) 2 (.int .i64 3) {hA2.hf.d with mode:=rfl};have UY:=hA3.store (S':={S with mode:=3,ask:=[]}) 48 (.slice none 0 0) {hA3.hf.d with ask:=Yf.nil _ _};have Kn:=UY.store (S':={S with mode:=3,ask:=[],older:=true}) 49 (.bool true) {UY.hf.d with older:=rfl};exact⟨rfl,by rw[HE.out];exact Kn.done⟩
theorem Bq(W0:World)(F G:Nat->Prop)(B K:Nat)(S:SS)(ca cb cc cd ce:Int)(w:World)(h:Yv F G w B S)(hI:XW K S)(hm:S.mode=0)(hc:0<=ca/\ca<=999)(hK:K<=4398046511103)(hn:S.told.length+K+2<=4398046511103):
  Calls Tryz.prog 90 #[.pointer (some ⟨B,0,none⟩),.agg #[.int .i64 ca,.int .i64 cb,.int .i64 0,.int .i64 63,.int .i64 ce]] w (VP F G w B (S.command W0 ⟨ca,cb,0,63,ce⟩) YG):=by
 obtain⟨f,hf⟩:=h;have hb1:=ZT w (.cells #[.int .i64 ca,.int .i64 cb,.int .i64 0,.int .i64 63,.int .i64 ce] 87);have KO:=Za.new w #[.int .i64 ca,.int .i64 cb,.int .i64 0,.int .i64 63,.int .i64 ce] 87;have hA1:=(At.begin hf).below hb1;obtain⟨p,hpt⟩:=hf.d.text.ptr;have c0:=hA1.hf.cell 0;have htx:=hA1.hf.d.text;rw[hpt]at c0 htx;have HT:=Zy (Wv.list htx Qm);have HI:=Zy hI;have HN:=Zy hn;have HA1:=Zy hA1;have HM:=Zy hm;have he:S.command W0 ⟨ca,cb,0,63,ce⟩={S with mode:=3,ask:=[],older:=false}:=by
  exact QEg
 have HE:=Zy he;clear hI hn hf hb1 hA1 hpt htx he hm;go_enter Tryz.func90,Tryz.ntmps90
 go_wp2_with fail
 refine HT.out.mono ?_;rintro e w2 ⟨v,rfl,o2,hb2⟩;obtain⟨a2,n2,k2,rfl⟩:=o2.form;have hA2:=HA1.out.below hb2;obtain⟨d0,d1,d2,d3,d4⟩:=Za.five (KO.below hb2 KO.lt);clear c0 KO;have c2:=hA2.hf.cell 2;have z2:=hA2.hf.free 2;have c48:=hA2.hf.cell 48;have z48:=hA2.hf.free 48;have c49:=hA2.hf.cell 49;have z49:=hA2.hf.free 49;have HA2:=Zy hA2;clear hA2 o2 hb2;go_upto_region 23 with fail
 go_region
 go_wp2
 go_end0
 have hA2:=HA2.out.drew;have hA3:=hA2.store (S':={S with mode:=3}) 2 (.int .i64 3) {hA2.hf.d with mode:=rfl};have UY:=hA3.store (S':={S with mode:=3,ask:=[]}) 48 (.slice none 0 0) {hA3.hf.d with ask:=Yf.nil _ _};have Kn:=UY.store (S':={S with mode:=3,ask:=[],older:=false}) 49 (.bool false) {UY.hf.d with older:=rfl};exact⟨rfl,by rw[HE.out];exact Kn.done⟩
theorem Da(W0:World)(F G:Nat->Prop)(B K:Nat)(S:SS)(ca cb cc cd ce:Int)(w:World)(h:Yv F G w B S)(hI:XW K S)(hm:S.mode=0)(hc:0<=ca/\ca<=999)(hK:K<=4398046511103)(hn:S.told.length+K+2<=4398046511103):
  Calls Tryz.prog 90 #[.pointer (some ⟨B,0,none⟩),.agg #[.int .i64 ca,.int .i64 cb,.int .i64 0,.int .i64 107,.int .i64 ce]] w (VP F G w B (S.command W0 ⟨ca,cb,0,107,ce⟩) YG):=by
 obtain⟨f,hf⟩:=h;have hb1:=ZT w (.cells #[.int .i64 ca,.int .i64 cb,.int .i64 0,.int .i64 107,.int .i64 ce] 87);have KO:=Za.new w #[.int .i64 ca,.int .i64 cb,.int .i64 0,.int .i64 107,.int .i64 ce] 87;have hA1:=(At.begin hf).below hb1;obtain⟨p,hpt⟩:=hf.d.text.ptr;have c0:=hA1.hf.cell 0;have htx:=hA1.hf.d.text;rw[hpt]at c0 htx;have HT:=Zy (Wv.list htx Qm);have HI:=Zy hI;have HN:=Zy hn;have HA1:=Zy hA1;have HM:=Zy hm;have he:S.command W0 ⟨ca,cb,0,107,ce⟩=S.moved (qK S.Z8 S.text ca (-1)):=by
  unfold SS.command;dsimp only;rw[if_neg QZ];rw[if_neg QZ];rw[if_neg QZ];rw[if_neg QZ];rw[if_pos rfl]
 have HE:=Zy he;clear hI hn hf hb1 hA1 hpt htx he hm;go_enter Tryz.func90,Tryz.ntmps90
 go_wp2_with fail
 refine HT.out.mono ?_;rintro e w2 ⟨v,rfl,o2,hb2⟩;obtain⟨a2,n2,k2,rfl⟩:=o2.form;have hA2:=HA1.out.below hb2;obtain⟨d0,d1,d2,d3,d4⟩:=Za.five (KO.below hb2 KO.lt);clear c0 KO;obtain⟨la,ln,lc,sa,sn,sc,pa,pn,pc,hH,e37,e38,e39,e40,e41,e42⟩:=Ka hA2.hf;have LY:=hA2.hf.cell 37;have x38:=hA2.hf.cell 38;have x39:=hA2.hf.cell 39;have LM:=hA2.hf.cell 40;have Fe:=hA2.hf.cell 41;have Fb:=hA2.hf.cell 42;rw[e37]at LY;rw[e38]at x38;rw[e39]at x39;rw[e40]at LM;rw[e41]at Fe;rw[e42]at Fb;have hbd:Below w2.heap.size w2 w2.drew:=Zo.drew (ZH _ w2);have HU:=Zy (nY _ _ _ _ _ _ S.Z8 a2 n2 k2 ca S.text w2.drew (hH.below hbd).hir (o2.get.2.1.below hbd) o2.get.1 (o2.sl.get.2.2.2.2));have HA2:=Zy hA2;have HB2:=Zy hbd;clear hA2 o2 hb2 hH e37 e38 e39 e40 e41 e42 hbd;go_upto_region 13 with fail
 go_region_law (first|(go_simp;go_at_call 145;refine HU.out.mono ?_;rintro e w8 ⟨h8,l8,E8,VC,lv,sv,pv,nv,rfl,dH,qR,XF⟩;obtain⟨a8,n8,k8,rfl⟩:=qR.form;have qj:=HA2.out.below (Zo.call XF HB2.out))|(go_simp;go_at_call 131;refine Calls.mono (WZ _ _ B S lv sv pv h8 a8 n8 k8 l8 E8 w8 ⟨_,qj.hf⟩ (dH.lt.imp fun k hk=>Fx.new k hk) (qR.lt.imp fun k hk=>Fx.new k hk) (qR.len VC.small) (Zh (Zh (Xg _ _) (Xg _ _)) HN.out)) ?_;rintro e w9 ⟨rfl,cK⟩))
 all_goals
  exact QE3
theorem Db(W0:World)(F G:Nat->Prop)(B K:Nat)(S:SS)(ca cb cc cd ce:Int)(w:World)(h:Yv F G w B S)(hI:XW K S)(hm:S.mode=0)(hc:0<=ca/\ca<=999)(hK:K<=4398046511103)(hn:S.told.length+K+2<=4398046511103):
  Calls Tryz.prog 90 #[.pointer (some ⟨B,0,none⟩),.agg #[.int .i64 ca,.int .i64 cb,.int .i64 0,.int .i64 106,.int .i64 ce]] w (VP F G w B (S.command W0 ⟨ca,cb,0,106,ce⟩) YG):=by
 obtain⟨f,hf⟩:=h;have hb1:=ZT w (.cells #[.int .i64 ca,.int .i64 cb,.int .i64 0,.int .i64 106,.int .i64 ce] 87);have KO:=Za.new w #[.int .i64 ca,.int .i64 cb,.int .i64 0,.int .i64 106,.int .i64 ce] 87;have hA1:=(At.begin hf).below hb1;obtain⟨p,hpt⟩:=hf.d.text.ptr;have c0:=hA1.hf.cell 0;have htx:=hA1.hf.d.text;rw[hpt]at c0 htx;have HT:=Zy (Wv.list htx Qm);have HI:=Zy hI;have HN:=Zy hn;have HA1:=Zy hA1;have HM:=Zy hm;have he:S.command W0 ⟨ca,cb,0,106,ce⟩=S.moved (qK S.Z8 S.text ca 1):=by
  unfold SS.command;dsimp only;rw[if_neg QZ];rw[if_neg QZ];rw[if_neg QZ];rw[if_neg QZ];rw[if_neg QZ];rw[if_pos rfl]
 have HE:=Zy he;clear hI hn hf hb1 hA1 hpt htx he hm;go_enter Tryz.func90,Tryz.ntmps90
 go_wp2_with fail
 refine HT.out.mono ?_;rintro e w2 ⟨v,rfl,o2,hb2⟩;obtain⟨a2,n2,k2,rfl⟩:=o2.form;have hA2:=HA1.out.below hb2;obtain⟨d0,d1,d2,d3,d4⟩:=Za.five (KO.below hb2 KO.lt);clear c0 KO;obtain⟨la,ln,lc,sa,sn,sc,pa,pn,pc,hH,e37,e38,e39,e40,e41,e42⟩:=Ka hA2.hf;have LY:=hA2.hf.cell 37;have x38:=hA2.hf.cell 38;have x39:=hA2.hf.cell 39;have LM:=hA2.hf.cell 40;have Fe:=hA2.hf.cell 41;have Fb:=hA2.hf.cell 42;rw[e37]at LY;rw[e38]at x38;rw[e39]at x39;rw[e40]at LM;rw[e41]at Fe;rw[e42]at Fb;have hbd:Below w2.heap.size w2 w2.drew:=Zo.drew (ZH _ w2);have HU:=Zy (RB _ _ _ _ _ _ S.Z8 a2 n2 k2 ca S.text w2.drew (hH.below hbd).hir (o2.get.2.1.below hbd) o2.get.1 (o2.sl.get.2.2.2.2));have HA2:=Zy hA2;have HB2:=Zy hbd;clear hA2 o2 hb2 hH e37 e38 e39 e40 e41 e42 hbd;go_upto_region 15 with fail
 go_region_law (first|(go_simp;go_at_call 146;refine HU.out.mono ?_;rintro e w8 ⟨h8,l8,E8,VC,lv,sv,pv,nv,rfl,dH,qR,XF⟩;obtain⟨a8,n8,k8,rfl⟩:=qR.form;have qj:=HA2.out.below (Zo.call XF HB2.out))|(go_simp;go_at_call 131;refine Calls.mono (WZ _ _ B S lv sv pv h8 a8 n8 k8 l8 E8 w8 ⟨_,qj.hf⟩ (dH.lt.imp fun k hk=>Fx.new k hk) (qR.lt.imp fun k hk=>Fx.new k hk) (qR.len VC.small) (Zh (Zh (Xg _ _) (Xg _ _)) HN.out)) ?_;rintro e w9 ⟨rfl,cK⟩))
 all_goals
  exact QE3
theorem Df(W0:World)(F G:Nat->Prop)(B K:Nat)(S:SS)(ca cb cc cd ce:Int)(w:World)(h:Yv F G w B S)(hI:XW K S)(hm:S.mode=0)(hc:0<=ca/\ca<=999)(hK:K<=4398046511103)(hn:S.told.length+K+2<=4398046511103):
  Calls Tryz.prog 90 #[.pointer (some ⟨B,0,none⟩),.agg #[.int .i64 ca,.int .i64 cb,.int .i64 0,.int .i64 71,.int .i64 ce]] w (VP F G w B (S.command W0 ⟨ca,cb,0,71,ce⟩) YG):=by
 obtain⟨f,hf⟩:=h;have hb1:=ZT w (.cells #[.int .i64 ca,.int .i64 cb,.int .i64 0,.int .i64 71,.int .i64 ce] 87);have KO:=Za.new w #[.int .i64 ca,.int .i64 cb,.int .i64 0,.int .i64 71,.int .i64 ce] 87;have hA1:=(At.begin hf).below hb1;obtain⟨p,hpt⟩:=hf.d.text.ptr;have c0:=hA1.hf.cell 0;have htx:=hA1.hf.d.text;rw[hpt]at c0 htx;have HT:=Zy (Wv.list htx Qm);have HI:=Zy hI;have HN:=Zy hn;have HA1:=Zy hA1;have HM:=Zy hm;have he:S.command W0 ⟨ca,cb,0,71,ce⟩=S.moved (qK S.Z8 S.text ca 0):=by
  unfold SS.command;dsimp only;rw[if_neg QZ];rw[if_neg QZ];rw[if_neg QZ];rw[if_neg QZ];rw[if_neg QZ];rw[if_neg QZ];rw[if_pos rfl]
 have HE:=Zy he;clear hI hn hf hb1 hA1 hpt htx he hm;go_enter Tryz.func90,Tryz.ntmps90
 go_wp2_with fail
 refine HT.out.mono ?_;rintro e w2 ⟨v,rfl,o2,hb2⟩;obtain⟨a2,n2,k2,rfl⟩:=o2.form;have hA2:=HA1.out.below hb2;obtain⟨d0,d1,d2,d3,d4⟩:=Za.five (KO.below hb2 KO.lt);clear c0 KO;obtain⟨la,ln,lc,sa,sn,sc,pa,pn,pc,hH,e37,e38,e39,e40,e41,e42⟩:=Ka hA2.hf;have LY:=hA2.hf.cell 37;have x38:=hA2.hf.cell 38;have x39:=hA2.hf.cell 39;have LM:=hA2.hf.cell 40;have Fe:=hA2.hf.cell 41;have Fb:=hA2.hf.cell 42;rw[e37]at LY;rw[e38]at x38;rw[e39]at x39;rw[e40]at LM;rw[e41]at Fe;rw[e42]at Fb;have hbd:Below w2.heap.size w2 w2.drew:=Zo.drew (ZH _ w2);have HU:=Zy (Rv _ _ _ _ _ _ S.Z8 a2 n2 k2 ca S.text w2.drew (hH.below hbd).hir (o2.get.2.1.below hbd) o2.get.1 (o2.sl.get.2.2.2.2));have HA2:=Zy hA2;have HB2:=Zy hbd;clear hA2 o2 hb2 hH e37 e38 e39 e40 e41 e42 hbd;go_upto_region 17 with fail
 go_region_law (first|(go_simp;go_at_call 147;refine HU.out.mono ?_;rintro e w8 ⟨h8,l8,E8,VC,lv,sv,pv,nv,rfl,dH,qR,XF⟩;obtain⟨a8,n8,k8,rfl⟩:=qR.form;have qj:=HA2.out.below (Zo.call XF HB2.out))|(go_simp;go_at_call 131;refine Calls.mono (WZ _ _ B S lv sv pv h8 a8 n8 k8 l8 E8 w8 ⟨_,qj.hf⟩ (dH.lt.imp fun k hk=>Fx.new k hk) (qR.lt.imp fun k hk=>Fx.new k hk) (qR.len VC.small) (Zh (Zh (Xg _ _) (Xg _ _)) HN.out)) ?_;rintro e w9 ⟨rfl,cK⟩))
 all_goals
  exact QE3
theorem DT(W0:World)(F G:Nat->Prop)(B K:Nat)(S:SS)(ca cb cc cd ce:Int)(w:World)(h:Yv F G w B S)(hI:XW K S)(hm:S.mode=0)(hc:0<=ca/\ca<=999)(hK:K<=4398046511103)(hn:S.told.length+K+2<=4398046511103):
  Calls Tryz.prog 90 #[.pointer (some ⟨B,0,none⟩),.agg #[.int .i64 ca,.int .i64 cb,.int .i64 0,.int .i64 110,.int .i64 ce]] w (VP F G w B (S.command W0 ⟨ca,cb,0,110,ce⟩) YG):=by
 obtain⟨f,hf⟩:=h;have hb1:=ZT w (.cells #[.int .i64 ca,.int .i64 cb,.int .i64 0,.int .i64 110,.int .i64 ce] 87);have KO:=Za.new w #[.int .i64 ca,.int .i64 cb,.int .i64 0,.int .i64 110,.int .i64 ce] 87;have hA1:=(At.begin hf).below hb1;obtain⟨p,hpt⟩:=hf.d.text.ptr;have c0:=hA1.hf.cell 0;have htx:=hA1.hf.d.text;rw[hpt]at c0 htx;have HT:=Zy (Wv.list htx Qm);have HI:=Zy hI;have HN:=Zy hn;have HA1:=Zy hA1;have HM:=Zy hm;have he:S.command W0 ⟨ca,cb,0,110,ce⟩=S.moved (CU S.Z8 S.text false):=by
  exact QEt
 have HE:=Zy he;clear hI hn hf hb1 hA1 hpt htx he hm;go_enter Tryz.func90,Tryz.ntmps90
 go_wp2_with fail
 refine HT.out.mono ?_;rintro e w2 ⟨v,rfl,o2,hb2⟩;obtain⟨a2,n2,k2,rfl⟩:=o2.form;have hA2:=HA1.out.below hb2;obtain⟨d0,d1,d2,d3,d4⟩:=Za.five (KO.below hb2 KO.lt);clear c0 KO;obtain⟨la,ln,lc,sa,sn,sc,pa,pn,pc,hH,e37,e38,e39,e40,e41,e42⟩:=Ka hA2.hf;have LY:=hA2.hf.cell 37;have x38:=hA2.hf.cell 38;have x39:=hA2.hf.cell 39;have LM:=hA2.hf.cell 40;have Fe:=hA2.hf.cell 41;have Fb:=hA2.hf.cell 42;rw[e37]at LY;rw[e38]at x38;rw[e39]at x39;rw[e40]at LM;rw[e41]at Fe;rw[e42]at Fb;have hbd:Below w2.heap.size w2 w2.drew:=Zo.drew (ZH _ w2);have HU:=Zy (Ay _ _ _ _ _ _ S.Z8 a2 n2 k2 S.text false w2.drew (hH.below hbd).hir (o2.get.2.1.below hbd) o2.get.1 (o2.sl.get.2.2.2.2));exact QDk
theorem De(W0:World)(F G:Nat->Prop)(B K:Nat)(S:SS)(ca cb cc cd ce:Int)(w:World)(h:Yv F G w B S)(hI:XW K S)(hm:S.mode=0)(hc:0<=ca/\ca<=999)(hK:K<=4398046511103)(hn:S.told.length+K+2<=4398046511103):
  Calls Tryz.prog 90 #[.pointer (some ⟨B,0,none⟩),.agg #[.int .i64 ca,.int .i64 cb,.int .i64 0,.int .i64 78,.int .i64 ce]] w (VP F G w B (S.command W0 ⟨ca,cb,0,78,ce⟩) YG):=by
 obtain⟨f,hf⟩:=h;have hb1:=ZT w (.cells #[.int .i64 ca,.int .i64 cb,.int .i64 0,.int .i64 78,.int .i64 ce] 87);have KO:=Za.new w #[.int .i64 ca,.int .i64 cb,.int .i64 0,.int .i64 78,.int .i64 ce] 87;have hA1:=(At.begin hf).below hb1;obtain⟨p,hpt⟩:=hf.d.text.ptr;have c0:=hA1.hf.cell 0;have htx:=hA1.hf.d.text;rw[hpt]at c0 htx;have HT:=Zy (Wv.list htx Qm);have HI:=Zy hI;have HN:=Zy hn;have HA1:=Zy hA1;have HM:=Zy hm;have he:S.command W0 ⟨ca,cb,0,78,ce⟩=S.moved (CU S.Z8 S.text true):=by
  exact QEt
 have HE:=Zy he;clear hI hn hf hb1 hA1 hpt htx he hm;go_enter Tryz.func90,Tryz.ntmps90
 go_wp2_with fail
 refine HT.out.mono ?_;rintro e w2 ⟨v,rfl,o2,hb2⟩;obtain⟨a2,n2,k2,rfl⟩:=o2.form;have hA2:=HA1.out.below hb2;obtain⟨d0,d1,d2,d3,d4⟩:=Za.five (KO.below hb2 KO.lt);clear c0 KO;obtain⟨la,ln,lc,sa,sn,sc,pa,pn,pc,hH,e37,e38,e39,e40,e41,e42⟩:=Ka hA2.hf;have LY:=hA2.hf.cell 37;have x38:=hA2.hf.cell 38;have x39:=hA2.hf.cell 39;have LM:=hA2.hf.cell 40;have Fe:=hA2.hf.cell 41;have Fb:=hA2.hf.cell 42;rw[e37]at LY;rw[e38]at x38;rw[e39]at x39;rw[e40]at LM;rw[e41]at Fe;rw[e42]at Fb;have hbd:Below w2.heap.size w2 w2.drew:=Zo.drew (ZH _ w2);have HU:=Zy (Ay _ _ _ _ _ _ S.Z8 a2 n2 k2 S.text true w2.drew (hH.below hbd).hir (o2.get.2.1.below hbd) o2.get.1 (o2.sl.get.2.2.2.2));exact QDk
theorem Li(W0:World)(F G:Nat->Prop)(B K:Nat)(S:SS)(c:C5)(w:World)(h:Yv F G w B S)(hI:XW K S)(hm:S.mode=0)(hc:Va c)(hK:K<=4398046511103)(hn:S.told.length+K+2<=4398046511103):
  Calls Tryz.prog 90 #[.pointer (some ⟨B,0,none⟩),.agg #[.int .i64 c.a,.int .i64 c.b,.int .i64 c.c,.int .i64 c.d,.int .i64 c.e]] w (VP F G w B (S.command W0 c) YG):=by
 obtain⟨ca,cb,cc,cd,ce⟩:=c;by_cases h0:cc≠0
 ·exact Bj W0 F G B K S ca cb cc cd ce w h hI hm hc hK hn h0
 obtain rfl:cc=0:=Z5 h0;by_cases h1:cd=117
 ·subst h1;exact DR W0 F G B K S ca cb 0 117 ce w h hI hm hc hK hn
 by_cases h2:cd=85
 ·subst h2;exact Dc W0 F G B K S ca cb 0 85 ce w h hI hm hc hK hn
 by_cases h3:cd=46
 ·subst h3;exact uO W0 F G B K S ca cb 0 46 ce w h hI hm hc hK hn
 by_cases h4:cd=107
 ·subst h4;exact Da W0 F G B K S ca cb 0 107 ce w h hI hm hc hK hn
 by_cases h5:cd=106
 ·subst h5;exact Db W0 F G B K S ca cb 0 106 ce w h hI hm hc hK hn
 by_cases h6:cd=71
 ·subst h6;exact Df W0 F G B K S ca cb 0 71 ce w h hI hm hc hK hn
 by_cases h7:cd=110
 ·subst h7;exact DT W0 F G B K S ca cb 0 110 ce w h hI hm hc hK hn
 by_cases h8:cd=78
 ·subst h8;exact De W0 F G B K S ca cb 0 78 ce w h hI hm hc hK hn
 by_cases h9:cd=47
 ·subst h9;exact Bz W0 F G B K S ca cb 0 47 ce w h hI hm hc hK hn
 by_cases h10:cd=63
 ·subst h10;exact Bq W0 F G B K S ca cb 0 63 ce w h hI hm hc hK hn
 exact kW W0 F G B K S ca cb 0 cd ce w h hI hm hc hK hn h1 h2 h3 h4 h5 h6 h7 h8 h9 h10
theorem Yf.init{F:Nat->Prop}{w:World}{a:Option Addr}{m c:Nat}{xs:List Int}(h:Yf F w (.slice a (m+1) c) xs):Yf F w (.slice a m c) xs.dropLast:=by
 obtain⟨g1,g2,g3,g4,g5⟩:=h.get;obtain⟨a',n',c',e,k1,k2,k3,k4,k5,k6⟩:=h;simp only[Xx]at e;obtain⟨rfl,rfl,rfl⟩:=e;refine⟨a,m,c,rfl,by simp[g1],QQ,g3,?_,fun e=>by have:=g5 e;omega,fun ad e h0=>k6 ad e QQ⟩;rcases g4 with g4|⟨b,o,e,hc⟩
 ·subst g4;simp at g1
 ·refine .inr ⟨b,o,e,fun i hi=>?_⟩
  rw[List.length_dropLast]at hi;rw[hc i QQ,Yw QQ,Yw QY,List.getElem_dropLast]
theorem Dh(F G:Nat->Prop)(B:Nat)(S:SS)(w:World)(h:Yv F G w B S):
  Calls Tryz.prog 84 #[.pointer (some ⟨B,0,none⟩),.int .i64 27] w (VP F G w B {S with mode:=0} YG):=by
 obtain⟨f,hf⟩:=h;have hA:=At.begin hf;obtain⟨c2,z2⟩:=hf.m.blk.at 2;have HA:=Zy (hA.store (S':={S with mode:=0}) 2 (.int .i64 0) {hA.hf.d with mode:=rfl});clear hf hA;go_enter Tryz.func84,Tryz.ntmps84
 exact QFr
theorem Gq(F G:Nat->Prop)(B:Nat)(S:SS)(key:Int)(w:World)(h:Yv F G w B S)(hk:key=8\/key=127)(hl:S.ask.length<=200):
  Calls Tryz.prog 84 #[.pointer (some ⟨B,0,none⟩),.int .i64 key] w (VP F G w B (if S.ask.length=0 then {S with mode:=0}else {S with ask:=S.ask.dropLast}) YG):=by
 obtain⟨f,hf⟩:=h;have hA:=At.begin hf;obtain⟨qa,qn,qc,e48⟩:=hf.d.ask.form;have qU:=hf.d.ask;rw[e48]at qU;obtain⟨c48,z48⟩:=hf.m.blk.at 48;obtain⟨c2,z2⟩:=hf.m.blk.at 2;rw[e48]at c48;obtain⟨g1,g2,g3,g4,g5⟩:=qU.get;rcases qn with _|m
 ·have HA:=Zy (hA.store (S':={S with mode:=0}) 2 (.int .i64 0) {hA.hf.d with mode:=rfl})
  rw[if_pos g1];clear hf hA qU g1 g2 g3 g4 g5 hl e48;rcases hk with rfl|rfl
  all_goals
   go_enter Tryz.func84,Tryz.ntmps84
   exact QFr
 ·have HA:=Zy (hA.drew.store (S':={S with ask:=S.ask.dropLast}) 48 (.slice qa m qc) {hA.drew.hf.d with ask:=qU.init.drew})
  rw[if_neg QQ];have hm2:m+1<=200:=QQ;have hmc:m<=qc:=QQ;have hm1:((m+1:Nat):Int)-1=(m:Int):=QQ;have iw:IntKind.i64.wrap (((m+1:Nat):Int)-1)=(m:Int):=QAz;have hn0:(((m+1:Nat):Int)==0)=false:=QY;clear hf hA qU g1 g2 g4 g5 hl e48;rcases hk with rfl|rfl
  all_goals
   go_enter Tryz.func84,Tryz.ntmps84
   go_upto_region 9 with fail
   go_region
   all_goals
    exact QFr
theorem Bv(F G:Nat->Prop)(B:Nat)(S:SS)(key:Int)(w:World)(h:Yv F G w B S)(h1:key≠13)(h2:key≠10)(h3:key≠27)(h4:key≠8)(h5:key≠127)(h6:key<32\/S.ask.length=200)(hn:S.told.length<=4398046511103):
  Calls Tryz.prog 84 #[.pointer (some ⟨B,0,none⟩),.int .i64 key] w (VP F G w B S.Yt YG):=by
 have HB:=Zy (U2 F G B S w h hn);obtain⟨f,hf⟩:=h;obtain⟨qa,qn,qc,e48⟩:=hf.d.ask.form;have qU:=hf.d.ask;rw[e48]at qU;obtain⟨c48,-⟩:=hf.m.blk.at 48;rw[e48]at c48;have g1:=qU.get.1;have k1:(key==13)=false:=QA1;have k2:(key==10)=false:=QA0;have k3:(key==27)=false:=QAt;have k4:(key==8)=false:=QBD;have k5:(key==127)=false:=by simpa using h5
 by_cases h32:key<32
 ·clear hf qU e48 g1 h6 h1 h2 h3 h4 h5 hn
  exact QGM
 ·obtain rfl:qn=200:=by omega
  clear hf qU e48 g1 h6 h1 h2 h3 h4 h5 hn;exact QGM
theorem Di(F G:Nat->Prop)(B:Nat)(S:SS)(key:Int)(w:World)(h:Yv F G w B S)(h5:key≠127)(h6:32<=key)(h7:S.ask.length<200):
  Calls Tryz.prog 84 #[.pointer (some ⟨B,0,none⟩),.int .i64 key] w (VP F G w B {S with ask:=S.ask++[key]} YG):=by
 obtain⟨f,hf⟩:=h;have hA:=At.begin hf;obtain⟨qa,qn,qc,e48⟩:=hf.d.ask.form;have qU:=hf.d.ask;rw[e48]at qU;obtain⟨c48,-⟩:=hf.m.blk.at 48;rw[e48]at c48;obtain⟨g1,g2,g3,g4,g5⟩:=qU.get;have k1:(key==13)=false:=QY;have k2:(key==10)=false:=QY;have k3:(key==27)=false:=QY;have k4:(key==8)=false:=QY;have k5:(key==127)=false:=by simpa using h5
 have k6:¬key<32:=QQ;have k7:((qn:Int)==200)=false:=QY;have HC:=Zy (Zw qa qn qc S.ask w g4 g1 QQ g5);have HA:=Zy hA;have HQ:=Zy g1;have h7':qn<200:=QQ;clear hf hA qU e48 g1 g2 g3 g4 g5 h5 h7;go_enter Tryz.func84,Tryz.ntmps84
 go_wp2_with (first|(go_at_call 43;refine HC.out.mono ?_;rintro e w2 ⟨v,rfl,o2,hb2⟩;obtain⟨a2,n2,m2,rfl⟩:=o2.form;have hz2:=hb2.size)|(at_builtin;refine app1 rfl _ _ rfl w.heap.size (.slice a2 n2 m2) _ key _ rfl rfl (o2.alloc _) (Y8 _ _ _) (by have:=HQ.out;omega) (XG hz2 _) ?_;intro v4 w4 o4 hg4;have hb4:Below w.heap.size w w4:=Zo.own (o2.alloc (.cells #[.int .i64 key] 3)) hg4 (Zo.alloc hb2);have UY:=HA.out.below hb4;obtain⟨x48,z48⟩:=UY.hf.m.blk.at 48;obtain⟨a4,n4,m4,rfl⟩:=o4.form))
 go_end0
 have UY:=HA.out.below hb4;exact⟨rfl,(UY.store (S':={S with ask:=S.ask++[key]}) 48 (.slice a4 n4 m4) {UY.hf.d with ask:=o4.jr.lt.imp fun k hk=>Fx.new k hk}).done⟩
theorem TG(F G:Nat->Prop)(B K:Nat)(S:SS)(key:Int)(w:World)(h:Yv F G w B S)(hI:XW K S)(hn:S.told.length<=4398046511103):
  Calls Tryz.prog 84 #[.pointer (some ⟨B,0,none⟩),.int .i64 key] w (VP F G w B (S.asked key) YG):=by
 by_cases h1:key=13\/key=10
 ·exact Bu F G B K S key w h hI h1 hn
 by_cases h2:key=27
 ·subst h2
  have he:S.asked 27={S with mode:=0}:=by unfold SS.asked;rw[if_neg QZ,if_pos rfl]
  rw[he];exact Dh F G B S w h
 by_cases h3:key=8\/key=127
 ·have he:S.asked key=(if S.ask.length=0 then {S with mode:=0}else {S with ask:=S.ask.dropLast}):=by unfold SS.asked;rw[if_neg h1,if_neg h2,if_pos h3]
  rw[he];exact Gq F G B S key w h h3 hI.al
 by_cases h4:key<32\/S.ask.length=200
 ·have he:S.asked key=S.Yt:=by unfold SS.asked;rw[if_neg h1,if_neg h2,if_neg h3,if_pos h4]
  rw[he];exact Bv F G B S key w h QQ QQ h2 QQ QQ h4 hn
 ·have he:S.asked key={S with ask:=S.ask++[key]}:=by unfold SS.asked;rw[if_neg h1,if_neg h2,if_neg h3,if_neg h4]
  rw[he];exact Di F G B S key w h QQ QQ (by have:=hI.al;omega)
theorem QZq{f r o s key cnt:Int}(hc:(if o≠0 then s else f)=cnt)(h:gP cnt key=true):UI f r o s key=1:=by subst hc;unfold UI;rw[if_pos h]
theorem QZW{f r o s key cnt:Int}(hc:(if o≠0 then s else f)=cnt)(h:gP cnt key=false)(h2:bV key=true):UI f r o s key=3:=by
 subst hc;unfold UI;rw[h,if_neg QJ,if_pos h2]
def kdW(r o key:Int):Int:=
 if moB key=true then 5 else if zP key=true then 4
 else if Bi key=true then(if o≠0 then 8 else 6)else if o≠0 then 0
 else if key=34 then(if r≠0 then 0 else 2)else if key=114 then 7 else if plB key=true then 6 else 0
theorem QJx{f r o s key cnt:Int}(hc:(if o≠0 then s else f)=cnt)(h:gP cnt key=false)(h2:bV key=false):UI f r o s key=kdW r o key:=by
 subst hc;unfold UI kdW;rw[h,h2,if_neg QJ,if_neg QJ]
theorem YT(f r o s wt key:Int)(w:World):
  Calls Tryz.prog 138 #[.agg #[.int .i64 f,.int .i64 r,.int .i64 o,.int .i64 s,.int .i64 wt],.int .i64 key] w fun e w'=>e=.returned (.int .i64 (UI f r o s key))/\Below w.heap.size w w':=by
 have hA:=Za.new w #[.int .i64 f,.int .i64 r,.int .i64 o,.int .i64 s,.int .i64 wt] 32;have hacc:=ZT w (.cells #[.int .i64 f,.int .i64 r,.int .i64 o,.int .i64 s,.int .i64 wt] 32);obtain⟨cnt,hcnt⟩:∃cnt,(if o≠0 then s else f)=cnt:=⟨_,rfl⟩;have HC:=Zy hcnt;obtain⟨zo,ho⟩:=zOf o 0;have ho2:(o !=0)=!zo:=by rw[bne,ho]
 obtain⟨z48,h48⟩:=zOf key 48;have hz:(if zo=true then f else s)=cnt:=by
  rw[<-hcnt];subst ho;by_cases h:o=0<;>simp[h]
 clear hcnt;obtain⟨bd,hbd⟩:∃bd,gP cnt key=bd:=⟨_,rfl⟩;have HBD:=Zy hbd;clear hbd;obtain⟨bo,OP⟩:∃bo,bV key=bo:=⟨_,rfl⟩;have LF:=Zy OP;clear OP;rcases zo with _|_<;>simp only[if_true,Xn,Zt]at hz<;>subst hz<;>rcases z48 with _|_
 all_goals
  go_enter Tryz.func138,Tryz.ntmps138
  go_upto_region 4 with fail
  generalize w.alloc (.cells #[.int .i64 f,.int .i64 r,.int .i64 o,.int .i64 s,.int .i64 wt] 32)=w1 at *;obtain⟨c0,c1,c2,c3,c4⟩:=hA.five
  go_cut [13] (fun v wx=>v=.bool bd/\w1=wx)
  case first=>
   go_wp2
   all_goals
    go_meet;refine⟨YA Value.bool ?_,rfl⟩
    go_light
    rw[<-HBD.out];simp only[beq_iff_eq,XZ,ne_eq]at h48;rw[Bool.eq_iff_iff];simp[gP];omega
  obtain⟨rfl,rfl⟩:=hcut;rcases bd with _|_
  ·rcases bo with _|_
   ·go_wp2_with (go_at_call 46;refine(Vo _ _).mono ?_;rintro e w' ⟨rfl,rfl⟩;rw[LF.out])
    all_goals
     go_ret;refine⟨XA ?_,hacc⟩
     go_light
     rw[QJx HC.out HBD.out LF.out];clear HC HBD LF;simp only[beq_iff_eq,XZ,bne_iff_ne,bne_eq_false_iff_eq,ne_eq]at *;simp[kdW,moB,zP,Bi,plB, *]
   ·go_wp2_with (go_at_call 46;refine(Vo _ _).mono ?_;rintro e w' ⟨rfl,rfl⟩;rw[LF.out])
    go_ret;exact⟨XA (QZW HC.out HBD.out LF.out).symm,hacc⟩
  ·go_wp2
   go_ret;exact⟨XA (QZq HC.out HBD.out).symm,hacc⟩
theorem XB.of{t:TK}{er:Int}{w w':World}(h:Below w.heap.size w w'):XB t er w (.returned (.tuple #[t.q,t.c,.int .i64 t.how,.int .i64 er])) w':=⟨rfl,h⟩
theorem om{f r o s key:Int}(h:EP key=true):Wo f r o s 34 key=TK.more f key o s 0:=by unfold Wo;rw[if_pos rfl,if_pos h]
theorem pQ{f r o s key:Int}(h:EP key=false):Wo f r o s 34 key=TK.wrong:=by unfold Wo;rw[if_pos rfl,h];rfl
theorem og{f r o s wt key:Int}(h:Bi wt=true)(h2:sD key=true):Wo f r o s wt key=TK.done f r o s wt key:=by
 have:wt≠34:=by simp[Bi]at h;omega
 unfold Wo;rw[if_neg this,if_pos h,if_pos h2]
theorem oh{f r o s wt key:Int}(h:Bi wt=true)(h2:sD key=false):Wo f r o s wt key=TK.wrong:=by
 have:wt≠34:=by simp[Bi]at h;omega
 unfold Wo;rw[if_neg this,if_pos h,h2];rfl
theorem oO{f r o s wt key:Int}(h:Bi wt=false)(h2:wt≠34):Wo f r o s wt key=TK.done f r o s wt key:=by
 unfold Wo;rw[if_neg h2,h];rfl
theorem kE(f r o s key:Int)(w:World):
  Calls Tryz.prog 137 #[.agg #[.int .i64 f,.int .i64 r,.int .i64 o,.int .i64 s,.int .i64 34],.int .i64 key] w (XB (Wo f r o s 34 key) 0 w):=by
 have hacc:=fun c1 c2 c3=>xz w (.cells c1 32) (.cells c2 32) (.cells c3 87)
 obtain⟨bl,hbl⟩:∃bl,EP key=bl:=⟨_,rfl⟩;have HL:=Zy hbl;clear hbl;rcases bl with _|_
 ·rw[pQ HL.out]
  go_enter Tryz.func137,Tryz.ntmps137
  go_wp2_with (go_at_call 45;refine(qN _ _).mono ?_;rintro e w' ⟨rfl,rfl⟩;rw[HL.out])
  exact QFS
 ·rw[om HL.out]
  go_enter Tryz.func137,Tryz.ntmps137
  go_wp2_with (go_at_call 45;refine(qN _ _).mono ?_;rintro e w' ⟨rfl,rfl⟩;rw[HL.out])
  exact ZC (v:=.tuple #[(TK.more f key o s 0).q,(TK.more f key o s 0).c,.int .i64 1,.int .i64 0]) (by simp[results,Tryz.results137,go_sem,TK.more,TK.q,TK.c]) rfl (XB.of (hacc _ _ _))
structure Ug (W wx:World) (B:Nat) (f r o s wt:Int):Prop where
 p:Za wx B #[.int .i64 f,.int .i64 r,.int .i64 o,.int .i64 s,.int .i64 wt] 32
 q:Za wx (B+1) #[.int .i64 0,.int .i64 0,.int .i64 0,.int .i64 0,.int .i64 0] 32
 c:Za wx (B+2) #[.int .i64 0,.int .i64 0,.int .i64 0,.int .i64 0,.int .i64 0] 87
 YX:Below B W wx
theorem Ug.start(w:World)(f r o s wt:Int):
  Ug w (((w.alloc (.cells #[.int .i64 f,.int .i64 r,.int .i64 o,.int .i64 s,.int .i64 wt] 32)).alloc (.cells #[.int .i64 0,.int .i64 0,.int .i64 0,.int .i64 0,.int .i64 0] 32)).alloc (.cells #[.int .i64 0,.int .i64 0,.int .i64 0,.int .i64 0,.int .i64 0] 87)) w.heap.size f r o s wt:=by
 refine⟨((Za.new w _ _).alloc _).alloc _,?_,?_,xz w _ _ _⟩
 ·have:=(Za.new (w.alloc (.cells #[.int .i64 f,.int .i64 r,.int .i64 o,.int .i64 s,.int .i64 wt] 32)) #[.int .i64 0,.int .i64 0,.int .i64 0,.int .i64 0,.int .i64 0] 32)
  rw[Zv]at this;exact this.alloc _
 ·have:=(Za.new ((w.alloc (.cells #[.int .i64 f,.int .i64 r,.int .i64 o,.int .i64 s,.int .i64 wt] 32)).alloc (.cells #[.int .i64 0,.int .i64 0,.int .i64 0,.int .i64 0,.int .i64 0] 32)) #[.int .i64 0,.int .i64 0,.int .i64 0,.int .i64 0,.int .i64 0] 87)
  rw[Zv,Zv]at this;exact this
theorem Ug.below{W wx w9:World}{B:Nat}{f r o s wt:Int}(h:Ug W wx B f r o s wt)(hb:Below wx.heap.size wx w9):Ug W w9 B f r o s wt:=
 ⟨h.p.below hb h.p.lt,h.q.below hb h.q.lt,h.c.below hb h.c.lt,h.YX.trans (hb.mono (Xr h.p.lt))⟩
theorem Ug.done{W wx:World}{B:Nat}{f r o s wt:Int}(h:Ug W wx B f r o s wt)(x0 x1 x2 x3 x4 y0 y1 y2 y3 y4:Value){we:World}
  (he:we=((((((((((wx.setCell ⟨B+1,0,none⟩ x0).setCell ⟨B+1,1,none⟩ x1).setCell ⟨B+1,2,none⟩ x2).setCell ⟨B+1,3,none⟩ x3).setCell ⟨B+1,4,none⟩ x4).setCell ⟨B+1+1,0,none⟩ y0).setCell ⟨B+1+1,1,none⟩ y1).setCell ⟨B+1+1,2,none⟩ y2).setCell ⟨B+1+1,3,none⟩ y3).setCell ⟨B+1+1,4,none⟩ y4)):
  Za we (B+1) #[x0,x1,x2,x3,x4] 32/\Za we (B+1+1) #[y0,y1,y2,y3,y4] 87/\Below B W we:=by
 subst he;have hne:∀i,B+1≠(⟨B+1+1,i,none⟩:Addr).block:=fun i=>QJ
 have hne2:∀i,B+1+1≠(⟨B+1,i,none⟩:Addr).block:=fun i=>QJ
 refine⟨?_,?_,JQ (JQ h.YX QQ) QQ⟩
 ·exact(((((h.q.vY x0 x1 x2 x3 x4).other (hne _) _).other (hne _) _).other (hne _) _).other (hne _) _).other (hne _) _
 ·refine Za.vY (u0:=.int .i64 0) (u1:=.int .i64 0) (u2:=.int .i64 0) (u3:=.int .i64 0) (u4:=.int .i64 0) ?_ y0 y1 y2 y3 y4
  exact((((h.c.other (hne2 _) _).other (hne2 _) _).other (hne2 _) _).other (hne2 _) _).other (hne2 _) _
theorem jD(f r o s wt key:Int)(w:World)(hi:Bi wt=false)(gN:wt≠34)(h1:0<=f)(h2:f<=999)(h3:0<=s)(h4:s<=999):
  Calls Tryz.prog 137 #[.agg #[.int .i64 f,.int .i64 r,.int .i64 o,.int .i64 s,.int .i64 wt],.int .i64 key] w (XB (Wo f r o s wt key) 0 w):=by
 have hX:=Ug.start w f r o s wt;rw[oO hi gN];have g1:(wt==34)=false:=by simpa using gN
 have g2:(wt==105)=false:=by simp[Bi]at hi ⊢;omega
 have g3:(wt==97)=false:=by simp[Bi]at hi ⊢;omega
 clear hi gN;exact QDj
theorem jE(f r o s wt key:Int)(w:World)(hi:wt=105\/wt=97)(hk:sD key=true)(h1:0<=f)(h2:f<=999)(h3:0<=s)(h4:s<=999):
  Calls Tryz.prog 137 #[.agg #[.int .i64 f,.int .i64 r,.int .i64 o,.int .i64 s,.int .i64 wt],.int .i64 key] w (XB (Wo f r o s wt key) 0 w):=by
 have hX:=Ug.start w f r o s wt;rw[og (by simp[Bi];omega) hk];have hk2:key=119\/key=87\/key=40\/key=41\/key=91\/key=93\/key=123\/key=125\/key=34\/key=39\/key=96:=by simpa[sD]using hk
 have g1:(wt==34)=false:=QY;obtain⟨z5,g2⟩:=zOf wt 105;have g3:(wt==97)=!z5:=by rw[<-g2];rcases hi with rfl|rfl<;>rfl
 clear hk hi;rcases z5 with _|_<;>rcases hk2 with h|h|h|h|h|h|h|h|h|h|h
 all_goals
  have q0:(key==119)=((_:Int)==119):=YA (fun x:Int=>x==119) h;have q1:(key==87)=((_:Int)==87):=YA (fun x:Int=>x==87) h;have q2:(key==40)=((_:Int)==40):=YA (fun x:Int=>x==40) h;have q3:(key==41)=((_:Int)==41):=YA (fun x:Int=>x==41) h;have q4:(key==91)=((_:Int)==91):=YA (fun x:Int=>x==91) h;have q5:(key==93)=((_:Int)==93):=YA (fun x:Int=>x==93) h;have q6:(key==123)=((_:Int)==123):=YA (fun x:Int=>x==123) h;have q7:(key==125)=((_:Int)==125):=YA (fun x:Int=>x==125) h;have q8:(key==34)=((_:Int)==34):=YA (fun x:Int=>x==34) h;have q9:(key==39)=((_:Int)==39):=YA (fun x:Int=>x==39) h;have q10:(key==96)=((_:Int)==96):=YA (fun x:Int=>x==96) h;clear h;exact QDj
theorem jF(f r o s wt key:Int)(w:World)(hi:wt=105\/wt=97)(hk:sD key=false):
  Calls Tryz.prog 137 #[.agg #[.int .i64 f,.int .i64 r,.int .i64 o,.int .i64 s,.int .i64 wt],.int .i64 key] w (XB (Wo f r o s wt key) 0 w):=by
 have hacc:=fun c1 c2 c3=>xz w (.cells c1 32) (.cells c2 32) (.cells c3 87)
 rw[oh (by simp[Bi];omega) hk];have hk2:key≠119/\key≠87/\key≠40/\key≠41/\key≠91/\key≠93/\key≠123/\key≠125/\key≠34/\key≠39/\key≠96:=by
  simpa[sD]using hk
 obtain⟨q0,q1,q2,q3,q4,q5,q6,q7,q8,q9,qa⟩:=hk2;rw[<-XZ]at q0 q1 q2 q3 q4 q5 q6 q7 q8 q9 qa;have g1:(wt==34)=false:=QY;obtain⟨z5,g2⟩:=zOf wt 105;have g3:(wt==97)=!z5:=by rw[<-g2];rcases hi with rfl|rfl<;>rfl
 clear hk hi;rcases z5 with _|_
 all_goals
  go_enter Tryz.func137,Tryz.ntmps137
  go_wp2;exact QFS
theorem Eh(f r o s wt key:Int)(w:World)(h1:0<=f)(h2:f<=999)(h3:0<=s)(h4:s<=999):
  Calls Tryz.prog 137 #[.agg #[.int .i64 f,.int .i64 r,.int .i64 o,.int .i64 s,.int .i64 wt],.int .i64 key] w (XB (Wo f r o s wt key) 0 w):=by
 by_cases gN:wt=34
 ·subst gN;exact kE _ _ _ _ _ _
 ·cases hi:Bi wt with
  | false=>exact jD _ _ _ _ _ _ _ hi gN h1 h2 h3 h4
  | true=>
   have hw:wt=105\/wt=97:=by simpa[Bi]using hi
   cases hk:sD key with
   | true=>exact jE _ _ _ _ _ _ _ hw hk h1 h2 h3 h4
   | false=>exact jF _ _ _ _ _ _ _ hw hk
theorem OB{f r o s key:Int}(h:UI f r o s key=1):48<=key/\key<=57:=by
 by_cases hd:gP (if o≠0 then s else f) key=true
 ·simp only[gP,XI]at hd
  omega
 ·exfalso
  unfold UI at h;rw[if_neg hd]at h;split at h
  ·omega
  ·split at h
   ·omega
   ·split at h
    ·omega
    ·split at h
     ·split at h<;>omega
     ·split at h
      ·omega
      ·split at h
       ·split at h<;>omega
       ·split at h
        ·omega
        ·split at h<;>omega
def YD(key:Int):Prop:=¬(key<32\/key=127)
theorem Uh{f r o s key:Int}(h:YD key):Ui f r o s 0 key=
  if UI f r o s key=1 then(if o≠0 then TK.more f r o (Wm s key) 0 else TK.more (Wm f key) r o s 0)
  else if UI f r o s key=2\/UI f r o s key=4\/UI f r o s key=7\/UI f r o s key=8 then TK.more f r o s key
  else if UI f r o s key=3 then(if o=0 then TK.more f r key s 0 else if o≠key then TK.wrong else TK.done f r o s key 0)
  else if UI f r o s key=5\/UI f r o s key=6 then TK.done f r o s key 0
  else TK.wrong:=by
 unfold Ui;rw[if_neg h,if_neg QJ]
theorem ic{f r o s wt key:Int}(h:key<32\/key=127):Ui f r o s wt key=TK.wrong:=by unfold Ui;rw[if_pos h]
theorem ig{f r o s wt key:Int}(h:YD key)(h2:wt≠0):Ui f r o s wt key=Wo f r o s wt key:=by unfold Ui;rw[if_neg h,if_pos h2]
theorem Ug.MW{W wx:World}{B:Nat}{f r o s wt f' r' o' s' iK:Int}(h:Ug W wx B f r o s wt)(i:Nat)(v:Value)
  (e:(#[.int .i64 f,.int .i64 r,.int .i64 o,.int .i64 s,.int .i64 wt]:Array Value).setIfInBounds i v=#[.int .i64 f',.int .i64 r',.int .i64 o',.int .i64 s',.int .i64 iK]):Ug W (wx.setCell ⟨B,i,none⟩ v) B f' r' o' s' iK:=
 ⟨by have:=h.p.set i v;rwa[e]at this,h.q.other QJ _,h.c.other QJ _,h.YX.setCell (p:=⟨B,i,none⟩) (ZB _) _⟩
theorem ES(f r o s wt key:Int)(w:World)(hp:JG f r o s wt=0)(hlo:key<32\/key=127):
  Calls Tryz.prog 89 #[.agg #[.int .i64 f,.int .i64 r,.int .i64 o,.int .i64 s,.int .i64 wt],.int .i64 key] w (XB (Ui f r o s wt key) 0 w):=by
 have hX:=Ug.start w f r o s wt;obtain⟨b1,b2,b3,b4,b5⟩:=J2 hp;have HP:=Zy hp;clear hp;rw[ic hlo];rcases hlo with hlo|rfl
 ·go_enter Tryz.func89,Tryz.ntmps89
  exact QDx
 ·go_enter Tryz.func89,Tryz.ntmps89
  exact QDx
theorem Eg(f r o s wt key:Int)(w:World)(hp:JG f r o s wt=0)(hu:YD key)(hw:wt≠0):
  Calls Tryz.prog 89 #[.agg #[.int .i64 f,.int .i64 r,.int .i64 o,.int .i64 s,.int .i64 wt],.int .i64 key] w (XB (Ui f r o s wt key) 0 w):=by
 have hX:=Ug.start w f r o s wt;obtain⟨b1,b2,b3,b4,b5⟩:=J2 hp;have HP:=Zy hp;clear hp;rw[ig hu hw];have u1:32<=key:=Qe;have u2:(key==127)=false:=QO;clear hu;have u3:(wt !=0)=true:=by simpa using hw
 clear hw;obtain⟨tk,htk⟩:∃tk,Wo f r o s wt key=tk:=⟨_,rfl⟩;have HT:=Zy htk;rw[htk];clear htk;go_enter Tryz.func89,Tryz.ntmps89
 go_wp2_with (first|(go_at_call 17;refine(YV _ _ _ _ _ _).mono ?_;rintro e w9 ⟨rfl,hb⟩;rw[HP.out];have hX1:=hX.below hb;obtain⟨c0,c1,c2,c3,c4⟩:=hX1.p.five;obtain⟨g0,g1,g2,g3,g4⟩:=hX1.p.Z6;obtain⟨k0,k1,k2,k3,k4⟩:=hX1.q.five;obtain⟨l0,l1,l2,l3,l4⟩:=hX1.q.Z6;obtain⟨m0,m1,m2,m3,m4⟩:=hX1.c.five;obtain⟨n0,n1,n2,n3,n4⟩:=hX1.c.Z6)|(go_at_call 137;refine(Eh _ _ _ _ _ _ _ b1 b2 b3 b4).mono ?_;rw[HT.out];rintro e w7 ⟨rfl,hb3⟩;simp only[TK.q,TK.c];have xY:=hX1.below hb3;obtain⟨c0,c1,c2,c3,c4⟩:=xY.p.five;obtain⟨g0,g1,g2,g3,g4⟩:=xY.p.Z6;obtain⟨k0,k1,k2,k3,k4⟩:=xY.q.five;obtain⟨l0,l1,l2,l3,l4⟩:=xY.q.Z6;obtain⟨m0,m1,m2,m3,m4⟩:=xY.c.five;obtain⟨n0,n1,n2,n3,n4⟩:=xY.c.Z6))
 obtain⟨hq,hc,hbel⟩:=xY.done (.int .i64 (tk.q0)) (.int .i64 (tk.q1)) (.int .i64 (tk.q2)) (.int .i64 (tk.q3)) (.int .i64 (tk.q4)) (.int .i64 (tk.c0)) (.int .i64 (tk.c1)) (.int .i64 (tk.c2)) (.int .i64 (tk.c3)) (.int .i64 (tk.c4)) rfl;obtain⟨y0,y1,y2,y3,y4⟩:=hq.five;obtain⟨z0,z1,z2,z3,z4⟩:=hc.five;exact ZC (v:=.tuple #[(tk).q,(tk).c,.int .i64 tk.how,.int .i64 0]) (by simp[results,Tryz.results89,go_sem,TK.q,TK.q,TK.c,y0,y1,y2,y3,y4,z0,z1,z2,z3,z4]) rfl (XB.of hbel)
theorem Ee(f r o s key:Int)(w:World)(hp:JG f r o s 0=0)(hu:YD key)(hk:UI f r o s key=2):
  Calls Tryz.prog 89 #[.agg #[.int .i64 f,.int .i64 r,.int .i64 o,.int .i64 s,.int .i64 0],.int .i64 key] w (XB (Ui f r o s 0 key) 0 w):=by
 exact QCO
theorem Ed(f r o s key:Int)(w:World)(hp:JG f r o s 0=0)(hu:YD key)(hk:UI f r o s key=4):
  Calls Tryz.prog 89 #[.agg #[.int .i64 f,.int .i64 r,.int .i64 o,.int .i64 s,.int .i64 0],.int .i64 key] w (XB (Ui f r o s 0 key) 0 w):=by
 exact QCO
theorem Ea(f r o s key:Int)(w:World)(hp:JG f r o s 0=0)(hu:YD key)(hk:UI f r o s key=7):
  Calls Tryz.prog 89 #[.agg #[.int .i64 f,.int .i64 r,.int .i64 o,.int .i64 s,.int .i64 0],.int .i64 key] w (XB (Ui f r o s 0 key) 0 w):=by
 exact QCO
theorem ET(f r o s key:Int)(w:World)(hp:JG f r o s 0=0)(hu:YD key)(hk:UI f r o s key=8):
  Calls Tryz.prog 89 #[.agg #[.int .i64 f,.int .i64 r,.int .i64 o,.int .i64 s,.int .i64 0],.int .i64 key] w (XB (Ui f r o s 0 key) 0 w):=by
 exact QCO
theorem Ec(f r o s key:Int)(w:World)(hp:JG f r o s 0=0)(hu:YD key)(hk:UI f r o s key=5):
  Calls Tryz.prog 89 #[.agg #[.int .i64 f,.int .i64 r,.int .i64 o,.int .i64 s,.int .i64 0],.int .i64 key] w (XB (Ui f r o s 0 key) 0 w):=by
 exact QGD
theorem Eb(f r o s key:Int)(w:World)(hp:JG f r o s 0=0)(hu:YD key)(hk:UI f r o s key=6):
  Calls Tryz.prog 89 #[.agg #[.int .i64 f,.int .i64 r,.int .i64 o,.int .i64 s,.int .i64 0],.int .i64 key] w (XB (Ui f r o s 0 key) 0 w):=by
 exact QGD
theorem Ef(f r o s key:Int)(w:World)(hp:JG f r o s 0=0)(hu:YD key)(hk:UI f r o s key=0):
  Calls Tryz.prog 89 #[.agg #[.int .i64 f,.int .i64 r,.int .i64 o,.int .i64 s,.int .i64 0],.int .i64 key] w (XB (Ui f r o s 0 key) 0 w):=by
 have hX:=Ug.start w f r o s 0;obtain⟨b1,b2,b3,b4,b5⟩:=J2 hp;have HP:=Zy hp;clear hp;rw[Uh hu,hk,if_neg QQ,if_neg QQ,if_neg QQ,if_neg QQ];have u1:32<=key:=Qe;have u2:(key==127)=false:=QO;clear hu;have HK:=Zy hk;clear hk;exact QDY
theorem Bg(f r o s key:Int)(w:World)(hp:JG f r o s 0=0)(hu:YD key)(hk:UI f r o s key=1)(ho:o≠0):
  Calls Tryz.prog 89 #[.agg #[.int .i64 f,.int .i64 r,.int .i64 o,.int .i64 s,.int .i64 0],.int .i64 key] w (XB (Ui f r o s 0 key) 0 w):=by
 have hX:=Ug.start w f r o s 0;obtain⟨b1,b2,b3,b4,b5⟩:=J2 hp;have HP:=Zy hp;clear hp;rw[Uh hu,hk,if_pos rfl,if_pos ho];have u1:32<=key:=Qe;have u2:(key==127)=false:=QO;clear hu;have HK:=Zy hk;clear hk;have ho2:(o !=0)=true:=QA2;clear ho;obtain⟨d1,d2⟩:=OB HK.out;go_enter Tryz.func89,Tryz.ntmps89
 go_wp2_with (first|(go_at_call 17;refine(YV _ _ _ _ _ _).mono ?_;rintro e w9 ⟨rfl,hb⟩;rw[HP.out];have hX1:=hX.below hb;obtain⟨c0,c1,c2,c3,c4⟩:=hX1.p.five;obtain⟨g0,g1,g2,g3,g4⟩:=hX1.p.Z6;obtain⟨k0,k1,k2,k3,k4⟩:=hX1.q.five;obtain⟨l0,l1,l2,l3,l4⟩:=hX1.q.Z6;obtain⟨m0,m1,m2,m3,m4⟩:=hX1.c.five;obtain⟨n0,n1,n2,n3,n4⟩:=hX1.c.Z6)|(go_at_call 138;refine(YT _ _ _ _ _ _ _).mono ?_;rintro e w8 ⟨rfl,hb2⟩;rw[HK.out];have hX2:=hX1.below hb2;obtain⟨c0,c1,c2,c3,c4⟩:=hX2.p.five;obtain⟨g0,g1,g2,g3,g4⟩:=hX2.p.Z6;obtain⟨k0,k1,k2,k3,k4⟩:=hX2.q.five;obtain⟨l0,l1,l2,l3,l4⟩:=hX2.q.Z6;obtain⟨m0,m1,m2,m3,m4⟩:=hX2.c.five;obtain⟨n0,n1,n2,n3,n4⟩:=hX2.c.Z6)|(go_at_call 139;refine(yY _ _ _ b3 b4 d1 d2).mono ?_;rintro e w7 ⟨rfl,rfl⟩))
 obtain⟨hq,hc,hbel⟩:=(hX2.MW (f':=f) (r':=r) (o':=o) (s':=Wm s key) (iK:=0) 3 (.int .i64 (Wm s key)) rfl).done (.int .i64 (f)) (.int .i64 (r)) (.int .i64 (o)) (.int .i64 (Wm s key)) (.int .i64 (0)) (.int .i64 (0)) (.int .i64 (0)) (.int .i64 (0)) (.int .i64 (0)) (.int .i64 (0)) rfl;obtain⟨y0,y1,y2,y3,y4⟩:=hq.five;obtain⟨z0,z1,z2,z3,z4⟩:=hc.five;exact ZC (v:=.tuple #[(TK.more f r o (Wm s key) 0).q,(TK.more f r o (Wm s key) 0).c,.int .i64 1,.int .i64 0]) Qj rfl (XB.of hbel)
theorem Bf(f r o s key:Int)(w:World)(hp:JG f r o s 0=0)(hu:YD key)(hk:UI f r o s key=1)(ho:¬o≠0):
  Calls Tryz.prog 89 #[.agg #[.int .i64 f,.int .i64 r,.int .i64 o,.int .i64 s,.int .i64 0],.int .i64 key] w (XB (Ui f r o s 0 key) 0 w):=by
 have hX:=Ug.start w f r o s 0;obtain⟨b1,b2,b3,b4,b5⟩:=J2 hp;have HP:=Zy hp;clear hp;rw[Uh hu,hk,if_pos rfl,if_neg ho];have u1:32<=key:=Qe;have u2:(key==127)=false:=QO;clear hu;have HK:=Zy hk;clear hk;have ho2:(o !=0)=false:=QA2;clear ho;obtain⟨d1,d2⟩:=OB HK.out;go_enter Tryz.func89,Tryz.ntmps89
 go_wp2_with (first|(go_at_call 17;refine(YV _ _ _ _ _ _).mono ?_;rintro e w9 ⟨rfl,hb⟩;rw[HP.out];have hX1:=hX.below hb;obtain⟨c0,c1,c2,c3,c4⟩:=hX1.p.five;obtain⟨g0,g1,g2,g3,g4⟩:=hX1.p.Z6;obtain⟨k0,k1,k2,k3,k4⟩:=hX1.q.five;obtain⟨l0,l1,l2,l3,l4⟩:=hX1.q.Z6;obtain⟨m0,m1,m2,m3,m4⟩:=hX1.c.five;obtain⟨n0,n1,n2,n3,n4⟩:=hX1.c.Z6)|(go_at_call 138;refine(YT _ _ _ _ _ _ _).mono ?_;rintro e w8 ⟨rfl,hb2⟩;rw[HK.out];have hX2:=hX1.below hb2;obtain⟨c0,c1,c2,c3,c4⟩:=hX2.p.five;obtain⟨g0,g1,g2,g3,g4⟩:=hX2.p.Z6;obtain⟨k0,k1,k2,k3,k4⟩:=hX2.q.five;obtain⟨l0,l1,l2,l3,l4⟩:=hX2.q.Z6;obtain⟨m0,m1,m2,m3,m4⟩:=hX2.c.five;obtain⟨n0,n1,n2,n3,n4⟩:=hX2.c.Z6)|(go_at_call 139;refine(yY _ _ _ b1 b2 d1 d2).mono ?_;rintro e w7 ⟨rfl,rfl⟩))
 obtain⟨hq,hc,hbel⟩:=(hX2.MW (f':=Wm f key) (r':=r) (o':=o) (s':=s) (iK:=0) 0 (.int .i64 (Wm f key)) rfl).done (.int .i64 (Wm f key)) (.int .i64 (r)) (.int .i64 (o)) (.int .i64 (s)) (.int .i64 (0)) (.int .i64 (0)) (.int .i64 (0)) (.int .i64 (0)) (.int .i64 (0)) (.int .i64 (0)) rfl;obtain⟨y0,y1,y2,y3,y4⟩:=hq.five;obtain⟨z0,z1,z2,z3,z4⟩:=hc.five;exact ZC (v:=.tuple #[(TK.more (Wm f key) r o s 0).q,(TK.more (Wm f key) r o s 0).c,.int .i64 1,.int .i64 0]) Qj rfl (XB.of hbel)
theorem Bc(f r o s key:Int)(w:World)(hp:JG f r o s 0=0)(hu:YD key)(hk:UI f r o s key=3)(ho:o=0):
  Calls Tryz.prog 89 #[.agg #[.int .i64 f,.int .i64 r,.int .i64 o,.int .i64 s,.int .i64 0],.int .i64 key] w (XB (Ui f r o s 0 key) 0 w):=by
 have hX:=Ug.start w f r o s 0;obtain⟨b1,b2,b3,b4,b5⟩:=J2 hp;have HP:=Zy hp;clear hp;rw[Uh hu,hk,if_neg QQ,if_neg QQ,if_pos rfl,if_pos ho];have u1:32<=key:=Qe;have u2:(key==127)=false:=QO;clear hu;have HK:=Zy hk;clear hk;have ho2:(o==0)=true:=QA2;clear ho b5;go_enter Tryz.func89,Tryz.ntmps89
 go_wp2_with (first|(go_at_call 17;refine(YV _ _ _ _ _ _).mono ?_;rintro e w9 ⟨rfl,hb⟩;rw[HP.out];have hX1:=hX.below hb;obtain⟨c0,c1,c2,c3,c4⟩:=hX1.p.five;obtain⟨g0,g1,g2,g3,g4⟩:=hX1.p.Z6;obtain⟨k0,k1,k2,k3,k4⟩:=hX1.q.five;obtain⟨l0,l1,l2,l3,l4⟩:=hX1.q.Z6;obtain⟨m0,m1,m2,m3,m4⟩:=hX1.c.five;obtain⟨n0,n1,n2,n3,n4⟩:=hX1.c.Z6)|(go_at_call 138;refine(YT _ _ _ _ _ _ _).mono ?_;rintro e w8 ⟨rfl,hb2⟩;rw[HK.out];have hX2:=hX1.below hb2;obtain⟨c0,c1,c2,c3,c4⟩:=hX2.p.five;obtain⟨g0,g1,g2,g3,g4⟩:=hX2.p.Z6;obtain⟨k0,k1,k2,k3,k4⟩:=hX2.q.five;obtain⟨l0,l1,l2,l3,l4⟩:=hX2.q.Z6;obtain⟨m0,m1,m2,m3,m4⟩:=hX2.c.five;obtain⟨n0,n1,n2,n3,n4⟩:=hX2.c.Z6))
 obtain⟨hq,hc,hbel⟩:=(hX2.MW (f':=f) (r':=r) (o':=key) (s':=s) (iK:=0) 2 (.int .i64 key) rfl).done (.int .i64 (f)) (.int .i64 (r)) (.int .i64 (key)) (.int .i64 (s)) (.int .i64 (0)) (.int .i64 (0)) (.int .i64 (0)) (.int .i64 (0)) (.int .i64 (0)) (.int .i64 (0)) rfl;obtain⟨y0,y1,y2,y3,y4⟩:=hq.five;obtain⟨z0,z1,z2,z3,z4⟩:=hc.five;exact ZC (v:=.tuple #[(TK.more f r key s 0).q,(TK.more f r key s 0).c,.int .i64 1,.int .i64 0]) Qj rfl (XB.of hbel)
theorem Be(f r o s key:Int)(w:World)(hp:JG f r o s 0=0)(hu:YD key)(hk:UI f r o s key=3)(ho:¬o=0)(hn:o≠key):
  Calls Tryz.prog 89 #[.agg #[.int .i64 f,.int .i64 r,.int .i64 o,.int .i64 s,.int .i64 0],.int .i64 key] w (XB (Ui f r o s 0 key) 0 w):=by
 have hX:=Ug.start w f r o s 0;obtain⟨b1,b2,b3,b4,b5⟩:=J2 hp;have HP:=Zy hp;clear hp;rw[Uh hu,hk,if_neg QQ,if_neg QQ,if_pos rfl,if_neg ho,if_pos hn];have u1:32<=key:=Qe;have u2:(key==127)=false:=QO;clear hu;have HK:=Zy hk;clear hk;have ho2:(o==0)=false:=QA2;have ho3:(o !=key)=true:=by simpa using hn
 clear ho hn b5;exact QDY
theorem Bd(f r o s key:Int)(w:World)(hp:JG f r o s 0=0)(hu:YD key)(hk:UI f r o s key=3)(ho:¬o=0)(hn:¬o≠key):
  Calls Tryz.prog 89 #[.agg #[.int .i64 f,.int .i64 r,.int .i64 o,.int .i64 s,.int .i64 0],.int .i64 key] w (XB (Ui f r o s 0 key) 0 w):=by
 have hX:=Ug.start w f r o s 0;obtain⟨b1,b2,b3,b4,b5⟩:=J2 hp;have HP:=Zy hp;clear hp;rw[Uh hu,hk,if_neg QQ,if_neg QQ,if_pos rfl,if_neg ho,if_neg hn];have u1:32<=key:=Qe;have u2:(key==127)=false:=QO;clear hu;have HK:=Zy hk;clear hk;have ho2:(o==0)=false:=QA2;have ho3:(o !=key)=false:=by simpa using hn
 clear ho hn b5;exact QCi
theorem mO(f r o s key:Int):UI f r o s key=0\/UI f r o s key=1\/UI f r o s key=2\/UI f r o s key=3\/UI f r o s key=4\/UI f r o s key=5\/UI f r o s key=6\/UI f r o s key=7\/UI f r o s key=8:=by
 unfold UI
 repeat(first|omega|split)
theorem RU(f r o s wt key:Int)(w:World)(hp:JG f r o s wt=0):
  Calls Tryz.prog 89 #[.agg #[.int .i64 f,.int .i64 r,.int .i64 o,.int .i64 s,.int .i64 wt],.int .i64 key] w (XB (Ui f r o s wt key) 0 w):=by
 by_cases hlo:key<32\/key=127
 ·exact ES _ _ _ _ _ _ _ hp hlo
 ·by_cases hw:wt=0
  ·subst hw
   rcases mO f r o s key with h|h|h|h|h|h|h|h|h
   ·exact Ef _ _ _ _ _ _ hp hlo h
   ·by_cases ho:o≠0
    ·exact Bg _ _ _ _ _ _ hp hlo h ho
    ·exact Bf _ _ _ _ _ _ hp hlo h ho
   ·exact Ee _ _ _ _ _ _ hp hlo h
   ·by_cases ho:o=0
    ·exact Bc _ _ _ _ _ _ hp hlo h ho
    ·by_cases hn:o≠key
     ·exact Be _ _ _ _ _ _ hp hlo h ho hn
     ·exact Bd _ _ _ _ _ _ hp hlo h ho hn
   ·exact Ed _ _ _ _ _ _ hp hlo h
   ·exact Ec _ _ _ _ _ _ hp hlo h
   ·exact Eb _ _ _ _ _ _ hp hlo h
   ·exact Ea _ _ _ _ _ _ hp hlo h
   ·exact ET _ _ _ _ _ _ hp hlo h
  ·exact Eg _ _ _ _ _ _ _ hp hlo hw
end Go.Proofs.YtmdcencmiopmmaaGreat
