/- joined, no condition of its own. -/
import Derived.Test.YtmdnepkekekncaaGreatJfJ14
import Derived.Test.YtmdnepkekekncaaGreatJfJ15
set_option linter.unusedVariables false
set_option linter.unusedSimpArgs false
set_option maxRecDepth 100000
set_option maxHeartbeats 12000000
namespace Go.Proofs.YtmdnepkekekncaaGreat
open Go.RowKit
theorem sZ(P:Nat)(us:List Value)(I:In)(hI:Je I)(s:St)(w:World)(h:DI P w us I s)(hc0:0<=s.cm.a)(hc1:s.cm.a<=999)(hd:s.cm.d=105):
  Calls Tryz.prog 154 #[.pointer (some ⟨P,0,none⟩)] w (Y5 P I (0) ({s with md:=1}) w):=by
 have HI:=Zy hI;have htop:=hI.top;have hk1:=hI.k1;have h1:=h.alloc (.cells #[.pointer (some ⟨P,0,none⟩)] 225);have qd:=h.lt;have e0:(w.alloc (.cells #[.pointer (some ⟨P,0,none⟩)] 225)).cell? ⟨w.heap.size,0,none⟩=some (.pointer (some ⟨P,0,none⟩)):=(Za.new w #[.pointer (some ⟨P,0,none⟩)] 225).cell 0;have HA1:=Zy (Yk.of (P:=P) (ZR w (.cells #[.pointer (some ⟨P,0,none⟩)] 225))).drew;have hne:w.heap.size≠P:=QQ;obtain⟨N,hN,hN1,Tw⟩:∃N:Nat,max 1 s.cm.a=(N:Int)/\1<=N/\N<=999:=⟨(max 1 s.cm.a).toNat,QQ,QQ,QQ⟩;have HD:=Zy hd;have c0:=h1.c0;have YI:=h1.YI;have c32:=h1.c32;rw[hd]at c32;have H1:=Zy h1.drew;obtain⟨ct,hct⟩:∃ct,s.cm.a=ct:=⟨_,rfl⟩;rw[hct]at YI hN hc0 hc1;have jG:=Zy hct;have UO:=Zy hN;clear hI h h1 hct hN hd;go_enter Tryz.func154,Tryz.ntmps154
 go_upto_region 1 with fail
 generalize(w.alloc (.cells #[.pointer (some ⟨P,0,none⟩)] 225))=w1 at *
 go_cut [3,4] (fun u v wx=>u=.int .i64 (N:Int)/\v=.int .i64 (I.n:Int)/\w1.drew=wx)
 case first=>
  exact QFW
 obtain⟨rfl,rfl,rfl⟩:=hcut;clear YI hc0 hc1;replace e0:w1.drew.cell? ⟨w.heap.size,0,none⟩=some (.pointer (some ⟨P,0,none⟩)):=e0;replace c32:w1.drew.cell? ⟨P,32,none⟩=some (.int .i64 105):=c32;replace c0:w1.drew.cell? ⟨P,0,none⟩=some (.slice I.a I.n I.c):=c0;generalize w1.drew=w2 at *;clear w1;have Mm:=H1.out.Mm;have f65:=H1.out.free 65;go_wp2;go_ret;exact⟨rfl,⟨_,H1.out.qp 1⟩,HA1.out.trans (Yk.set _)⟩
theorem sV(P:Nat)(us:List Value)(I:In)(hI:Je I)(s:St)(w:World)(h:DI P w us I s)(hc0:0<=s.cm.a)(hc1:s.cm.a<=999)(hd:s.cm.d=82):
  Calls Tryz.prog 154 #[.pointer (some ⟨P,0,none⟩)] w (Y5 P I (0) ({s with md:=2}) w):=by
 have HI:=Zy hI;have htop:=hI.top;have hk1:=hI.k1;have h1:=h.alloc (.cells #[.pointer (some ⟨P,0,none⟩)] 225);have qd:=h.lt;have e0:(w.alloc (.cells #[.pointer (some ⟨P,0,none⟩)] 225)).cell? ⟨w.heap.size,0,none⟩=some (.pointer (some ⟨P,0,none⟩)):=(Za.new w #[.pointer (some ⟨P,0,none⟩)] 225).cell 0;have HA1:=Zy (Yk.of (P:=P) (ZR w (.cells #[.pointer (some ⟨P,0,none⟩)] 225))).drew;have hne:w.heap.size≠P:=QQ;obtain⟨N,hN,hN1,Tw⟩:∃N:Nat,max 1 s.cm.a=(N:Int)/\1<=N/\N<=999:=⟨(max 1 s.cm.a).toNat,QQ,QQ,QQ⟩;have HD:=Zy hd;have c0:=h1.c0;have YI:=h1.YI;have c32:=h1.c32;rw[hd]at c32;have H1:=Zy h1.drew;obtain⟨ct,hct⟩:∃ct,s.cm.a=ct:=⟨_,rfl⟩;rw[hct]at YI hN hc0 hc1;have jG:=Zy hct;have UO:=Zy hN;clear hI h h1 hct hN hd;go_enter Tryz.func154,Tryz.ntmps154
 go_upto_region 1 with fail
 generalize(w.alloc (.cells #[.pointer (some ⟨P,0,none⟩)] 225))=w1 at *
 go_cut [3,4] (fun u v wx=>u=.int .i64 (N:Int)/\v=.int .i64 (I.n:Int)/\w1.drew=wx)
 case first=>
  exact QFW
 obtain⟨rfl,rfl,rfl⟩:=hcut;clear YI hc0 hc1;replace e0:w1.drew.cell? ⟨w.heap.size,0,none⟩=some (.pointer (some ⟨P,0,none⟩)):=e0;replace c32:w1.drew.cell? ⟨P,32,none⟩=some (.int .i64 82):=c32;replace c0:w1.drew.cell? ⟨P,0,none⟩=some (.slice I.a I.n I.c):=c0;generalize w1.drew=w2 at *;clear w1;have Mm:=H1.out.Mm;have f65:=H1.out.free 65;go_wp2;go_ret;exact⟨rfl,⟨_,H1.out.qp 2⟩,HA1.out.trans (Yk.set _)⟩
theorem sD(P:Nat)(us:List Value)(I:In)(hI:Je I)(s:St)(w:World)(h:DI P w us I s)(hc0:0<=s.cm.a)(hc1:s.cm.a<=999)(hd:s.cm.d=65):
  Calls Tryz.prog 154 #[.pointer (some ⟨P,0,none⟩)] w (Y5 P I (0) ({s with md:=1,p:=(I.n:Int)}) w):=by
 have HI:=Zy hI;have htop:=hI.top;have hk1:=hI.k1;have h1:=h.alloc (.cells #[.pointer (some ⟨P,0,none⟩)] 225);have qd:=h.lt;have e0:(w.alloc (.cells #[.pointer (some ⟨P,0,none⟩)] 225)).cell? ⟨w.heap.size,0,none⟩=some (.pointer (some ⟨P,0,none⟩)):=(Za.new w #[.pointer (some ⟨P,0,none⟩)] 225).cell 0;have HA1:=Zy (Yk.of (P:=P) (ZR w (.cells #[.pointer (some ⟨P,0,none⟩)] 225))).drew;have hne:w.heap.size≠P:=QQ;obtain⟨N,hN,hN1,Tw⟩:∃N:Nat,max 1 s.cm.a=(N:Int)/\1<=N/\N<=999:=⟨(max 1 s.cm.a).toNat,QQ,QQ,QQ⟩;have HD:=Zy hd;have c0:=h1.c0;have YI:=h1.YI;have c32:=h1.c32;rw[hd]at c32;have H1:=Zy h1.drew;obtain⟨ct,hct⟩:∃ct,s.cm.a=ct:=⟨_,rfl⟩;rw[hct]at YI hN hc0 hc1;have jG:=Zy hct;have UO:=Zy hN;clear hI h h1 hct hN hd;go_enter Tryz.func154,Tryz.ntmps154
 go_upto_region 1 with fail
 generalize(w.alloc (.cells #[.pointer (some ⟨P,0,none⟩)] 225))=w1 at *
 go_cut [3,4] (fun u v wx=>u=.int .i64 (N:Int)/\v=.int .i64 (I.n:Int)/\w1.drew=wx)
 case first=>
  exact QFW
 obtain⟨rfl,rfl,rfl⟩:=hcut;clear YI hc0 hc1;replace e0:w1.drew.cell? ⟨w.heap.size,0,none⟩=some (.pointer (some ⟨P,0,none⟩)):=e0;replace c32:w1.drew.cell? ⟨P,32,none⟩=some (.int .i64 65):=c32;replace c0:w1.drew.cell? ⟨P,0,none⟩=some (.slice I.a I.n I.c):=c0;generalize w1.drew=w2 at *;clear w1;have Mm:=H1.out.Mm;have f65:=H1.out.free 65;have yx:=H1.out.yx;have f35:=H1.out.free 35;go_wp2;go_ret;exact⟨rfl,⟨_,(H1.out.qp 1).Ux (I.n:Int)⟩,HA1.out.trans ((Yk.set _).trans (Yk.set _))⟩
theorem fM(P:Nat)(us:List Value)(I:In)(hI:Je I)(s:St)(w:World)(h:DI P w us I s)(hc0:0<=s.cm.a)(hc1:s.cm.a<=999)(n112:s.cm.d≠112)(n80:s.cm.d≠80)(n126:s.cm.d≠126)(n114:s.cm.d≠114)(n105:s.cm.d≠105)(n73:s.cm.d≠73)(n97:s.cm.d≠97)(n65:s.cm.d≠65)(n82:s.cm.d≠82):
  Calls Tryz.prog 154 #[.pointer (some ⟨P,0,none⟩)] w (Y5 P I (9) (s) w):=by
 have HI:=Zy hI;have htop:=hI.top;have hk1:=hI.k1;have h1:=h.alloc (.cells #[.pointer (some ⟨P,0,none⟩)] 225);have qd:=h.lt;have e0:(w.alloc (.cells #[.pointer (some ⟨P,0,none⟩)] 225)).cell? ⟨w.heap.size,0,none⟩=some (.pointer (some ⟨P,0,none⟩)):=(Za.new w #[.pointer (some ⟨P,0,none⟩)] 225).cell 0;have HA1:=Zy (Yk.of (P:=P) (ZR w (.cells #[.pointer (some ⟨P,0,none⟩)] 225))).drew;have hne:w.heap.size≠P:=QQ;obtain⟨N,hN,hN1,Tw⟩:∃N:Nat,max 1 s.cm.a=(N:Int)/\1<=N/\N<=999:=⟨(max 1 s.cm.a).toNat,QQ,QQ,QQ⟩;have Qu5:(s.cm.d==112)=false:=by simpa using n112
 have m80:(s.cm.d==80)=false:=by simpa using n80
 have Qu3:(s.cm.d==126)=false:=by simpa using n126
 have Qu4:(s.cm.d==114)=false:=by simpa using n114
 have Qu6:(s.cm.d==105)=false:=by simpa using n105
 have m73:(s.cm.d==73)=false:=by simpa using n73
 have m97:(s.cm.d==97)=false:=by simpa using n97
 have m65:(s.cm.d==65)=false:=by simpa using n65
 have m82:(s.cm.d==82)=false:=by simpa using n82
 clear n112 n80 n126 n114 n105 n73 n97 n65 n82;have c0:=h1.c0;have YI:=h1.YI;have c32:=h1.c32;have H1:=Zy h1.drew;obtain⟨ct,hct⟩:∃ct,s.cm.a=ct:=⟨_,rfl⟩;rw[hct]at YI hN hc0 hc1;have jG:=Zy hct;have UO:=Zy hN;clear hI h h1 hct hN;go_enter Tryz.func154,Tryz.ntmps154
 go_upto_region 1 with fail
 generalize(w.alloc (.cells #[.pointer (some ⟨P,0,none⟩)] 225))=w1 at *
 go_cut [3,4] (fun u v wx=>u=.int .i64 (N:Int)/\v=.int .i64 (I.n:Int)/\w1.drew=wx)
 case first=>
  exact QFW
 obtain⟨rfl,rfl,rfl⟩:=hcut;clear YI hc0 hc1;replace e0:w1.drew.cell? ⟨w.heap.size,0,none⟩=some (.pointer (some ⟨P,0,none⟩)):=e0;replace c32:w1.drew.cell? ⟨P,32,none⟩=some (.int .i64 s.cm.d):=c32;replace c0:w1.drew.cell? ⟨P,0,none⟩=some (.slice I.a I.n I.c):=c0;generalize w1.drew=w2 at *;clear w1;exact QI4
theorem sU(P:Nat)(us:List Value)(I:In)(hI:Je I)(s:St)(w:World)(h:DI P w us I s)(hc0:0<=s.cm.a)(hc1:s.cm.a<=999)(hd:s.cm.d=97)(pv:Int)(hpv:min ((I.k:Int)+1) I.n=pv):
  Calls Tryz.prog 154 #[.pointer (some ⟨P,0,none⟩)] w (Y5 P I (0) ({s with md:=1,p:=pv}) w):=by
 have HI:=Zy hI;have htop:=hI.top;have hk1:=hI.k1;have h1:=h.alloc (.cells #[.pointer (some ⟨P,0,none⟩)] 225);have qd:=h.lt;have e0:(w.alloc (.cells #[.pointer (some ⟨P,0,none⟩)] 225)).cell? ⟨w.heap.size,0,none⟩=some (.pointer (some ⟨P,0,none⟩)):=(Za.new w #[.pointer (some ⟨P,0,none⟩)] 225).cell 0;have HA1:=Zy (Yk.of (P:=P) (ZR w (.cells #[.pointer (some ⟨P,0,none⟩)] 225))).drew;have hne:w.heap.size≠P:=QQ;obtain⟨N,hN,hN1,Tw⟩:∃N:Nat,max 1 s.cm.a=(N:Int)/\1<=N/\N<=999:=⟨(max 1 s.cm.a).toNat,QQ,QQ,QQ⟩;have HD:=Zy hd;have HPV:=Zy hpv;clear hpv;have c0:=h1.c0;have YI:=h1.YI;have c32:=h1.c32;rw[hd]at c32;have H1:=Zy h1.drew;obtain⟨ct,hct⟩:∃ct,s.cm.a=ct:=⟨_,rfl⟩;rw[hct]at YI hN hc0 hc1;have jG:=Zy hct;have UO:=Zy hN;clear hI h h1 hct hN hd;go_enter Tryz.func154,Tryz.ntmps154
 go_upto_region 1 with fail
 generalize(w.alloc (.cells #[.pointer (some ⟨P,0,none⟩)] 225))=w1 at *
 go_cut [3,4] (fun u v wx=>u=.int .i64 (N:Int)/\v=.int .i64 (I.n:Int)/\w1.drew=wx)
 case first=>
  exact QFW
 obtain⟨rfl,rfl,rfl⟩:=hcut;clear YI hc0 hc1;replace e0:w1.drew.cell? ⟨w.heap.size,0,none⟩=some (.pointer (some ⟨P,0,none⟩)):=e0;replace c32:w1.drew.cell? ⟨P,32,none⟩=some (.int .i64 97):=c32;replace c0:w1.drew.cell? ⟨P,0,none⟩=some (.slice I.a I.n I.c):=c0;generalize w1.drew=w2 at *;clear w1;have Mm:=H1.out.Mm;have f65:=H1.out.free 65;have yx:=H1.out.yx;have f35:=H1.out.free 35;have c1:=H1.out.c1;have h3:I.k+1<I.n\/I.n<=I.k+1:=QQ;rcases h3 with h3|h3
 all_goals
  go_upto_region 26 with fail
  go_region
  all_goals
   go_wp2
   all_goals
    go_ret
    first
     | (obtain rfl:pv=(I.k:Int)+1:=by have:=HPV.out;omega);exact⟨rfl,⟨_,((H1.out.qp 1).drew).Ux _⟩,HA1.out.trans ((Yk.set _).drew.trans (Yk.set _))⟩
     | (obtain rfl:pv=(I.n:Int):=by have:=HPV.out;omega);exact⟨rfl,⟨_,((H1.out.qp 1).drew).Ux _⟩,HA1.out.trans ((Yk.set _).drew.trans (Yk.set _))⟩
theorem sW(P:Nat)(us:List Value)(I:In)(hI:Je I)(s:St)(w:World)(h:DI P w us I s)(hc0:0<=s.cm.a)(hc1:s.cm.a<=999)(hd:s.cm.d=80):
  Calls Tryz.prog 154 #[.pointer (some ⟨P,0,none⟩)] w (Y5 P I ((Hr I s I.k).1) ((Hr I s I.k).2) w):=by
 have HI:=Zy hI;have htop:=hI.top;have hk1:=hI.k1;have h1:=h.alloc (.cells #[.pointer (some ⟨P,0,none⟩)] 225);have qd:=h.lt;have e0:(w.alloc (.cells #[.pointer (some ⟨P,0,none⟩)] 225)).cell? ⟨w.heap.size,0,none⟩=some (.pointer (some ⟨P,0,none⟩)):=(Za.new w #[.pointer (some ⟨P,0,none⟩)] 225).cell 0;have HA1:=Zy (Yk.of (P:=P) (ZR w (.cells #[.pointer (some ⟨P,0,none⟩)] 225))).drew;have hne:w.heap.size≠P:=QQ;obtain⟨N,hN,hN1,Tw⟩:∃N:Nat,max 1 s.cm.a=(N:Int)/\1<=N/\N<=999:=⟨(max 1 s.cm.a).toNat,QQ,QQ,QQ⟩;have HD:=Zy hd;have HB:=Zy (And.intro hc0 hc1);have c0:=h1.c0;have YI:=h1.YI;have c32:=h1.c32;rw[hd]at c32;have H1:=Zy h1.drew;obtain⟨ct,hct⟩:∃ct,s.cm.a=ct:=⟨_,rfl⟩;rw[hct]at YI hN hc0 hc1;have jG:=Zy hct;have UO:=Zy hN;clear hI h h1 hct hN hd;go_enter Tryz.func154,Tryz.ntmps154
 go_upto_region 1 with fail
 generalize(w.alloc (.cells #[.pointer (some ⟨P,0,none⟩)] 225))=w1 at *
 go_cut [3,4] (fun u v wx=>u=.int .i64 (N:Int)/\v=.int .i64 (I.n:Int)/\w1.drew=wx)
 case first=>
  exact QFW
 obtain⟨rfl,rfl,rfl⟩:=hcut;clear YI hc0 hc1;replace e0:w1.drew.cell? ⟨w.heap.size,0,none⟩=some (.pointer (some ⟨P,0,none⟩)):=e0;replace c32:w1.drew.cell? ⟨P,32,none⟩=some (.int .i64 80):=c32;replace c0:w1.drew.cell? ⟨P,0,none⟩=some (.slice I.a I.n I.c):=c0;generalize w1.drew=w2 at *;clear w1;have c1:=H1.out.c1;have CP:∀w3,DI P w3 us I s->Calls Tryz.prog 163 #[.pointer (some ⟨P,0,none⟩),.int .i64 (I.k:Int)] w3 (Y5 P I (Hr I s I.k).1 (Hr I s I.k).2 w3):=fun w3 h3=>Br P I.k us I HI.out s w3 h3 QQ (HB.out).1 (HB.out).2
 have kS:=Zy CP;clear CP;go_upto_region 7 with fail
 go_region_law (first|(go_simp;go_at_call 163;refine(kS.out _ H1.out.drew).mono ?_;rintro e w3 ⟨rfl,ky,hA3⟩))
 all_goals
  go_simp;go_wp2;go_ret;exact⟨rfl,ky,HA1.out.drew.trans hA3⟩
theorem rf(P:Nat)(us:List Value)(I:In)(hI:Je I)(s:St)(w:World)(h:DI P w us I s)(hc0:0<=s.cm.a)(hc1:s.cm.a<=999)(hd:s.cm.d=112)(i:Nat)(hi:min (I.k+1) I.n=i):
  Calls Tryz.prog 154 #[.pointer (some ⟨P,0,none⟩)] w (Y5 P I ((Hr I s i).1) ((Hr I s i).2) w):=by
 have HI:=Zy hI;have htop:=hI.top;have hk1:=hI.k1;have h1:=h.alloc (.cells #[.pointer (some ⟨P,0,none⟩)] 225);have qd:=h.lt;have e0:(w.alloc (.cells #[.pointer (some ⟨P,0,none⟩)] 225)).cell? ⟨w.heap.size,0,none⟩=some (.pointer (some ⟨P,0,none⟩)):=(Za.new w #[.pointer (some ⟨P,0,none⟩)] 225).cell 0;have HA1:=Zy (Yk.of (P:=P) (ZR w (.cells #[.pointer (some ⟨P,0,none⟩)] 225))).drew;have hne:w.heap.size≠P:=QQ;obtain⟨N,hN,hN1,Tw⟩:∃N:Nat,max 1 s.cm.a=(N:Int)/\1<=N/\N<=999:=⟨(max 1 s.cm.a).toNat,QQ,QQ,QQ⟩;have HD:=Zy hd;have HB:=Zy (And.intro hc0 hc1);have HPI:=Zy hi;clear hi;have c0:=h1.c0;have YI:=h1.YI;have c32:=h1.c32;rw[hd]at c32;have H1:=Zy h1.drew;obtain⟨ct,hct⟩:∃ct,s.cm.a=ct:=⟨_,rfl⟩;rw[hct]at YI hN hc0 hc1;have jG:=Zy hct;have UO:=Zy hN;clear hI h h1 hct hN hd;go_enter Tryz.func154,Tryz.ntmps154
 go_upto_region 1 with fail
 generalize(w.alloc (.cells #[.pointer (some ⟨P,0,none⟩)] 225))=w1 at *
 go_cut [3,4] (fun u v wx=>u=.int .i64 (N:Int)/\v=.int .i64 (I.n:Int)/\w1.drew=wx)
 case first=>
  exact QFW
 obtain⟨rfl,rfl,rfl⟩:=hcut;clear YI hc0 hc1;replace e0:w1.drew.cell? ⟨w.heap.size,0,none⟩=some (.pointer (some ⟨P,0,none⟩)):=e0;replace c32:w1.drew.cell? ⟨P,32,none⟩=some (.int .i64 112):=c32;replace c0:w1.drew.cell? ⟨P,0,none⟩=some (.slice I.a I.n I.c):=c0;generalize w1.drew=w2 at *;clear w1;have c1:=H1.out.c1;have CP:∀(x:Int) w3,x=(i:Int)->DI P w3 us I s->Calls Tryz.prog 163 #[.pointer (some ⟨P,0,none⟩),.int .i64 x] w3 (Y5 P I (Hr I s i).1 (Hr I s i).2 w3):=fun x w3 hx h3=>by
  subst hx;exact Br P i us I HI.out s w3 h3 (by have:=HPI.out;omega) (HB.out).1 (HB.out).2
 have kS:=Zy CP;clear CP;have iw:IntKind.i64.wrap ((I.k:Int)+1)=(I.k:Int)+1:=QDJ;have h3:I.k+1<I.n\/I.n<=I.k+1:=QQ;rcases h3 with h3|h3
 all_goals
  go_upto_region 5 with fail
  go_region_law (first|(go_simp;go_at_call 163;refine Calls.mono (kS.out _ _ (by have:=HPI.out;omega) H1.out.drew) ?_;rintro e w3 ⟨rfl,ky,hA3⟩))
  all_goals
   go_simp;go_wp2
   all_goals
    go_ret;exact⟨rfl,ky,HA1.out.drew.trans hA3⟩
theorem sj(P:Nat)(us:List Value)(I:In)(hI:Je I)(s:St)(w:World)(h:DI P w us I s)(hc0:0<=s.cm.a)(hc1:s.cm.a<=999)(hd:s.cm.d=73)(A:Int)(hA:Ku I.t=A):
  Calls Tryz.prog 154 #[.pointer (some ⟨P,0,none⟩)] w (Y5 P I (0) ({s with md:=1,p:=A}) w):=by
 have HI:=Zy hI;have htop:=hI.top;have hk1:=hI.k1;have h1:=h.alloc (.cells #[.pointer (some ⟨P,0,none⟩)] 225);have qd:=h.lt;have e0:(w.alloc (.cells #[.pointer (some ⟨P,0,none⟩)] 225)).cell? ⟨w.heap.size,0,none⟩=some (.pointer (some ⟨P,0,none⟩)):=(Za.new w #[.pointer (some ⟨P,0,none⟩)] 225).cell 0;have HA1:=Zy (Yk.of (P:=P) (ZR w (.cells #[.pointer (some ⟨P,0,none⟩)] 225))).drew;have hne:w.heap.size≠P:=QQ;obtain⟨N,hN,hN1,Tw⟩:∃N:Nat,max 1 s.cm.a=(N:Int)/\1<=N/\N<=999:=⟨(max 1 s.cm.a).toNat,QQ,QQ,QQ⟩;have HD:=Zy hd;have HAE:=Zy hA;clear hA;have c0:=h1.c0;have YI:=h1.YI;have c32:=h1.c32;rw[hd]at c32;have H1:=Zy h1.drew;obtain⟨ct,hct⟩:∃ct,s.cm.a=ct:=⟨_,rfl⟩;rw[hct]at YI hN hc0 hc1;have jG:=Zy hct;have UO:=Zy hN;clear hI h h1 hct hN hd;go_enter Tryz.func154,Tryz.ntmps154
 go_upto_region 1 with fail
 generalize(w.alloc (.cells #[.pointer (some ⟨P,0,none⟩)] 225))=w1 at *
 go_cut [3,4] (fun u v wx=>u=.int .i64 (N:Int)/\v=.int .i64 (I.n:Int)/\w1.drew=wx)
 case first=>
  exact QFW
 obtain⟨rfl,rfl,rfl⟩:=hcut;clear YI hc0 hc1;replace e0:w1.drew.cell? ⟨w.heap.size,0,none⟩=some (.pointer (some ⟨P,0,none⟩)):=e0;replace c32:w1.drew.cell? ⟨P,32,none⟩=some (.int .i64 73):=c32;replace c0:w1.drew.cell? ⟨P,0,none⟩=some (.slice I.a I.n I.c):=c0;generalize w1.drew=w2 at *;clear w1;have Mm:=H1.out.Mm;have f65:=H1.out.free 65;have h9:=(H1.out.qp 1).drew;have hgA:vE I.t I.k 94 0 0 false=A/\zi I.t I.k 94 0 0 false=0:=by
  have hl:=HI.out.len;have hE:JG I.t I.k 94 0=0:=by
   unfold JG;rw[if_neg QQ,if_neg QQ];decide
  rw[vE,zi,if_pos hE,if_pos hE,<-HAE.out];exact⟨rfl,rfl⟩
 obtain⟨bb,hbb⟩:∃bb,OO I.t I.k 94 0 0 false=bb:=⟨_,rfl⟩;have GO:=WM I.a I.n I.c I.t I.k 94 0 0 false _ (h9.sl HI.out) HI.out.len QQ ⟨QQ,QQ⟩;rw[hgA.1,hgA.2,hbb]at GO;unfold Nh at GO;have HGO:=Zy GO;have e9:(w2.setCell ⟨P,65,none⟩ (.int .i64 1)).drew.cell? ⟨w.heap.size,0,none⟩=some (.pointer (some ⟨P,0,none⟩)):=((Yk.set (.int .i64 1)).cell hne e0);have d0:=h9.c0;have d1:=h9.c1;have hP9:P<(w2.setCell ⟨P,65,none⟩ (.int .i64 1)).heap.size:=h9.lt;have U7:w.heap.size<(w2.setCell ⟨P,65,none⟩ (.int .i64 1)).heap.size:=Xb e9;have H9:=Zy h9;clear GO hgA hbb h9;go_upto_region 23 with fail
 go_region_held3 (fun w'=>w'.cell? ⟨P,0,none⟩=some (.slice I.a I.n I.c)/\w'.cell? ⟨P,1,none⟩=some (.int .i64 (I.k:Int))/\w'.cell? ⟨w.heap.size,0,none⟩=some (.pointer (some ⟨P,0,none⟩))) (first|exact⟨d0,d1,e9⟩|assumption|exact⟨d0',d1',e0'⟩|exact⟨g0,g1,g2⟩) (first|(go_at_call 161;refine(HGO.out).mono ?_;rintro e w3 ⟨rfl,hb3⟩;have h10:=H9.out.to hb3;have QWA:=h10.yx;have QWU:=h10.free 35;have H10:=Zy h10;have d0':=h10.c0;have d1':=h10.c1;have e0':w3.cell? ⟨w.heap.size,0,none⟩=some (.pointer (some ⟨P,0,none⟩)):=(by rw[hb3.cell U7];exact e9);have h12:=h10.Ux A;have g0:=h12.c0;have g1:=h12.c1;have g2:(w3.setCell ⟨P,35,none⟩ (.int .i64 A)).cell? ⟨w.heap.size,0,none⟩=some (.pointer (some ⟨P,0,none⟩)):=(Yk.set _).cell hne e0';clear h10 h12))
 all_goals
  go_wp2;go_ret;exact⟨rfl,⟨_,H10.out.Ux _⟩,((HA1.out.trans (Yk.set _).drew).trans (Yk.of hb3)).trans (Yk.set _)⟩
theorem fH(P:Nat)(us:List Value)(I:In)(hI:Je I)(s:St)(w:World)(h:DI P w us I s)(hc0:0<=s.cm.a)(hc1:s.cm.a<=999)(hd:s.cm.d=126)(hz:I.n=0):
  Calls Tryz.prog 154 #[.pointer (some ⟨P,0,none⟩)] w (Y5 P I (5) (s) w):=by
 have HI:=Zy hI;have htop:=hI.top;have hk1:=hI.k1;have h1:=h.alloc (.cells #[.pointer (some ⟨P,0,none⟩)] 225);have qd:=h.lt;have e0:(w.alloc (.cells #[.pointer (some ⟨P,0,none⟩)] 225)).cell? ⟨w.heap.size,0,none⟩=some (.pointer (some ⟨P,0,none⟩)):=(Za.new w #[.pointer (some ⟨P,0,none⟩)] 225).cell 0;have HA1:=Zy (Yk.of (P:=P) (ZR w (.cells #[.pointer (some ⟨P,0,none⟩)] 225))).drew;have hne:w.heap.size≠P:=QQ;obtain⟨N,hN,hN1,Tw⟩:∃N:Nat,max 1 s.cm.a=(N:Int)/\1<=N/\N<=999:=⟨(max 1 s.cm.a).toNat,QQ,QQ,QQ⟩;have HD:=Zy hd;have HZ:=Zy hz;clear hz;have c0:=h1.c0;have YI:=h1.YI;have c32:=h1.c32;rw[hd]at c32;have H1:=Zy h1.drew;obtain⟨ct,hct⟩:∃ct,s.cm.a=ct:=⟨_,rfl⟩;rw[hct]at YI hN hc0 hc1;have jG:=Zy hct;have UO:=Zy hN;clear hI h h1 hct hN hd;go_enter Tryz.func154,Tryz.ntmps154
 go_upto_region 1 with fail
 generalize(w.alloc (.cells #[.pointer (some ⟨P,0,none⟩)] 225))=w1 at *
 go_cut [3,4] (fun u v wx=>u=.int .i64 (N:Int)/\v=.int .i64 (I.n:Int)/\w1.drew=wx)
 case first=>
  exact QFW
 obtain⟨rfl,rfl,rfl⟩:=hcut;clear YI hc0 hc1;replace e0:w1.drew.cell? ⟨w.heap.size,0,none⟩=some (.pointer (some ⟨P,0,none⟩)):=e0;replace c32:w1.drew.cell? ⟨P,32,none⟩=some (.int .i64 126):=c32;replace c0:w1.drew.cell? ⟨P,0,none⟩=some (.slice I.a I.n I.c):=c0;generalize w1.drew=w2 at *;clear w1;have iz:((I.n:Int)==0)=true:=by rw[HZ.out];rfl
 exact QI4
theorem rR(P:Nat)(us:List Value)(I:In)(hI:Je I)(s:St)(w:World)(h:DI P w us I s)(hc0:0<=s.cm.a)(hc1:s.cm.a<=999)(hd:s.cm.d=126)(hz:I.n≠0)(m:Nat)(hm:min (max 1 s.cm.a).toNat (I.n-I.k)=m):
  Calls Tryz.prog 154 #[.pointer (some ⟨P,0,none⟩)] w (Y5 P I (0) ({mF I s m ql with p:=Hw ((I.k:Int)+(m:Int)) I.n}) w):=by
 have HI:=Zy hI;have htop:=hI.top;have hk1:=hI.k1;have h1:=h.alloc (.cells #[.pointer (some ⟨P,0,none⟩)] 225);have qd:=h.lt;have e0:(w.alloc (.cells #[.pointer (some ⟨P,0,none⟩)] 225)).cell? ⟨w.heap.size,0,none⟩=some (.pointer (some ⟨P,0,none⟩)):=(Za.new w #[.pointer (some ⟨P,0,none⟩)] 225).cell 0;have HA1:=Zy (Yk.of (P:=P) (ZR w (.cells #[.pointer (some ⟨P,0,none⟩)] 225))).drew;have hne:w.heap.size≠P:=QQ;obtain⟨N,hN,hN1,Tw⟩:∃N:Nat,max 1 s.cm.a=(N:Int)/\1<=N/\N<=999:=⟨(max 1 s.cm.a).toNat,QQ,QQ,QQ⟩;have HD:=Zy hd;have HZ:=Zy hz;have HMM:=Zy hm;clear hz hm;have c0:=h1.c0;have YI:=h1.YI;have c32:=h1.c32;rw[hd]at c32;have H1:=Zy h1.drew;obtain⟨ct,hct⟩:∃ct,s.cm.a=ct:=⟨_,rfl⟩;rw[hct]at YI hN hc0 hc1;have jG:=Zy hct;have UO:=Zy hN;clear hI h h1 hct hN hd;go_enter Tryz.func154,Tryz.ntmps154
 go_upto_region 1 with fail
 generalize(w.alloc (.cells #[.pointer (some ⟨P,0,none⟩)] 225))=w1 at *
 go_cut [3,4] (fun u v wx=>u=.int .i64 (N:Int)/\v=.int .i64 (I.n:Int)/\w1.drew=wx)
 case first=>
  exact QFW
 obtain⟨rfl,rfl,rfl⟩:=hcut;clear YI hc0 hc1;replace e0:w1.drew.cell? ⟨w.heap.size,0,none⟩=some (.pointer (some ⟨P,0,none⟩)):=e0;replace c32:w1.drew.cell? ⟨P,32,none⟩=some (.int .i64 126):=c32;replace c0:w1.drew.cell? ⟨P,0,none⟩=some (.slice I.a I.n I.c):=c0;generalize w1.drew=w2 at *;clear w1;have c1:=H1.out.c1;have iz:((I.n:Int)==0)=false:=by have:=HZ.out;simpa using this
 have hk2:I.k<I.n:=by have:=HZ.out;omega
 have hm2:min N (I.n-I.k)=m:=by have:=HMM.out;rw[jG.out,UO.out,XK]at this;exact this
 have CH:=DC P m us I HI.out s w2 H1.out QQ;have bn:=Zy CH;have HM2:=Zy hm2;have iT:I.k+m<=I.n:=QQ;clear CH hm2;go_upto_region 11 with fail
 go_cut [3] (fun u wx=>u=.int .i64 (m:Int)/\w2=wx)
 case first=>
  have h3:N<I.n-I.k\/I.n-I.k<=N:=QQ;rcases h3 with h3|h3
  all_goals
   go_wp2
   all_goals
    go_meet;exact⟨by congr 1;have:=HM2.out;omega,rfl⟩
 obtain⟨rfl,rfl⟩:=hcut;clear c1;go_wp2_with (go_at_call 164;go_loud (refine(bn.out).mono ?_;rintro e w3 ⟨rfl,⟨us3,h3⟩,hA3⟩))
 have e3:=hA3.cell hne e0;have c1':=h3.drew.c1;have QWA:=h3.drew.yx;have QWU:=h3.drew.free 35;have H3:=Zy h3;clear h3 c0 e0 c32;go_upto_region 13 with fail
 have iw:IntKind.i64.wrap ((I.k:Int)+(m:Int))=(I.k:Int)+m:=QDJ;have h12:=H3.out.drew.Ux (Hw ((I.k:Int)+(m:Int)) I.n);have g1:=h12.c1;have g2:(w3.drew.setCell ⟨P,35,none⟩ (.int .i64 (Hw ((I.k:Int)+(m:Int)) I.n))).cell? ⟨w.heap.size,0,none⟩=some (.pointer (some ⟨P,0,none⟩)):=(Yk.set _).cell hne e3;clear h12
 go_region_held3 (fun w'=>w'.cell? ⟨P,1,none⟩=some (.int .i64 (I.k:Int))/\w'.cell? ⟨w.heap.size,0,none⟩=some (.pointer (some ⟨P,0,none⟩))) (first|exact⟨c1',e3⟩|assumption|exact⟨g1,g2⟩) (first|(go_at_call 166;refine(qz _ _ _ QQ QQ QQ QQ).mono ?_;rintro e w4 ⟨rfl,rfl⟩))
 all_goals
  exact QIt
theorem fI(P:Nat)(us:List Value)(I:In)(hI:Je I)(s:St)(w:World)(h:DI P w us I s)(hc0:0<=s.cm.a)(hc1:s.cm.a<=999)(hd:s.cm.d=114)(hz:(I.n:Int)<I.k+max 1 s.cm.a):
  Calls Tryz.prog 154 #[.pointer (some ⟨P,0,none⟩)] w (Y5 P I (5) (s) w):=by
 have HI:=Zy hI;have htop:=hI.top;have hk1:=hI.k1;have h1:=h.alloc (.cells #[.pointer (some ⟨P,0,none⟩)] 225);have qd:=h.lt;have e0:(w.alloc (.cells #[.pointer (some ⟨P,0,none⟩)] 225)).cell? ⟨w.heap.size,0,none⟩=some (.pointer (some ⟨P,0,none⟩)):=(Za.new w #[.pointer (some ⟨P,0,none⟩)] 225).cell 0;have HA1:=Zy (Yk.of (P:=P) (ZR w (.cells #[.pointer (some ⟨P,0,none⟩)] 225))).drew;have hne:w.heap.size≠P:=QQ;obtain⟨N,hN,hN1,Tw⟩:∃N:Nat,max 1 s.cm.a=(N:Int)/\1<=N/\N<=999:=⟨(max 1 s.cm.a).toNat,QQ,QQ,QQ⟩;have HD:=Zy hd;have HZ:=Zy hz;clear hz;have c0:=h1.c0;have YI:=h1.YI;have c32:=h1.c32;rw[hd]at c32;have H1:=Zy h1.drew;obtain⟨ct,hct⟩:∃ct,s.cm.a=ct:=⟨_,rfl⟩;rw[hct]at YI hN hc0 hc1;have jG:=Zy hct;have UO:=Zy hN;clear hI h h1 hct hN hd;go_enter Tryz.func154,Tryz.ntmps154
 go_upto_region 1 with fail
 generalize(w.alloc (.cells #[.pointer (some ⟨P,0,none⟩)] 225))=w1 at *
 go_cut [3,4] (fun u v wx=>u=.int .i64 (N:Int)/\v=.int .i64 (I.n:Int)/\w1.drew=wx)
 case first=>
  exact QFW
 obtain⟨rfl,rfl,rfl⟩:=hcut;clear YI hc0 hc1;replace e0:w1.drew.cell? ⟨w.heap.size,0,none⟩=some (.pointer (some ⟨P,0,none⟩)):=e0;replace c32:w1.drew.cell? ⟨P,32,none⟩=some (.int .i64 114):=c32;replace c0:w1.drew.cell? ⟨P,0,none⟩=some (.slice I.a I.n I.c):=c0;generalize w1.drew=w2 at *;clear w1;have c1:=H1.out.c1;have hz:(I.n:Int)<I.k+(N:Int):=by have:=HZ.out;rw[jG.out,UO.out]at this;exact this
 exact QI4
theorem rT(P:Nat)(us:List Value)(I:In)(hI:Je I)(s:St)(w:World)(h:DI P w us I s)(hc0:0<=s.cm.a)(hc1:s.cm.a<=999)(hd:s.cm.d=114)(m:Nat)(hm:max 1 s.cm.a=(m:Int))(hz:I.k+m<=I.n):
  Calls Tryz.prog 154 #[.pointer (some ⟨P,0,none⟩)] w (Y5 P I (0) ({mF I s m (fun _=>s.cm.e)with p:=(I.k:Int)+(m:Int)-1}) w):=by
 have HI:=Zy hI;have htop:=hI.top;have hk1:=hI.k1;have h1:=h.alloc (.cells #[.pointer (some ⟨P,0,none⟩)] 225);have qd:=h.lt;have e0:(w.alloc (.cells #[.pointer (some ⟨P,0,none⟩)] 225)).cell? ⟨w.heap.size,0,none⟩=some (.pointer (some ⟨P,0,none⟩)):=(Za.new w #[.pointer (some ⟨P,0,none⟩)] 225).cell 0;have HA1:=Zy (Yk.of (P:=P) (ZR w (.cells #[.pointer (some ⟨P,0,none⟩)] 225))).drew;have hne:w.heap.size≠P:=QQ;obtain⟨N,hN,hN1,Tw⟩:∃N:Nat,max 1 s.cm.a=(N:Int)/\1<=N/\N<=999:=⟨(max 1 s.cm.a).toNat,QQ,QQ,QQ⟩;have HD:=Zy hd;have HMM:=Zy hm;clear hm;have c0:=h1.c0;have YI:=h1.YI;have c32:=h1.c32;rw[hd]at c32;have H1:=Zy h1.drew;obtain⟨ct,hct⟩:∃ct,s.cm.a=ct:=⟨_,rfl⟩;rw[hct]at YI hN hc0 hc1;have jG:=Zy hct;have UO:=Zy hN;clear hI h h1 hct hN hd;go_enter Tryz.func154,Tryz.ntmps154
 go_upto_region 1 with fail
 generalize(w.alloc (.cells #[.pointer (some ⟨P,0,none⟩)] 225))=w1 at *
 go_cut [3,4] (fun u v wx=>u=.int .i64 (N:Int)/\v=.int .i64 (I.n:Int)/\w1.drew=wx)
 case first=>
  exact QFW
 obtain⟨rfl,rfl,rfl⟩:=hcut;clear YI hc0 hc1;replace e0:w1.drew.cell? ⟨w.heap.size,0,none⟩=some (.pointer (some ⟨P,0,none⟩)):=e0;replace c32:w1.drew.cell? ⟨P,32,none⟩=some (.int .i64 114):=c32;replace c0:w1.drew.cell? ⟨P,0,none⟩=some (.slice I.a I.n I.c):=c0;generalize w1.drew=w2 at *;clear w1;have c1:=H1.out.c1;obtain rfl:N=m:=by have:=HMM.out;rw[jG.out,UO.out]at this;exact Int.ofNat.inj this
 have CH:=Mq P N w.heap.size us I HI.out s w2 H1.out hz e0;have bn:=Zy CH;clear CH;go_wp2_with (go_at_call 164;go_loud (refine(bn.out).mono ?_;rintro e w3 ⟨rfl,⟨us3,h3⟩,hA3⟩))
 have e3:=hA3.cell hne e0;have c1':=h3.drew.c1;have QWA:=h3.drew.yx;have QWU:=h3.drew.free 35;have H3:=Zy h3;clear h3 c1 c0 e0 c32;go_upto_region 18 with fail
 go_region
 all_goals
  exact QIt
theorem Oi(P:Nat)(us:List Value)(I:In)(hI:Je I)(s:St)(w:World)(h:DI P w us I s)(hc0:0<=s.cm.a)(hc1:s.cm.a<=999):
  Calls Tryz.prog 154 #[.pointer (some ⟨P,0,none⟩)] w (Y5 P I (FI I s).1 (FI I s).2 w):=by
 have hk1:=hI.k1;by_cases h1:s.cm.d=112
 ·rw[FI,if_pos h1];exact rf P us I hI s w h hc0 hc1 h1 _ rfl
 by_cases h2:s.cm.d=80
 ·rw[FI,if_neg h1,if_pos h2];exact sW P us I hI s w h hc0 hc1 h2
 by_cases h3:s.cm.d=126
 ·rw[FI,if_neg h1,if_neg h2,if_pos h3]
  by_cases hz:I.n=0
  ·rw[if_pos hz];exact fH P us I hI s w h hc0 hc1 h3 hz
  ·rw[if_neg hz]
   have:=rR P us I hI s w h hc0 hc1 h3 hz _ rfl;rw[show Hw ((I.k:Int)+((min (max 1 s.cm.a).toNat (I.n-I.k):Nat):Int)) I.n=min ((I.k:Int)+max 1 s.cm.a) (I.n-1) by unfold Hw;omega]at this;exact this
 by_cases h4:s.cm.d=114
 ·rw[FI,if_neg h1,if_neg h2,if_neg h3,if_pos h4]
  by_cases hz:(I.n:Int)<I.k+max 1 s.cm.a
  ·rw[if_pos hz];exact fI P us I hI s w h hc0 hc1 h4 hz
  ·rw[if_neg hz]
   have hm:max 1 s.cm.a=((max 1 s.cm.a).toNat:Int):=QQ;have:=rT P us I hI s w h hc0 hc1 h4 (max 1 s.cm.a).toNat hm QQ;rw[<-hm]at this;exact this
 by_cases h5:s.cm.d=105
 ·rw[FI,if_neg h1,if_neg h2,if_neg h3,if_neg h4,if_pos h5];exact sZ P us I hI s w h hc0 hc1 h5
 by_cases h6:s.cm.d=73
 ·rw[FI,if_neg h1,if_neg h2,if_neg h3,if_neg h4,if_neg h5,if_pos h6];exact sj P us I hI s w h hc0 hc1 h6 _ rfl
 by_cases h7:s.cm.d=97
 ·rw[FI,if_neg h1,if_neg h2,if_neg h3,if_neg h4,if_neg h5,if_neg h6,if_pos h7];exact sU P us I hI s w h hc0 hc1 h7 _ rfl
 by_cases h8:s.cm.d=65
 ·rw[FI,if_neg h1,if_neg h2,if_neg h3,if_neg h4,if_neg h5,if_neg h6,if_neg h7,if_pos h8];exact sD P us I hI s w h hc0 hc1 h8
 by_cases h9:s.cm.d=82
 ·rw[FI,if_neg h1,if_neg h2,if_neg h3,if_neg h4,if_neg h5,if_neg h6,if_neg h7,if_neg h8,if_pos h9];exact sV P us I hI s w h hc0 hc1 h9
 rw[FI,if_neg h1,if_neg h2,if_neg h3,if_neg h4,if_neg h5,if_neg h6,if_neg h7,if_neg h8,if_neg h9];exact fM P us I hI s w h hc0 hc1 h1 h2 h3 h4 h5 h6 h7 h8 h9
end Go.Proofs.YtmdnepkekekncaaGreat
