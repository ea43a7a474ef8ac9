/- LiftTopBounds: joined, no condition of its own. -/
import Derived.Test.YtmdcencmiopmmaaGreatTbJoinT
import Derived.Test.YtmdcencmiopmmaaGreatTbJoinJ14
import Derived.Test.YtmdcencmiopmmaaGreatTbJoinJ15
set_option linter.unusedVariables false
set_option linter.unusedSimpArgs false
set_option maxRecDepth 100000
set_option maxHeartbeats 12000000
namespace Go.Proofs.YtmdcencmiopmmaaGreat
open Go.RowKit
theorem dD(P:Nat)(us:List Value)(I:In)(hI:YC I)(s:St)(w:World)(h:DI P w us I s)(hc0:0<=s.cm.a)(hc1:s.cm.a<=999)(hd:s.cm.d=105):
  Calls Tryz.prog 249 #[.pointer (some ⟨P,0,none⟩)] w (Xc P I (0) ({s with md:=1}) w):=by
 have HI:=QQ hI;have htop:=hI.top;have hk1:=hI.k1;have h1:=h.alloc (.cells #[.pointer (some ⟨P,0,none⟩)] 300);have VF:=h.lt;have e0:(w.alloc (.cells #[.pointer (some ⟨P,0,none⟩)] 300)).cell? ⟨w.heap.size,0,none⟩=some (.pointer (some ⟨P,0,none⟩)):=(QD.new w #[.pointer (some ⟨P,0,none⟩)] 300).cell 0;have HA1:=QQ (Z6.of (P:=P) (QC w (.cells #[.pointer (some ⟨P,0,none⟩)] 300))).drew;have hne:w.heap.size≠P:=by omega
 obtain⟨N,hN,hN1,N9⟩:∃N:Nat,max 1 s.cm.a=(N:Int)/\1<=N/\N<=999:=⟨(max 1 s.cm.a).toNat,by omega,by omega,by omega⟩;have HD:=QQ hd;have c0:=h1.c0;have XY:=h1.XY;have c32:=h1.c32;rw[hd]at c32;have H1:=QQ h1.drew;obtain⟨ct,hct⟩:∃ct,s.cm.a=ct:=⟨_,rfl⟩;rw[hct]at XY hN hc0 hc1;have zV:=QQ hct;have J2:=QQ hN;clear hI h h1 hct hN hd;go_enter Tryz.func249,Tryz.ntmps249
 go_upto_region 1 with fail
 generalize(w.alloc (.cells #[.pointer (some ⟨P,0,none⟩)] 300))=w1 at *
 go_cut [3,4] (fun u v wx=>u=.int .i64 (N:Int)/\v=.int .i64 (I.n:Int)/\w1.drew=wx)
 case first=>
  exact QjO
 obtain⟨rfl,rfl,rfl⟩:=hcut;clear XY hc0 hc1;replace e0:w1.drew.cell? ⟨w.heap.size,0,none⟩=some (.pointer (some ⟨P,0,none⟩)):=e0;replace c32:w1.drew.cell? ⟨P,32,none⟩=some (.int .i64 105):=c32;replace c0:w1.drew.cell? ⟨P,0,none⟩=some (.slice I.a I.n I.c):=c0;generalize w1.drew=w2 at *;clear w1;have Fp:=H1.out.Fp;have f65:=H1.out.free 65;go_wp2;go_ret;exact⟨rfl,⟨_,H1.out.VN 1⟩,HA1.out.trans (Z6.set _)⟩
theorem dH(P:Nat)(us:List Value)(I:In)(hI:YC I)(s:St)(w:World)(h:DI P w us I s)(hc0:0<=s.cm.a)(hc1:s.cm.a<=999)(hd:s.cm.d=82):
  Calls Tryz.prog 249 #[.pointer (some ⟨P,0,none⟩)] w (Xc P I (0) ({s with md:=2}) w):=by
 have HI:=QQ hI;have htop:=hI.top;have hk1:=hI.k1;have h1:=h.alloc (.cells #[.pointer (some ⟨P,0,none⟩)] 300);have VF:=h.lt;have e0:(w.alloc (.cells #[.pointer (some ⟨P,0,none⟩)] 300)).cell? ⟨w.heap.size,0,none⟩=some (.pointer (some ⟨P,0,none⟩)):=(QD.new w #[.pointer (some ⟨P,0,none⟩)] 300).cell 0;have HA1:=QQ (Z6.of (P:=P) (QC w (.cells #[.pointer (some ⟨P,0,none⟩)] 300))).drew;have hne:w.heap.size≠P:=by omega
 obtain⟨N,hN,hN1,N9⟩:∃N:Nat,max 1 s.cm.a=(N:Int)/\1<=N/\N<=999:=⟨(max 1 s.cm.a).toNat,by omega,by omega,by omega⟩;have HD:=QQ hd;have c0:=h1.c0;have XY:=h1.XY;have c32:=h1.c32;rw[hd]at c32;have H1:=QQ h1.drew;obtain⟨ct,hct⟩:∃ct,s.cm.a=ct:=⟨_,rfl⟩;rw[hct]at XY hN hc0 hc1;have zV:=QQ hct;have J2:=QQ hN;clear hI h h1 hct hN hd;go_enter Tryz.func249,Tryz.ntmps249
 go_upto_region 1 with fail
 generalize(w.alloc (.cells #[.pointer (some ⟨P,0,none⟩)] 300))=w1 at *
 go_cut [3,4] (fun u v wx=>u=.int .i64 (N:Int)/\v=.int .i64 (I.n:Int)/\w1.drew=wx)
 case first=>
  exact QjO
 obtain⟨rfl,rfl,rfl⟩:=hcut;clear XY hc0 hc1;replace e0:w1.drew.cell? ⟨w.heap.size,0,none⟩=some (.pointer (some ⟨P,0,none⟩)):=e0;replace c32:w1.drew.cell? ⟨P,32,none⟩=some (.int .i64 82):=c32;replace c0:w1.drew.cell? ⟨P,0,none⟩=some (.slice I.a I.n I.c):=c0;generalize w1.drew=w2 at *;clear w1;have Fp:=H1.out.Fp;have f65:=H1.out.free 65;go_wp2;go_ret;exact⟨rfl,⟨_,H1.out.VN 2⟩,HA1.out.trans (Z6.set _)⟩
theorem dN(P:Nat)(us:List Value)(I:In)(hI:YC I)(s:St)(w:World)(h:DI P w us I s)(hc0:0<=s.cm.a)(hc1:s.cm.a<=999)(hd:s.cm.d=65):
  Calls Tryz.prog 249 #[.pointer (some ⟨P,0,none⟩)] w (Xc P I (0) ({s with md:=1,p:=(I.n:Int)}) w):=by
 have HI:=QQ hI;have htop:=hI.top;have hk1:=hI.k1;have h1:=h.alloc (.cells #[.pointer (some ⟨P,0,none⟩)] 300);have VF:=h.lt;have e0:(w.alloc (.cells #[.pointer (some ⟨P,0,none⟩)] 300)).cell? ⟨w.heap.size,0,none⟩=some (.pointer (some ⟨P,0,none⟩)):=(QD.new w #[.pointer (some ⟨P,0,none⟩)] 300).cell 0;have HA1:=QQ (Z6.of (P:=P) (QC w (.cells #[.pointer (some ⟨P,0,none⟩)] 300))).drew;have hne:w.heap.size≠P:=by omega
 obtain⟨N,hN,hN1,N9⟩:∃N:Nat,max 1 s.cm.a=(N:Int)/\1<=N/\N<=999:=⟨(max 1 s.cm.a).toNat,by omega,by omega,by omega⟩;have HD:=QQ hd;have c0:=h1.c0;have XY:=h1.XY;have c32:=h1.c32;rw[hd]at c32;have H1:=QQ h1.drew;obtain⟨ct,hct⟩:∃ct,s.cm.a=ct:=⟨_,rfl⟩;rw[hct]at XY hN hc0 hc1;have zV:=QQ hct;have J2:=QQ hN;clear hI h h1 hct hN hd;go_enter Tryz.func249,Tryz.ntmps249
 go_upto_region 1 with fail
 generalize(w.alloc (.cells #[.pointer (some ⟨P,0,none⟩)] 300))=w1 at *
 go_cut [3,4] (fun u v wx=>u=.int .i64 (N:Int)/\v=.int .i64 (I.n:Int)/\w1.drew=wx)
 case first=>
  exact QjO
 obtain⟨rfl,rfl,rfl⟩:=hcut;clear XY hc0 hc1;replace e0:w1.drew.cell? ⟨w.heap.size,0,none⟩=some (.pointer (some ⟨P,0,none⟩)):=e0;replace c32:w1.drew.cell? ⟨P,32,none⟩=some (.int .i64 65):=c32;replace c0:w1.drew.cell? ⟨P,0,none⟩=some (.slice I.a I.n I.c):=c0;generalize w1.drew=w2 at *;clear w1;have Fp:=H1.out.Fp;have f65:=H1.out.free 65;have qW:=H1.out.qW;have f35:=H1.out.free 35;go_wp2;go_ret;exact⟨rfl,⟨_,(H1.out.VN 1).Jb (I.n:Int)⟩,HA1.out.trans ((Z6.set _).trans (Z6.set _))⟩
theorem RS(P:Nat)(us:List Value)(I:In)(hI:YC I)(s:St)(w:World)(h:DI P w us I s)(hc0:0<=s.cm.a)(hc1:s.cm.a<=999)(n112:s.cm.d≠112)(n80:s.cm.d≠80)(n126:s.cm.d≠126)(n114:s.cm.d≠114)(n105:s.cm.d≠105)(n73:s.cm.d≠73)(n97:s.cm.d≠97)(n65:s.cm.d≠65)(n82:s.cm.d≠82):
  Calls Tryz.prog 249 #[.pointer (some ⟨P,0,none⟩)] w (Xc P I (9) (s) w):=by
 have HI:=QQ hI;have htop:=hI.top;have hk1:=hI.k1;have h1:=h.alloc (.cells #[.pointer (some ⟨P,0,none⟩)] 300);have VF:=h.lt;have e0:(w.alloc (.cells #[.pointer (some ⟨P,0,none⟩)] 300)).cell? ⟨w.heap.size,0,none⟩=some (.pointer (some ⟨P,0,none⟩)):=(QD.new w #[.pointer (some ⟨P,0,none⟩)] 300).cell 0;have HA1:=QQ (Z6.of (P:=P) (QC w (.cells #[.pointer (some ⟨P,0,none⟩)] 300))).drew;have hne:w.heap.size≠P:=by omega
 obtain⟨N,hN,hN1,N9⟩:∃N:Nat,max 1 s.cm.a=(N:Int)/\1<=N/\N<=999:=⟨(max 1 s.cm.a).toNat,by omega,by omega,by omega⟩;have Qqr:(s.cm.d==112)=false:=by simpa using n112
 have m80:(s.cm.d==80)=false:=by simpa using n80
 have Qqo:(s.cm.d==126)=false:=by simpa using n126
 have Qqp:(s.cm.d==114)=false:=by simpa using n114
 have Qqs:(s.cm.d==105)=false:=by simpa using n105
 have m73:(s.cm.d==73)=false:=by simpa using n73
 have m97:(s.cm.d==97)=false:=by simpa using n97
 have m65:(s.cm.d==65)=false:=by simpa using n65
 have m82:(s.cm.d==82)=false:=by simpa using n82
 clear n112 n80 n126 n114 n105 n73 n97 n65 n82;have c0:=h1.c0;have XY:=h1.XY;have c32:=h1.c32;have H1:=QQ h1.drew;obtain⟨ct,hct⟩:∃ct,s.cm.a=ct:=⟨_,rfl⟩;rw[hct]at XY hN hc0 hc1;have zV:=QQ hct;have J2:=QQ hN;clear hI h h1 hct hN;go_enter Tryz.func249,Tryz.ntmps249
 go_upto_region 1 with fail
 generalize(w.alloc (.cells #[.pointer (some ⟨P,0,none⟩)] 300))=w1 at *
 go_cut [3,4] (fun u v wx=>u=.int .i64 (N:Int)/\v=.int .i64 (I.n:Int)/\w1.drew=wx)
 case first=>
  exact QjO
 obtain⟨rfl,rfl,rfl⟩:=hcut;clear XY hc0 hc1;replace e0:w1.drew.cell? ⟨w.heap.size,0,none⟩=some (.pointer (some ⟨P,0,none⟩)):=e0;replace c32:w1.drew.cell? ⟨P,32,none⟩=some (.int .i64 s.cm.d):=c32;replace c0:w1.drew.cell? ⟨P,0,none⟩=some (.slice I.a I.n I.c):=c0;generalize w1.drew=w2 at *;clear w1;exact QAk
theorem dG(P:Nat)(us:List Value)(I:In)(hI:YC I)(s:St)(w:World)(h:DI P w us I s)(hc0:0<=s.cm.a)(hc1:s.cm.a<=999)(hd:s.cm.d=97)(pv:Int)(hpv:min ((I.k:Int)+1) I.n=pv):
  Calls Tryz.prog 249 #[.pointer (some ⟨P,0,none⟩)] w (Xc P I (0) ({s with md:=1,p:=pv}) w):=by
 have HI:=QQ hI;have htop:=hI.top;have hk1:=hI.k1;have h1:=h.alloc (.cells #[.pointer (some ⟨P,0,none⟩)] 300);have VF:=h.lt;have e0:(w.alloc (.cells #[.pointer (some ⟨P,0,none⟩)] 300)).cell? ⟨w.heap.size,0,none⟩=some (.pointer (some ⟨P,0,none⟩)):=(QD.new w #[.pointer (some ⟨P,0,none⟩)] 300).cell 0;have HA1:=QQ (Z6.of (P:=P) (QC w (.cells #[.pointer (some ⟨P,0,none⟩)] 300))).drew;have hne:w.heap.size≠P:=by omega
 obtain⟨N,hN,hN1,N9⟩:∃N:Nat,max 1 s.cm.a=(N:Int)/\1<=N/\N<=999:=⟨(max 1 s.cm.a).toNat,by omega,by omega,by omega⟩;have HD:=QQ hd;have nX:=QQ hpv;clear hpv;have c0:=h1.c0;have XY:=h1.XY;have c32:=h1.c32;rw[hd]at c32;have H1:=QQ h1.drew;obtain⟨ct,hct⟩:∃ct,s.cm.a=ct:=⟨_,rfl⟩;rw[hct]at XY hN hc0 hc1;have zV:=QQ hct;have J2:=QQ hN;clear hI h h1 hct hN hd;go_enter Tryz.func249,Tryz.ntmps249
 go_upto_region 1 with fail
 generalize(w.alloc (.cells #[.pointer (some ⟨P,0,none⟩)] 300))=w1 at *
 go_cut [3,4] (fun u v wx=>u=.int .i64 (N:Int)/\v=.int .i64 (I.n:Int)/\w1.drew=wx)
 case first=>
  exact QjO
 obtain⟨rfl,rfl,rfl⟩:=hcut;clear XY hc0 hc1;replace e0:w1.drew.cell? ⟨w.heap.size,0,none⟩=some (.pointer (some ⟨P,0,none⟩)):=e0;replace c32:w1.drew.cell? ⟨P,32,none⟩=some (.int .i64 97):=c32;replace c0:w1.drew.cell? ⟨P,0,none⟩=some (.slice I.a I.n I.c):=c0;generalize w1.drew=w2 at *;clear w1;have Fp:=H1.out.Fp;have f65:=H1.out.free 65;have qW:=H1.out.qW;have f35:=H1.out.free 35;have c1:=H1.out.c1;have h3:I.k+1<I.n\/I.n<=I.k+1:=by omega
 rcases h3 with h3|h3
 all_goals
  go_upto_region 26 with fail
  go_region
  all_goals
   go_wp2
   all_goals
    go_ret
    first
     | (obtain rfl:pv=(I.k:Int)+1:=by have:=nX.out;omega);exact⟨rfl,⟨_,((H1.out.VN 1).drew).Jb _⟩,HA1.out.trans ((Z6.set _).drew.trans (Z6.set _))⟩
     | (obtain rfl:pv=(I.n:Int):=by have:=nX.out;omega);exact⟨rfl,⟨_,((H1.out.VN 1).drew).Jb _⟩,HA1.out.trans ((Z6.set _).drew.trans (Z6.set _))⟩
theorem dI(P:Nat)(us:List Value)(I:In)(hI:YC I)(s:St)(w:World)(h:DI P w us I s)(hc0:0<=s.cm.a)(hc1:s.cm.a<=999)(hd:s.cm.d=80):
  Calls Tryz.prog 249 #[.pointer (some ⟨P,0,none⟩)] w (Xc P I ((DC I s I.k).1) ((DC I s I.k).2) w):=by
 have HI:=QQ hI;have htop:=hI.top;have hk1:=hI.k1;have h1:=h.alloc (.cells #[.pointer (some ⟨P,0,none⟩)] 300);have VF:=h.lt;have e0:(w.alloc (.cells #[.pointer (some ⟨P,0,none⟩)] 300)).cell? ⟨w.heap.size,0,none⟩=some (.pointer (some ⟨P,0,none⟩)):=(QD.new w #[.pointer (some ⟨P,0,none⟩)] 300).cell 0;have HA1:=QQ (Z6.of (P:=P) (QC w (.cells #[.pointer (some ⟨P,0,none⟩)] 300))).drew;have hne:w.heap.size≠P:=by omega
 obtain⟨N,hN,hN1,N9⟩:∃N:Nat,max 1 s.cm.a=(N:Int)/\1<=N/\N<=999:=⟨(max 1 s.cm.a).toNat,by omega,by omega,by omega⟩;have HD:=QQ hd;have HB:=QQ (And.intro hc0 hc1);have c0:=h1.c0;have XY:=h1.XY;have c32:=h1.c32;rw[hd]at c32;have H1:=QQ h1.drew;obtain⟨ct,hct⟩:∃ct,s.cm.a=ct:=⟨_,rfl⟩;rw[hct]at XY hN hc0 hc1;have zV:=QQ hct;have J2:=QQ hN;clear hI h h1 hct hN hd;go_enter Tryz.func249,Tryz.ntmps249
 go_upto_region 1 with fail
 generalize(w.alloc (.cells #[.pointer (some ⟨P,0,none⟩)] 300))=w1 at *
 go_cut [3,4] (fun u v wx=>u=.int .i64 (N:Int)/\v=.int .i64 (I.n:Int)/\w1.drew=wx)
 case first=>
  exact QjO
 obtain⟨rfl,rfl,rfl⟩:=hcut;clear XY hc0 hc1;replace e0:w1.drew.cell? ⟨w.heap.size,0,none⟩=some (.pointer (some ⟨P,0,none⟩)):=e0;replace c32:w1.drew.cell? ⟨P,32,none⟩=some (.int .i64 80):=c32;replace c0:w1.drew.cell? ⟨P,0,none⟩=some (.slice I.a I.n I.c):=c0;generalize w1.drew=w2 at *;clear w1;have c1:=H1.out.c1;have CP:∀w3,DI P w3 us I s->Calls Tryz.prog 272 #[.pointer (some ⟨P,0,none⟩),.int .i64 (I.k:Int)] w3 (Xc P I (DC I s I.k).1 (DC I s I.k).2 w3):=fun w3 h3=>kT P I.k us I HI.out s w3 h3 (by omega) (HB.out).1 (HB.out).2
 have xz:=QQ CP;clear CP;go_upto_region 7 with fail
 go_region_law (first|(go_simp;go_at_call 272;refine(xz.out _ H1.out.drew).mono ?_;rintro e w3 ⟨rfl,zw,hA3⟩))
 all_goals
  go_simp;go_wp2;go_ret;exact⟨rfl,zw,HA1.out.drew.trans hA3⟩
theorem dB(P:Nat)(us:List Value)(I:In)(hI:YC I)(s:St)(w:World)(h:DI P w us I s)(hc0:0<=s.cm.a)(hc1:s.cm.a<=999)(hd:s.cm.d=112)(i:Nat)(hi:min (I.k+1) I.n=i):
  Calls Tryz.prog 249 #[.pointer (some ⟨P,0,none⟩)] w (Xc P I ((DC I s i).1) ((DC I s i).2) w):=by
 have HI:=QQ hI;have htop:=hI.top;have hk1:=hI.k1;have h1:=h.alloc (.cells #[.pointer (some ⟨P,0,none⟩)] 300);have VF:=h.lt;have e0:(w.alloc (.cells #[.pointer (some ⟨P,0,none⟩)] 300)).cell? ⟨w.heap.size,0,none⟩=some (.pointer (some ⟨P,0,none⟩)):=(QD.new w #[.pointer (some ⟨P,0,none⟩)] 300).cell 0;have HA1:=QQ (Z6.of (P:=P) (QC w (.cells #[.pointer (some ⟨P,0,none⟩)] 300))).drew;have hne:w.heap.size≠P:=by omega
 obtain⟨N,hN,hN1,N9⟩:∃N:Nat,max 1 s.cm.a=(N:Int)/\1<=N/\N<=999:=⟨(max 1 s.cm.a).toNat,by omega,by omega,by omega⟩;have HD:=QQ hd;have HB:=QQ (And.intro hc0 hc1);have HPI:=QQ hi;clear hi;have c0:=h1.c0;have XY:=h1.XY;have c32:=h1.c32;rw[hd]at c32;have H1:=QQ h1.drew;obtain⟨ct,hct⟩:∃ct,s.cm.a=ct:=⟨_,rfl⟩;rw[hct]at XY hN hc0 hc1;have zV:=QQ hct;have J2:=QQ hN;clear hI h h1 hct hN hd;go_enter Tryz.func249,Tryz.ntmps249
 go_upto_region 1 with fail
 generalize(w.alloc (.cells #[.pointer (some ⟨P,0,none⟩)] 300))=w1 at *
 go_cut [3,4] (fun u v wx=>u=.int .i64 (N:Int)/\v=.int .i64 (I.n:Int)/\w1.drew=wx)
 case first=>
  exact QjO
 obtain⟨rfl,rfl,rfl⟩:=hcut;clear XY hc0 hc1;replace e0:w1.drew.cell? ⟨w.heap.size,0,none⟩=some (.pointer (some ⟨P,0,none⟩)):=e0;replace c32:w1.drew.cell? ⟨P,32,none⟩=some (.int .i64 112):=c32;replace c0:w1.drew.cell? ⟨P,0,none⟩=some (.slice I.a I.n I.c):=c0;generalize w1.drew=w2 at *;clear w1;have c1:=H1.out.c1;have CP:∀(x:Int) w3,x=(i:Int)->DI P w3 us I s->Calls Tryz.prog 272 #[.pointer (some ⟨P,0,none⟩),.int .i64 x] w3 (Xc P I (DC I s i).1 (DC I s i).2 w3):=fun x w3 hx h3=>by
  subst hx;exact kT P i us I HI.out s w3 h3 (by have:=HPI.out;omega) (HB.out).1 (HB.out).2
 have xz:=QQ CP;clear CP;have iw:IntKind.i64.wrap ((I.k:Int)+1)=(I.k:Int)+1:=by rw[Ze];omega
 have h3:I.k+1<I.n\/I.n<=I.k+1:=by omega
 rcases h3 with h3|h3
 all_goals
  go_upto_region 5 with fail
  go_region_law (first|(go_simp;go_at_call 272;refine Calls.mono (xz.out _ _ (by have:=HPI.out;omega) H1.out.drew) ?_;rintro e w3 ⟨rfl,zw,hA3⟩))
  all_goals
   go_simp;go_wp2
   all_goals
    go_ret;exact⟨rfl,zw,HA1.out.drew.trans hA3⟩
theorem dL(P:Nat)(us:List Value)(I:In)(hI:YC I)(s:St)(w:World)(h:DI P w us I s)(hc0:0<=s.cm.a)(hc1:s.cm.a<=999)(hd:s.cm.d=73)(A:Int)(hA:Yo I.t=A):
  Calls Tryz.prog 249 #[.pointer (some ⟨P,0,none⟩)] w (Xc P I (0) ({s with md:=1,p:=A}) w):=by
 have HI:=QQ hI;have htop:=hI.top;have hk1:=hI.k1;have h1:=h.alloc (.cells #[.pointer (some ⟨P,0,none⟩)] 300);have VF:=h.lt;have e0:(w.alloc (.cells #[.pointer (some ⟨P,0,none⟩)] 300)).cell? ⟨w.heap.size,0,none⟩=some (.pointer (some ⟨P,0,none⟩)):=(QD.new w #[.pointer (some ⟨P,0,none⟩)] 300).cell 0;have HA1:=QQ (Z6.of (P:=P) (QC w (.cells #[.pointer (some ⟨P,0,none⟩)] 300))).drew;have hne:w.heap.size≠P:=by omega
 obtain⟨N,hN,hN1,N9⟩:∃N:Nat,max 1 s.cm.a=(N:Int)/\1<=N/\N<=999:=⟨(max 1 s.cm.a).toNat,by omega,by omega,by omega⟩;have HD:=QQ hd;have HAE:=QQ hA;clear hA;have c0:=h1.c0;have XY:=h1.XY;have c32:=h1.c32;rw[hd]at c32;have H1:=QQ h1.drew;obtain⟨ct,hct⟩:∃ct,s.cm.a=ct:=⟨_,rfl⟩;rw[hct]at XY hN hc0 hc1;have zV:=QQ hct;have J2:=QQ hN;clear hI h h1 hct hN hd;go_enter Tryz.func249,Tryz.ntmps249
 go_upto_region 1 with fail
 generalize(w.alloc (.cells #[.pointer (some ⟨P,0,none⟩)] 300))=w1 at *
 go_cut [3,4] (fun u v wx=>u=.int .i64 (N:Int)/\v=.int .i64 (I.n:Int)/\w1.drew=wx)
 case first=>
  exact QjO
 obtain⟨rfl,rfl,rfl⟩:=hcut;clear XY hc0 hc1;replace e0:w1.drew.cell? ⟨w.heap.size,0,none⟩=some (.pointer (some ⟨P,0,none⟩)):=e0;replace c32:w1.drew.cell? ⟨P,32,none⟩=some (.int .i64 73):=c32;replace c0:w1.drew.cell? ⟨P,0,none⟩=some (.slice I.a I.n I.c):=c0;generalize w1.drew=w2 at *;clear w1;have Fp:=H1.out.Fp;have f65:=H1.out.free 65;have h9:=(H1.out.VN 1).drew;have hgA:yO I.t I.k 94 0 0 false=A/\WW I.t I.k 94 0 0 false=0:=by
  have hl:=HI.out.len;have hE:YW I.t I.k 94 0=0:=by
   unfold YW;rw[if_neg (by omega),if_neg (by omega)];decide
  rw[yO,WW,if_pos hE,if_pos hE,<-HAE.out];exact⟨rfl,rfl⟩
 obtain⟨bb,hbb⟩:∃bb,Iu I.t I.k 94 0 0 false=bb:=⟨_,rfl⟩;have GO:=Ue I.a I.n I.c I.t I.k 94 0 0 false _ (h9.sl HI.out) HI.out.len (by omega) ⟨by omega,by omega⟩;rw[hgA.1,hgA.2,hbb]at GO;unfold G9 at GO;have HGO:=QQ GO;have e9:(w2.setCell ⟨P,65,none⟩ (.int .i64 1)).drew.cell? ⟨w.heap.size,0,none⟩=some (.pointer (some ⟨P,0,none⟩)):=((Z6.set (.int .i64 1)).cell hne e0);have d0:=h9.c0;have d1:=h9.c1;have hP9:P<(w2.setCell ⟨P,65,none⟩ (.int .i64 1)).heap.size:=h9.lt;have Kk:w.heap.size<(w2.setCell ⟨P,65,none⟩ (.int .i64 1)).heap.size:=Zv e9;have H9:=QQ h9;clear GO hgA hbb h9;go_upto_region 23 with fail
 go_region_held3 (fun w'=>w'.cell? ⟨P,0,none⟩=some (.slice I.a I.n I.c)/\w'.cell? ⟨P,1,none⟩=some (.int .i64 (I.k:Int))/\w'.cell? ⟨w.heap.size,0,none⟩=some (.pointer (some ⟨P,0,none⟩))) (first|exact⟨d0,d1,e9⟩|assumption|exact⟨d0',d1',e0'⟩|exact⟨g0,g1,g2⟩) (first|(go_at_call 270;refine(HGO.out).mono ?_;rintro e w3 ⟨rfl,hb3⟩;have h10:=H9.out.to hb3;have QYJ:=h10.qW;have QX5:=h10.free 35;have H10:=QQ h10;have d0':=h10.c0;have d1':=h10.c1;have e0':w3.cell? ⟨w.heap.size,0,none⟩=some (.pointer (some ⟨P,0,none⟩)):=(by rw[hb3.cell Kk];exact e9);have h12:=h10.Jb A;have g0:=h12.c0;have g1:=h12.c1;have g2:(w3.setCell ⟨P,35,none⟩ (.int .i64 A)).cell? ⟨w.heap.size,0,none⟩=some (.pointer (some ⟨P,0,none⟩)):=(Z6.set _).cell hne e0';clear h10 h12))
 all_goals
  go_wp2;go_ret;exact⟨rfl,⟨_,H10.out.Jb _⟩,((HA1.out.trans (Z6.set _).drew).trans (Z6.of hb3)).trans (Z6.set _)⟩
theorem RO(P:Nat)(us:List Value)(I:In)(hI:YC I)(s:St)(w:World)(h:DI P w us I s)(hc0:0<=s.cm.a)(hc1:s.cm.a<=999)(hd:s.cm.d=126)(hz:I.n=0):
  Calls Tryz.prog 249 #[.pointer (some ⟨P,0,none⟩)] w (Xc P I (5) (s) w):=by
 have HI:=QQ hI;have htop:=hI.top;have hk1:=hI.k1;have h1:=h.alloc (.cells #[.pointer (some ⟨P,0,none⟩)] 300);have VF:=h.lt;have e0:(w.alloc (.cells #[.pointer (some ⟨P,0,none⟩)] 300)).cell? ⟨w.heap.size,0,none⟩=some (.pointer (some ⟨P,0,none⟩)):=(QD.new w #[.pointer (some ⟨P,0,none⟩)] 300).cell 0;have HA1:=QQ (Z6.of (P:=P) (QC w (.cells #[.pointer (some ⟨P,0,none⟩)] 300))).drew;have hne:w.heap.size≠P:=by omega
 obtain⟨N,hN,hN1,N9⟩:∃N:Nat,max 1 s.cm.a=(N:Int)/\1<=N/\N<=999:=⟨(max 1 s.cm.a).toNat,by omega,by omega,by omega⟩;have HD:=QQ hd;have HZ:=QQ hz;clear hz;have c0:=h1.c0;have XY:=h1.XY;have c32:=h1.c32;rw[hd]at c32;have H1:=QQ h1.drew;obtain⟨ct,hct⟩:∃ct,s.cm.a=ct:=⟨_,rfl⟩;rw[hct]at XY hN hc0 hc1;have zV:=QQ hct;have J2:=QQ hN;clear hI h h1 hct hN hd;go_enter Tryz.func249,Tryz.ntmps249
 go_upto_region 1 with fail
 generalize(w.alloc (.cells #[.pointer (some ⟨P,0,none⟩)] 300))=w1 at *
 go_cut [3,4] (fun u v wx=>u=.int .i64 (N:Int)/\v=.int .i64 (I.n:Int)/\w1.drew=wx)
 case first=>
  exact QjO
 obtain⟨rfl,rfl,rfl⟩:=hcut;clear XY hc0 hc1;replace e0:w1.drew.cell? ⟨w.heap.size,0,none⟩=some (.pointer (some ⟨P,0,none⟩)):=e0;replace c32:w1.drew.cell? ⟨P,32,none⟩=some (.int .i64 126):=c32;replace c0:w1.drew.cell? ⟨P,0,none⟩=some (.slice I.a I.n I.c):=c0;generalize w1.drew=w2 at *;clear w1;have iz:((I.n:Int)==0)=true:=by rw[HZ.out];rfl
 exact QAk
theorem dx(P:Nat)(us:List Value)(I:In)(hI:YC I)(s:St)(w:World)(h:DI P w us I s)(hc0:0<=s.cm.a)(hc1:s.cm.a<=999)(hd:s.cm.d=126)(hz:I.n≠0)(m:Nat)(hm:min (max 1 s.cm.a).toNat (I.n-I.k)=m):
  Calls Tryz.prog 249 #[.pointer (some ⟨P,0,none⟩)] w (Xc P I (0) ({Te I s m VL with p:=DF ((I.k:Int)+(m:Int)) I.n}) w):=by
 have HI:=QQ hI;have htop:=hI.top;have hk1:=hI.k1;have h1:=h.alloc (.cells #[.pointer (some ⟨P,0,none⟩)] 300);have VF:=h.lt;have e0:(w.alloc (.cells #[.pointer (some ⟨P,0,none⟩)] 300)).cell? ⟨w.heap.size,0,none⟩=some (.pointer (some ⟨P,0,none⟩)):=(QD.new w #[.pointer (some ⟨P,0,none⟩)] 300).cell 0;have HA1:=QQ (Z6.of (P:=P) (QC w (.cells #[.pointer (some ⟨P,0,none⟩)] 300))).drew;have hne:w.heap.size≠P:=by omega
 obtain⟨N,hN,hN1,N9⟩:∃N:Nat,max 1 s.cm.a=(N:Int)/\1<=N/\N<=999:=⟨(max 1 s.cm.a).toNat,by omega,by omega,by omega⟩;have HD:=QQ hd;have HZ:=QQ hz;have HMM:=QQ hm;clear hz hm;have c0:=h1.c0;have XY:=h1.XY;have c32:=h1.c32;rw[hd]at c32;have H1:=QQ h1.drew;obtain⟨ct,hct⟩:∃ct,s.cm.a=ct:=⟨_,rfl⟩;rw[hct]at XY hN hc0 hc1;have zV:=QQ hct;have J2:=QQ hN;clear hI h h1 hct hN hd;go_enter Tryz.func249,Tryz.ntmps249
 go_upto_region 1 with fail
 generalize(w.alloc (.cells #[.pointer (some ⟨P,0,none⟩)] 300))=w1 at *
 go_cut [3,4] (fun u v wx=>u=.int .i64 (N:Int)/\v=.int .i64 (I.n:Int)/\w1.drew=wx)
 case first=>
  exact QjO
 obtain⟨rfl,rfl,rfl⟩:=hcut;clear XY hc0 hc1;replace e0:w1.drew.cell? ⟨w.heap.size,0,none⟩=some (.pointer (some ⟨P,0,none⟩)):=e0;replace c32:w1.drew.cell? ⟨P,32,none⟩=some (.int .i64 126):=c32;replace c0:w1.drew.cell? ⟨P,0,none⟩=some (.slice I.a I.n I.c):=c0;generalize w1.drew=w2 at *;clear w1;have c1:=H1.out.c1;have iz:((I.n:Int)==0)=false:=by have:=HZ.out;simpa using this
 have hk2:I.k<I.n:=by have:=HZ.out;omega
 have hm2:min N (I.n-I.k)=m:=by have:=HMM.out;rw[zV.out,J2.out,Qs]at this;exact this
 have CH:=vD P m us I HI.out s w2 H1.out (by omega);have HCH:=QQ CH;have HM2:=QQ hm2;have Sm:I.k+m<=I.n:=by omega
 clear CH hm2;go_upto_region 11 with fail
 go_cut [3] (fun u wx=>u=.int .i64 (m:Int)/\w2=wx)
 case first=>
  have h3:N<I.n-I.k\/I.n-I.k<=N:=by omega
  rcases h3 with h3|h3
  all_goals
   go_wp2
   all_goals
    go_meet;exact⟨by congr 1;have:=HM2.out;omega,rfl⟩
 obtain⟨rfl,rfl⟩:=hcut;clear c1;go_wp2_with (go_at_call 273;go_loud (refine(HCH.out).mono ?_;rintro e w3 ⟨rfl,⟨us3,h3⟩,hA3⟩))
 have e3:=hA3.cell hne e0;have c1':=h3.drew.c1;have QYJ:=h3.drew.qW;have QX5:=h3.drew.free 35;have H3:=QQ h3;clear h3 c0 e0 c32;go_upto_region 13 with fail
 have iw:IntKind.i64.wrap ((I.k:Int)+(m:Int))=(I.k:Int)+m:=by rw[Ze];omega
 have h12:=H3.out.drew.Jb (DF ((I.k:Int)+(m:Int)) I.n);have g1:=h12.c1;have g2:(w3.drew.setCell ⟨P,35,none⟩ (.int .i64 (DF ((I.k:Int)+(m:Int)) I.n))).cell? ⟨w.heap.size,0,none⟩=some (.pointer (some ⟨P,0,none⟩)):=(Z6.set _).cell hne e3;clear h12
 go_region_held3 (fun w'=>w'.cell? ⟨P,1,none⟩=some (.int .i64 (I.k:Int))/\w'.cell? ⟨w.heap.size,0,none⟩=some (.pointer (some ⟨P,0,none⟩))) (first|exact⟨c1',e3⟩|assumption|exact⟨g1,g2⟩) (first|(go_at_call 275;refine(VX _ _ _ (by omega) (by omega) (by omega) (by omega)).mono ?_;rintro e w4 ⟨rfl,rfl⟩))
 all_goals
  exact QAz
theorem RP(P:Nat)(us:List Value)(I:In)(hI:YC I)(s:St)(w:World)(h:DI P w us I s)(hc0:0<=s.cm.a)(hc1:s.cm.a<=999)(hd:s.cm.d=114)(hz:(I.n:Int)<I.k+max 1 s.cm.a):
  Calls Tryz.prog 249 #[.pointer (some ⟨P,0,none⟩)] w (Xc P I (5) (s) w):=by
 have HI:=QQ hI;have htop:=hI.top;have hk1:=hI.k1;have h1:=h.alloc (.cells #[.pointer (some ⟨P,0,none⟩)] 300);have VF:=h.lt;have e0:(w.alloc (.cells #[.pointer (some ⟨P,0,none⟩)] 300)).cell? ⟨w.heap.size,0,none⟩=some (.pointer (some ⟨P,0,none⟩)):=(QD.new w #[.pointer (some ⟨P,0,none⟩)] 300).cell 0;have HA1:=QQ (Z6.of (P:=P) (QC w (.cells #[.pointer (some ⟨P,0,none⟩)] 300))).drew;have hne:w.heap.size≠P:=by omega
 obtain⟨N,hN,hN1,N9⟩:∃N:Nat,max 1 s.cm.a=(N:Int)/\1<=N/\N<=999:=⟨(max 1 s.cm.a).toNat,by omega,by omega,by omega⟩;have HD:=QQ hd;have HZ:=QQ hz;clear hz;have c0:=h1.c0;have XY:=h1.XY;have c32:=h1.c32;rw[hd]at c32;have H1:=QQ h1.drew;obtain⟨ct,hct⟩:∃ct,s.cm.a=ct:=⟨_,rfl⟩;rw[hct]at XY hN hc0 hc1;have zV:=QQ hct;have J2:=QQ hN;clear hI h h1 hct hN hd;go_enter Tryz.func249,Tryz.ntmps249
 go_upto_region 1 with fail
 generalize(w.alloc (.cells #[.pointer (some ⟨P,0,none⟩)] 300))=w1 at *
 go_cut [3,4] (fun u v wx=>u=.int .i64 (N:Int)/\v=.int .i64 (I.n:Int)/\w1.drew=wx)
 case first=>
  exact QjO
 obtain⟨rfl,rfl,rfl⟩:=hcut;clear XY hc0 hc1;replace e0:w1.drew.cell? ⟨w.heap.size,0,none⟩=some (.pointer (some ⟨P,0,none⟩)):=e0;replace c32:w1.drew.cell? ⟨P,32,none⟩=some (.int .i64 114):=c32;replace c0:w1.drew.cell? ⟨P,0,none⟩=some (.slice I.a I.n I.c):=c0;generalize w1.drew=w2 at *;clear w1;have c1:=H1.out.c1;have hz:(I.n:Int)<I.k+(N:Int):=by have:=HZ.out;rw[zV.out,J2.out]at this;exact this
 exact QAk
theorem dA(P:Nat)(us:List Value)(I:In)(hI:YC I)(s:St)(w:World)(h:DI P w us I s)(hc0:0<=s.cm.a)(hc1:s.cm.a<=999)(hd:s.cm.d=114)(m:Nat)(hm:max 1 s.cm.a=(m:Int))(hz:I.k+m<=I.n):
  Calls Tryz.prog 249 #[.pointer (some ⟨P,0,none⟩)] w (Xc P I (0) ({Te I s m (fun _=>s.cm.e)with p:=(I.k:Int)+(m:Int)-1}) w):=by
 have HI:=QQ hI;have htop:=hI.top;have hk1:=hI.k1;have h1:=h.alloc (.cells #[.pointer (some ⟨P,0,none⟩)] 300);have VF:=h.lt;have e0:(w.alloc (.cells #[.pointer (some ⟨P,0,none⟩)] 300)).cell? ⟨w.heap.size,0,none⟩=some (.pointer (some ⟨P,0,none⟩)):=(QD.new w #[.pointer (some ⟨P,0,none⟩)] 300).cell 0;have HA1:=QQ (Z6.of (P:=P) (QC w (.cells #[.pointer (some ⟨P,0,none⟩)] 300))).drew;have hne:w.heap.size≠P:=by omega
 obtain⟨N,hN,hN1,N9⟩:∃N:Nat,max 1 s.cm.a=(N:Int)/\1<=N/\N<=999:=⟨(max 1 s.cm.a).toNat,by omega,by omega,by omega⟩;have HD:=QQ hd;have HMM:=QQ hm;clear hm;have c0:=h1.c0;have XY:=h1.XY;have c32:=h1.c32;rw[hd]at c32;have H1:=QQ h1.drew;obtain⟨ct,hct⟩:∃ct,s.cm.a=ct:=⟨_,rfl⟩;rw[hct]at XY hN hc0 hc1;have zV:=QQ hct;have J2:=QQ hN;clear hI h h1 hct hN hd;go_enter Tryz.func249,Tryz.ntmps249
 go_upto_region 1 with fail
 generalize(w.alloc (.cells #[.pointer (some ⟨P,0,none⟩)] 300))=w1 at *
 go_cut [3,4] (fun u v wx=>u=.int .i64 (N:Int)/\v=.int .i64 (I.n:Int)/\w1.drew=wx)
 case first=>
  exact QjO
 obtain⟨rfl,rfl,rfl⟩:=hcut;clear XY hc0 hc1;replace e0:w1.drew.cell? ⟨w.heap.size,0,none⟩=some (.pointer (some ⟨P,0,none⟩)):=e0;replace c32:w1.drew.cell? ⟨P,32,none⟩=some (.int .i64 114):=c32;replace c0:w1.drew.cell? ⟨P,0,none⟩=some (.slice I.a I.n I.c):=c0;generalize w1.drew=w2 at *;clear w1;have c1:=H1.out.c1;obtain rfl:N=m:=by have:=HMM.out;rw[zV.out,J2.out]at this;exact Int.ofNat.inj this
 have CH:=FV P N w.heap.size us I HI.out s w2 H1.out hz e0;have HCH:=QQ CH;clear CH;go_wp2_with (go_at_call 273;go_loud (refine(HCH.out).mono ?_;rintro e w3 ⟨rfl,⟨us3,h3⟩,hA3⟩))
 have e3:=hA3.cell hne e0;have c1':=h3.drew.c1;have QYJ:=h3.drew.qW;have QX5:=h3.drew.free 35;have H3:=QQ h3;clear h3 c1 c0 e0 c32;go_upto_region 18 with fail
 go_region
 all_goals
  exact QAz
theorem IM(P:Nat)(us:List Value)(I:In)(hI:YC I)(s:St)(w:World)(h:DI P w us I s)(hc0:0<=s.cm.a)(hc1:s.cm.a<=999):
  Calls Tryz.prog 249 #[.pointer (some ⟨P,0,none⟩)] w (Xc P I (Be I s).1 (Be I s).2 w):=by
 have hk1:=hI.k1;by_cases h1:s.cm.d=112
 ·rw[Be,if_pos h1];exact dB P us I hI s w h hc0 hc1 h1 _ rfl
 by_cases h2:s.cm.d=80
 ·rw[Be,if_neg h1,if_pos h2];exact dI P us I hI s w h hc0 hc1 h2
 by_cases h3:s.cm.d=126
 ·rw[Be,if_neg h1,if_neg h2,if_pos h3]
  by_cases hz:I.n=0
  ·rw[if_pos hz];exact RO P us I hI s w h hc0 hc1 h3 hz
  ·rw[if_neg hz]
   have:=dx P us I hI s w h hc0 hc1 h3 hz _ rfl;rw[show DF ((I.k:Int)+((min (max 1 s.cm.a).toNat (I.n-I.k):Nat):Int)) I.n=min ((I.k:Int)+max 1 s.cm.a) (I.n-1) by unfold DF;omega]at this;exact this
 by_cases h4:s.cm.d=114
 ·rw[Be,if_neg h1,if_neg h2,if_neg h3,if_pos h4]
  by_cases hz:(I.n:Int)<I.k+max 1 s.cm.a
  ·rw[if_pos hz];exact RP P us I hI s w h hc0 hc1 h4 hz
  ·rw[if_neg hz]
   have hm:max 1 s.cm.a=((max 1 s.cm.a).toNat:Int):=by omega
   have:=dA P us I hI s w h hc0 hc1 h4 (max 1 s.cm.a).toNat hm (by omega);rw[<-hm]at this;exact this
 by_cases h5:s.cm.d=105
 ·rw[Be,if_neg h1,if_neg h2,if_neg h3,if_neg h4,if_pos h5];exact dD P us I hI s w h hc0 hc1 h5
 by_cases h6:s.cm.d=73
 ·rw[Be,if_neg h1,if_neg h2,if_neg h3,if_neg h4,if_neg h5,if_pos h6];exact dL P us I hI s w h hc0 hc1 h6 _ rfl
 by_cases h7:s.cm.d=97
 ·rw[Be,if_neg h1,if_neg h2,if_neg h3,if_neg h4,if_neg h5,if_neg h6,if_pos h7];exact dG P us I hI s w h hc0 hc1 h7 _ rfl
 by_cases h8:s.cm.d=65
 ·rw[Be,if_neg h1,if_neg h2,if_neg h3,if_neg h4,if_neg h5,if_neg h6,if_neg h7,if_pos h8];exact dN P us I hI s w h hc0 hc1 h8
 by_cases h9:s.cm.d=82
 ·rw[Be,if_neg h1,if_neg h2,if_neg h3,if_neg h4,if_neg h5,if_neg h6,if_neg h7,if_neg h8,if_pos h9];exact dH P us I hI s w h hc0 hc1 h9
 rw[Be,if_neg h1,if_neg h2,if_neg h3,if_neg h4,if_neg h5,if_neg h6,if_neg h7,if_neg h8,if_neg h9];exact RS P us I hI s w h hc0 hc1 h1 h2 h3 h4 h5 h6 h7 h8 h9
end Go.Proofs.YtmdcencmiopmmaaGreat
