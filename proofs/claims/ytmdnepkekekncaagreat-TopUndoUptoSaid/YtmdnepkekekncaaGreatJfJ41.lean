/- joined, no condition of its own. -/
import Derived.Test.YtmdnepkekekncaaGreatJfJ40
set_option linter.unusedVariables false
set_option linter.unusedSimpArgs false
set_option maxRecDepth 100000
set_option maxHeartbeats 12000000
namespace Go.Proofs.YtmdnepkekekncaaGreat
open Go.RowKit
theorem Rj{f r o s key:Int}(h:Jw f r o s key=1):48<=key/\key<=57:=by
 by_cases hd:Ml (if o≠0 then s else f) key=true
 ·simp only[Ml,Xe]at hd
  omega
 ·exfalso
  unfold Jw at h;rw[if_neg hd]at h;split at h
  ·omega
  ·split at h
   ·omega
   ·split at h
    ·omega
    ·split at h
     ·split at h<;>omega
     ·split at h
      ·omega
      ·split at h
       ·split at h<;>omega
       ·split at h
        ·omega
        ·split at h<;>omega
def YH(key:Int):Prop:=¬(key<32\/key=127)
theorem Um{f r o s key:Int}(h:YH key):YV f r o s 0 key=
  if Jw f r o s key=1 then(if o≠0 then TK.more f r o (Ue s key) 0 else TK.more (Ue f key) r o s 0)
  else if Jw f r o s key=2\/Jw f r o s key=4\/Jw f r o s key=7\/Jw f r o s key=8 then TK.more f r o s key
  else if Jw f r o s key=3 then(if o=0 then TK.more f r key s 0 else if o≠key then TK.wrong else TK.done f r o s key 0)
  else if Jw f r o s key=5\/Jw f r o s key=6 then TK.done f r o s key 0
  else TK.wrong:=by
 unfold YV;rw[if_neg h,if_neg QJ]
theorem rU{f r o s wt key:Int}(h:key<32\/key=127):YV f r o s wt key=TK.wrong:=by unfold YV;rw[if_pos h]
theorem rV{f r o s wt key:Int}(h:YH key)(h2:wt≠0):YV f r o s wt key=VW f r o s wt key:=by unfold YV;rw[if_neg h,if_pos h2]
theorem Ul.NL{W wx:World}{B:Nat}{f r o s wt f' r' o' s' pK:Int}(h:Ul W wx B f r o s wt)(i:Nat)(v:Value)
  (e:(#[.int .i64 f,.int .i64 r,.int .i64 o,.int .i64 s,.int .i64 wt]:Array Value).setIfInBounds i v=#[.int .i64 f',.int .i64 r',.int .i64 o',.int .i64 s',.int .i64 pK]):Ul W (wx.setCell ⟨B,i,none⟩ v) B f' r' o' s' pK:=
 ⟨by have:=h.p.set i v;rwa[e]at this,h.q.other QJ _,h.c.other QJ _,h.Xw.setCell (p:=⟨B,i,none⟩) (ZB _) _⟩
theorem Fw(f r o s wt key:Int)(w:World)(hp:Yl f r o s wt=0)(hlo:key<32\/key=127):
  Calls Tryz.prog 62 #[.agg #[.int .i64 f,.int .i64 r,.int .i64 o,.int .i64 s,.int .i64 wt],.int .i64 key] w (XF (YV f r o s wt key) 0 w):=by
 have hX:=Ul.start w f r o s wt;obtain⟨b1,b2,b3,b4,b5⟩:=Jb hp;have HP:=Zy hp;clear hp;rw[rU hlo];rcases hlo with hlo|rfl
 ·go_enter Tryz.func62,Tryz.ntmps62
  exact QGR
 ·go_enter Tryz.func62,Tryz.ntmps62
  exact QGR
theorem GV(f r o s wt key:Int)(w:World)(hp:Yl f r o s wt=0)(hu:YH key)(hw:wt≠0):
  Calls Tryz.prog 62 #[.agg #[.int .i64 f,.int .i64 r,.int .i64 o,.int .i64 s,.int .i64 wt],.int .i64 key] w (XF (YV f r o s wt key) 0 w):=by
 have hX:=Ul.start w f r o s wt;obtain⟨b1,b2,b3,b4,b5⟩:=Jb hp;have HP:=Zy hp;clear hp;rw[rV hu hw];have u1:32<=key:=Qe;have u2:(key==127)=false:=QO;clear hu;have u3:(wt !=0)=true:=by simpa using hw
 clear hw;obtain⟨tk,htk⟩:∃tk,VW f r o s wt key=tk:=⟨_,rfl⟩;have HT:=Zy htk;rw[htk];clear htk;go_enter Tryz.func62,Tryz.ntmps62
 go_wp2_with (first|(go_at_call 85;refine(YG _ _ _ _ _ _).mono ?_;rintro e w9 ⟨rfl,hb⟩;rw[HP.out];have hX1:=hX.below hb;obtain⟨c0,c1,c2,c3,c4⟩:=hX1.p.five;obtain⟨g0,g1,g2,g3,g4⟩:=hX1.p.Z7;obtain⟨k0,k1,k2,k3,k4⟩:=hX1.q.five;obtain⟨l0,l1,l2,l3,l4⟩:=hX1.q.Z7;obtain⟨m0,m1,m2,m3,m4⟩:=hX1.c.five;obtain⟨n0,n1,n2,n3,n4⟩:=hX1.c.Z7)|(go_at_call 86;refine(Gq _ _ _ _ _ _ _ b1 b2 b3 b4).mono ?_;rw[HT.out];rintro e w7 ⟨rfl,hb3⟩;simp only[TK.q,TK.c];have xf:=hX1.below hb3;obtain⟨c0,c1,c2,c3,c4⟩:=xf.p.five;obtain⟨g0,g1,g2,g3,g4⟩:=xf.p.Z7;obtain⟨k0,k1,k2,k3,k4⟩:=xf.q.five;obtain⟨l0,l1,l2,l3,l4⟩:=xf.q.Z7;obtain⟨m0,m1,m2,m3,m4⟩:=xf.c.five;obtain⟨n0,n1,n2,n3,n4⟩:=xf.c.Z7))
 obtain⟨hq,hc,hbel⟩:=xf.done (.int .i64 (tk.q0)) (.int .i64 (tk.q1)) (.int .i64 (tk.q2)) (.int .i64 (tk.q3)) (.int .i64 (tk.q4)) (.int .i64 (tk.c0)) (.int .i64 (tk.c1)) (.int .i64 (tk.c2)) (.int .i64 (tk.c3)) (.int .i64 (tk.c4)) rfl;obtain⟨y0,y1,y2,y3,y4⟩:=hq.five;obtain⟨z0,z1,z2,z3,z4⟩:=hc.five;exact ZC (v:=.tuple #[(tk).q,(tk).c,.int .i64 tk.how,.int .i64 0]) (by simp[results,Tryz.results62,go_sem,TK.q,TK.q,TK.c,y0,y1,y2,y3,y4,z0,z1,z2,z3,z4]) rfl (XF.of hbel)
theorem GK(f r o s key:Int)(w:World)(hp:Yl f r o s 0=0)(hu:YH key)(hk:Jw f r o s key=2):
  Calls Tryz.prog 62 #[.agg #[.int .i64 f,.int .i64 r,.int .i64 o,.int .i64 s,.int .i64 0],.int .i64 key] w (XF (YV f r o s 0 key) 0 w):=by
 exact QFr
theorem GJ(f r o s key:Int)(w:World)(hp:Yl f r o s 0=0)(hu:YH key)(hk:Jw f r o s key=4):
  Calls Tryz.prog 62 #[.agg #[.int .i64 f,.int .i64 r,.int .i64 o,.int .i64 s,.int .i64 0],.int .i64 key] w (XF (YV f r o s 0 key) 0 w):=by
 exact QFr
theorem GZ(f r o s key:Int)(w:World)(hp:Yl f r o s 0=0)(hu:YH key)(hk:Jw f r o s key=7):
  Calls Tryz.prog 62 #[.agg #[.int .i64 f,.int .i64 r,.int .i64 o,.int .i64 s,.int .i64 0],.int .i64 key] w (XF (YV f r o s 0 key) 0 w):=by
 exact QFr
theorem GQ(f r o s key:Int)(w:World)(hp:Yl f r o s 0=0)(hu:YH key)(hk:Jw f r o s key=8):
  Calls Tryz.prog 62 #[.agg #[.int .i64 f,.int .i64 r,.int .i64 o,.int .i64 s,.int .i64 0],.int .i64 key] w (XF (YV f r o s 0 key) 0 w):=by
 exact QFr
theorem GY(f r o s key:Int)(w:World)(hp:Yl f r o s 0=0)(hu:YH key)(hk:Jw f r o s key=5):
  Calls Tryz.prog 62 #[.agg #[.int .i64 f,.int .i64 r,.int .i64 o,.int .i64 s,.int .i64 0],.int .i64 key] w (XF (YV f r o s 0 key) 0 w):=by
 exact QL3
theorem GX(f r o s key:Int)(w:World)(hp:Yl f r o s 0=0)(hu:YH key)(hk:Jw f r o s key=6):
  Calls Tryz.prog 62 #[.agg #[.int .i64 f,.int .i64 r,.int .i64 o,.int .i64 s,.int .i64 0],.int .i64 key] w (XF (YV f r o s 0 key) 0 w):=by
 exact QL3
theorem GU(f r o s key:Int)(w:World)(hp:Yl f r o s 0=0)(hu:YH key)(hk:Jw f r o s key=0):
  Calls Tryz.prog 62 #[.agg #[.int .i64 f,.int .i64 r,.int .i64 o,.int .i64 s,.int .i64 0],.int .i64 key] w (XF (YV f r o s 0 key) 0 w):=by
 have hX:=Ul.start w f r o s 0;obtain⟨b1,b2,b3,b4,b5⟩:=Jb hp;have HP:=Zy hp;clear hp;rw[Um hu,hk,if_neg QQ,if_neg QQ,if_neg QQ,if_neg QQ];have u1:32<=key:=Qe;have u2:(key==127)=false:=QO;clear hu;have HK:=Zy hk;clear hk;exact QGG
theorem DU(f r o s key:Int)(w:World)(hp:Yl f r o s 0=0)(hu:YH key)(hk:Jw f r o s key=1)(ho:o≠0):
  Calls Tryz.prog 62 #[.agg #[.int .i64 f,.int .i64 r,.int .i64 o,.int .i64 s,.int .i64 0],.int .i64 key] w (XF (YV f r o s 0 key) 0 w):=by
 have hX:=Ul.start w f r o s 0;obtain⟨b1,b2,b3,b4,b5⟩:=Jb hp;have HP:=Zy hp;clear hp;rw[Um hu,hk,if_pos rfl,if_pos ho];have u1:32<=key:=Qe;have u2:(key==127)=false:=QO;clear hu;have HK:=Zy hk;clear hk;have ho2:(o !=0)=true:=QEY;clear ho;obtain⟨d1,d2⟩:=Rj HK.out;go_enter Tryz.func62,Tryz.ntmps62
 go_wp2_with (first|(go_at_call 85;refine(YG _ _ _ _ _ _).mono ?_;rintro e w9 ⟨rfl,hb⟩;rw[HP.out];have hX1:=hX.below hb;obtain⟨c0,c1,c2,c3,c4⟩:=hX1.p.five;obtain⟨g0,g1,g2,g3,g4⟩:=hX1.p.Z7;obtain⟨k0,k1,k2,k3,k4⟩:=hX1.q.five;obtain⟨l0,l1,l2,l3,l4⟩:=hX1.q.Z7;obtain⟨m0,m1,m2,m3,m4⟩:=hX1.c.five;obtain⟨n0,n1,n2,n3,n4⟩:=hX1.c.Z7)|(go_at_call 87;refine(Ye _ _ _ _ _ _ _).mono ?_;rintro e w8 ⟨rfl,hb2⟩;rw[HK.out];have hX2:=hX1.below hb2;obtain⟨c0,c1,c2,c3,c4⟩:=hX2.p.five;obtain⟨g0,g1,g2,g3,g4⟩:=hX2.p.Z7;obtain⟨k0,k1,k2,k3,k4⟩:=hX2.q.five;obtain⟨l0,l1,l2,l3,l4⟩:=hX2.q.Z7;obtain⟨m0,m1,m2,m3,m4⟩:=hX2.c.five;obtain⟨n0,n1,n2,n3,n4⟩:=hX2.c.Z7)|(go_at_call 88;refine(y9 _ _ _ b3 b4 d1 d2).mono ?_;rintro e w7 ⟨rfl,rfl⟩))
 obtain⟨hq,hc,hbel⟩:=(hX2.NL (f':=f) (r':=r) (o':=o) (s':=Ue s key) (pK:=0) 3 (.int .i64 (Ue s key)) rfl).done (.int .i64 (f)) (.int .i64 (r)) (.int .i64 (o)) (.int .i64 (Ue s key)) (.int .i64 (0)) (.int .i64 (0)) (.int .i64 (0)) (.int .i64 (0)) (.int .i64 (0)) (.int .i64 (0)) rfl;obtain⟨y0,y1,y2,y3,y4⟩:=hq.five;obtain⟨z0,z1,z2,z3,z4⟩:=hc.five;exact ZC (v:=.tuple #[(TK.more f r o (Ue s key) 0).q,(TK.more f r o (Ue s key) 0).c,.int .i64 1,.int .i64 0]) Qk rfl (XF.of hbel)
theorem DK(f r o s key:Int)(w:World)(hp:Yl f r o s 0=0)(hu:YH key)(hk:Jw f r o s key=1)(ho:¬o≠0):
  Calls Tryz.prog 62 #[.agg #[.int .i64 f,.int .i64 r,.int .i64 o,.int .i64 s,.int .i64 0],.int .i64 key] w (XF (YV f r o s 0 key) 0 w):=by
 have hX:=Ul.start w f r o s 0;obtain⟨b1,b2,b3,b4,b5⟩:=Jb hp;have HP:=Zy hp;clear hp;rw[Um hu,hk,if_pos rfl,if_neg ho];have u1:32<=key:=Qe;have u2:(key==127)=false:=QO;clear hu;have HK:=Zy hk;clear hk;have ho2:(o !=0)=false:=QEY;clear ho;obtain⟨d1,d2⟩:=Rj HK.out;go_enter Tryz.func62,Tryz.ntmps62
 go_wp2_with (first|(go_at_call 85;refine(YG _ _ _ _ _ _).mono ?_;rintro e w9 ⟨rfl,hb⟩;rw[HP.out];have hX1:=hX.below hb;obtain⟨c0,c1,c2,c3,c4⟩:=hX1.p.five;obtain⟨g0,g1,g2,g3,g4⟩:=hX1.p.Z7;obtain⟨k0,k1,k2,k3,k4⟩:=hX1.q.five;obtain⟨l0,l1,l2,l3,l4⟩:=hX1.q.Z7;obtain⟨m0,m1,m2,m3,m4⟩:=hX1.c.five;obtain⟨n0,n1,n2,n3,n4⟩:=hX1.c.Z7)|(go_at_call 87;refine(Ye _ _ _ _ _ _ _).mono ?_;rintro e w8 ⟨rfl,hb2⟩;rw[HK.out];have hX2:=hX1.below hb2;obtain⟨c0,c1,c2,c3,c4⟩:=hX2.p.five;obtain⟨g0,g1,g2,g3,g4⟩:=hX2.p.Z7;obtain⟨k0,k1,k2,k3,k4⟩:=hX2.q.five;obtain⟨l0,l1,l2,l3,l4⟩:=hX2.q.Z7;obtain⟨m0,m1,m2,m3,m4⟩:=hX2.c.five;obtain⟨n0,n1,n2,n3,n4⟩:=hX2.c.Z7)|(go_at_call 88;refine(y9 _ _ _ b1 b2 d1 d2).mono ?_;rintro e w7 ⟨rfl,rfl⟩))
 obtain⟨hq,hc,hbel⟩:=(hX2.NL (f':=Ue f key) (r':=r) (o':=o) (s':=s) (pK:=0) 0 (.int .i64 (Ue f key)) rfl).done (.int .i64 (Ue f key)) (.int .i64 (r)) (.int .i64 (o)) (.int .i64 (s)) (.int .i64 (0)) (.int .i64 (0)) (.int .i64 (0)) (.int .i64 (0)) (.int .i64 (0)) (.int .i64 (0)) rfl;obtain⟨y0,y1,y2,y3,y4⟩:=hq.five;obtain⟨z0,z1,z2,z3,z4⟩:=hc.five;exact ZC (v:=.tuple #[(TK.more (Ue f key) r o s 0).q,(TK.more (Ue f key) r o s 0).c,.int .i64 1,.int .i64 0]) Qk rfl (XF.of hbel)
theorem DX(f r o s key:Int)(w:World)(hp:Yl f r o s 0=0)(hu:YH key)(hk:Jw f r o s key=3)(ho:o=0):
  Calls Tryz.prog 62 #[.agg #[.int .i64 f,.int .i64 r,.int .i64 o,.int .i64 s,.int .i64 0],.int .i64 key] w (XF (YV f r o s 0 key) 0 w):=by
 have hX:=Ul.start w f r o s 0;obtain⟨b1,b2,b3,b4,b5⟩:=Jb hp;have HP:=Zy hp;clear hp;rw[Um hu,hk,if_neg QQ,if_neg QQ,if_pos rfl,if_pos ho];have u1:32<=key:=Qe;have u2:(key==127)=false:=QO;clear hu;have HK:=Zy hk;clear hk;have ho2:(o==0)=true:=QEY;clear ho b5;go_enter Tryz.func62,Tryz.ntmps62
 go_wp2_with (first|(go_at_call 85;refine(YG _ _ _ _ _ _).mono ?_;rintro e w9 ⟨rfl,hb⟩;rw[HP.out];have hX1:=hX.below hb;obtain⟨c0,c1,c2,c3,c4⟩:=hX1.p.five;obtain⟨g0,g1,g2,g3,g4⟩:=hX1.p.Z7;obtain⟨k0,k1,k2,k3,k4⟩:=hX1.q.five;obtain⟨l0,l1,l2,l3,l4⟩:=hX1.q.Z7;obtain⟨m0,m1,m2,m3,m4⟩:=hX1.c.five;obtain⟨n0,n1,n2,n3,n4⟩:=hX1.c.Z7)|(go_at_call 87;refine(Ye _ _ _ _ _ _ _).mono ?_;rintro e w8 ⟨rfl,hb2⟩;rw[HK.out];have hX2:=hX1.below hb2;obtain⟨c0,c1,c2,c3,c4⟩:=hX2.p.five;obtain⟨g0,g1,g2,g3,g4⟩:=hX2.p.Z7;obtain⟨k0,k1,k2,k3,k4⟩:=hX2.q.five;obtain⟨l0,l1,l2,l3,l4⟩:=hX2.q.Z7;obtain⟨m0,m1,m2,m3,m4⟩:=hX2.c.five;obtain⟨n0,n1,n2,n3,n4⟩:=hX2.c.Z7))
 obtain⟨hq,hc,hbel⟩:=(hX2.NL (f':=f) (r':=r) (o':=key) (s':=s) (pK:=0) 2 (.int .i64 key) rfl).done (.int .i64 (f)) (.int .i64 (r)) (.int .i64 (key)) (.int .i64 (s)) (.int .i64 (0)) (.int .i64 (0)) (.int .i64 (0)) (.int .i64 (0)) (.int .i64 (0)) (.int .i64 (0)) rfl;obtain⟨y0,y1,y2,y3,y4⟩:=hq.five;obtain⟨z0,z1,z2,z3,z4⟩:=hc.five;exact ZC (v:=.tuple #[(TK.more f r key s 0).q,(TK.more f r key s 0).c,.int .i64 1,.int .i64 0]) Qk rfl (XF.of hbel)
theorem DJ(f r o s key:Int)(w:World)(hp:Yl f r o s 0=0)(hu:YH key)(hk:Jw f r o s key=3)(ho:¬o=0)(hn:o≠key):
  Calls Tryz.prog 62 #[.agg #[.int .i64 f,.int .i64 r,.int .i64 o,.int .i64 s,.int .i64 0],.int .i64 key] w (XF (YV f r o s 0 key) 0 w):=by
 have hX:=Ul.start w f r o s 0;obtain⟨b1,b2,b3,b4,b5⟩:=Jb hp;have HP:=Zy hp;clear hp;rw[Um hu,hk,if_neg QQ,if_neg QQ,if_pos rfl,if_neg ho,if_pos hn];have u1:32<=key:=Qe;have u2:(key==127)=false:=QO;clear hu;have HK:=Zy hk;clear hk;have ho2:(o==0)=false:=QEY;have ho3:(o !=key)=true:=by simpa using hn
 clear ho hn b5;exact QGG
theorem DY(f r o s key:Int)(w:World)(hp:Yl f r o s 0=0)(hu:YH key)(hk:Jw f r o s key=3)(ho:¬o=0)(hn:¬o≠key):
  Calls Tryz.prog 62 #[.agg #[.int .i64 f,.int .i64 r,.int .i64 o,.int .i64 s,.int .i64 0],.int .i64 key] w (XF (YV f r o s 0 key) 0 w):=by
 have hX:=Ul.start w f r o s 0;obtain⟨b1,b2,b3,b4,b5⟩:=Jb hp;have HP:=Zy hp;clear hp;rw[Um hu,hk,if_neg QQ,if_neg QQ,if_pos rfl,if_neg ho,if_neg hn];have u1:32<=key:=Qe;have u2:(key==127)=false:=QO;clear hu;have HK:=Zy hk;clear hk;have ho2:(o==0)=false:=QEY;have ho3:(o !=key)=false:=by simpa using hn
 clear ho hn b5;exact QFw
theorem tN(f r o s key:Int):Jw f r o s key=0\/Jw f r o s key=1\/Jw f r o s key=2\/Jw f r o s key=3\/Jw f r o s key=4\/Jw f r o s key=5\/Jw f r o s key=6\/Jw f r o s key=7\/Jw f r o s key=8:=by
 unfold Jw
 repeat(first|omega|split)
theorem EW(f r o s wt key:Int)(w:World)(hp:Yl f r o s wt=0):
  Calls Tryz.prog 62 #[.agg #[.int .i64 f,.int .i64 r,.int .i64 o,.int .i64 s,.int .i64 wt],.int .i64 key] w (XF (YV f r o s wt key) 0 w):=by
 by_cases hlo:key<32\/key=127
 ·exact Fw _ _ _ _ _ _ _ hp hlo
 ·by_cases hw:wt=0
  ·subst hw
   rcases tN f r o s key with h|h|h|h|h|h|h|h|h
   ·exact GU _ _ _ _ _ _ hp hlo h
   ·by_cases ho:o≠0
    ·exact DU _ _ _ _ _ _ hp hlo h ho
    ·exact DK _ _ _ _ _ _ hp hlo h ho
   ·exact GK _ _ _ _ _ _ hp hlo h
   ·by_cases ho:o=0
    ·exact DX _ _ _ _ _ _ hp hlo h ho
    ·by_cases hn:o≠key
     ·exact DJ _ _ _ _ _ _ hp hlo h ho hn
     ·exact DY _ _ _ _ _ _ hp hlo h ho hn
   ·exact GJ _ _ _ _ _ _ hp hlo h
   ·exact GY _ _ _ _ _ _ hp hlo h
   ·exact GX _ _ _ _ _ _ hp hlo h
   ·exact GZ _ _ _ _ _ _ hp hlo h
   ·exact GQ _ _ _ _ _ _ hp hlo h
  ·exact GV _ _ _ _ _ _ _ hp hlo hw
end Go.Proofs.YtmdnepkekekncaaGreat
