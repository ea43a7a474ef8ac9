/- joined, no condition of its own. -/
import Derived.Test.YtmdnepkekekncaaGreatJfJ10
set_option linter.unusedVariables false
set_option linter.unusedSimpArgs false
set_option maxRecDepth 100000
set_option maxHeartbeats 12000000
namespace Go.Proofs.YtmdnepkekekncaaGreat
def Cj(p:List Int)(n k:Nat):Prop:=k<n/\∀j,j<k->ix p j=ix p (n-k+j)
def DR(p:List Int)(n k:Nat):Prop:=Cj p n k/\∀k',Cj p n k'->k'<=k
theorem EG{p:List Int}{n:Nat}(h:0<n):Cj p n 0:=⟨h,fun j hj=>QQ⟩
theorem LG(p:List Int):DR p 1 0:=⟨EG QQ,fun k h=>by have:=h.1;omega⟩
theorem kI{p:List Int}{n k:Nat}(hn:1<=n):Cj p (n+1) (k+1)↔Cj p n k/\ix p k=ix p n:=by
 constructor
 ·rintro⟨h1,h2⟩
  refine⟨⟨QQ,fun j hj=>?_⟩,?_⟩
  ·have:=h2 j QQ
   rwa[show n+1-(k+1)+j=n-k+j from QQ]at this
  ·have:=h2 k QQ
   rwa[show n+1-(k+1)+k=n from QQ]at this
 ·rintro⟨⟨h1,h2⟩,h3⟩
  refine⟨QQ,fun j hj=>?_⟩;rw[show n+1-(k+1)+j=n-k+j from QQ];by_cases h:j=k
  ·subst h;rw[show n-j+j=n from QQ];exact h3
  ·exact h2 j QQ
theorem EH{p:List Int}{n k k':Nat}(h:Cj p n k)(hk:k'<k):Cj p n k'↔Cj p k k':=by
 exact QHS
def nC(p:List Int)(i k:Nat):Prop:=Cj p i k/\∀k',Cj p i k'->ix p k'=ix p i->k'<=k
theorem nC.start{p:List Int}{i k:Nat}(h:DR p i k):nC p i k:=⟨h.1,fun k' hk _=>h.2 k' hk⟩
theorem nC.step{p:List Int}{i k b:Nat}(h:nC p i k)(h0:0<k)(hne:ix p k≠ix p i)(hb:DR p k b):nC p i b:=by
 refine⟨(EH h.1 hb.1.1).2 hb.1,fun k' hk' he=>?_⟩;have hle:=h.2 k' hk' he;rcases Z9 k' k with hlt|hge
 ·exact hb.2 k' ((EH h.1 hlt).1 hk')
 ·have:k'=k:=by omega
  subst this;exact absurd he hne
theorem nC.hit{p:List Int}{i k:Nat}(h:nC p i k)(he:ix p k=ix p i)(hi:1<=i):DR p (i+1) (k+1):=by
 refine⟨(kI hi).2 ⟨h.1,he⟩,fun k' hk'=>?_⟩;cases k' with
 | zero=>omega
 | succ m=>
  obtain⟨h1,h2⟩:=(kI hi).1 hk';have:=h.2 m h1 h2;omega
theorem nC.miss{p:List Int}{i:Nat}(h:nC p i 0)(he:ix p 0≠ix p i)(hi:1<=i):DR p (i+1) 0:=by
 refine⟨EG QQ,fun k' hk'=>?_⟩;cases k' with
 | zero=>omega
 | succ m=>
  obtain⟨h1,h2⟩:=(kI hi).1 hk';have h3:=h.2 m h1 h2;have:m=0:=QQ;subst this;exact absurd h2 he
theorem Ru{p:List Int}{n i:Nat}(h:i<n):ix (p.take n) i=ix p i:=by simp[ix,h]
theorem RB{p:List Int}{n i:Nat}:ix (p.drop n) i=ix p (n+i):=by simp[ix]
def PX(p s:List Int)(i k:Nat):Prop:=k<=i/\∀j,j<k->ix p j=ix s (i-k+j)
theorem Ie(p s:List Int)(i:Nat):PX p s i 0:=⟨QQ,fun j hj=>QQ⟩
theorem Au{p s:List Int}{i k:Nat}:PX p s (i+1) (k+1)↔PX p s i k/\ix p k=ix s i:=by
 constructor
 ·rintro⟨h1,h2⟩
  refine⟨⟨QQ,fun j hj=>?_⟩,?_⟩
  ·have:=h2 j QQ
   rwa[show i+1-(k+1)+j=i-k+j from QQ]at this
  ·have:=h2 k QQ
   rwa[show i+1-(k+1)+k=i from QQ]at this
 ·rintro⟨⟨h1,h2⟩,h3⟩
  refine⟨QQ,fun j hj=>?_⟩;rw[show i+1-(k+1)+j=i-k+j from QQ];by_cases h:j=k
  ·subst h;rw[show i-j+j=i from QQ];exact h3
  ·exact h2 j QQ
theorem yD{p s:List Int}{i k k':Nat}(h:PX p s i k)(hk:k'<k):PX p s i k'↔Cj p k k':=by
 exact QHS
def nk(p s:List Int)(m i k:Nat):Prop:=k<m/\PX p s i k/\∀k',k'<m->PX p s i k'->k'<=k
def nA(p s:List Int)(m i k:Nat):Prop:=k<m/\PX p s i k/\∀k',k'<m->PX p s i k'->ix p k'=ix s i->k'<=k
def Top(p s:List Int)(m i k:Nat):Prop:=k<=m/\PX p s i k/\∀k',k'<=m->PX p s i k'->k'<=k
theorem nA.start{p s:List Int}{m i k:Nat}(h:nk p s m i k):nA p s m i k:=⟨h.1,h.2.1,fun k' hk hs _=>h.2.2 k' hk hs⟩
theorem nA.step{p s:List Int}{m i k b:Nat}(h:nA p s m i k)(h0:0<k)(hne:ix p k≠ix s i)(hb:DR p k b):nA p s m i b:=by
 have hbk:=hb.1.1;refine⟨by have:=h.1;omega,(yD h.2.1 hbk).2 hb.1,fun k' hk' hs he=>?_⟩;have hle:=h.2.2 k' hk' hs he;rcases Z9 k' k with hlt|hge
 ·exact hb.2 k' ((yD h.2.1 hlt).1 hs)
 ·have:k'=k:=by omega
  subst this;exact absurd he hne
theorem nA.hit{p s:List Int}{m i k:Nat}(h:nA p s m i k)(he:ix p k=ix s i):Top p s m (i+1) (k+1):=by
 refine⟨h.1,Au.2 ⟨h.2.1,he⟩,fun k' hk' hs=>?_⟩;cases k' with
 | zero=>omega
 | succ j=>
  obtain⟨h1,h2⟩:=Au.1 hs;have:=h.2.2 j QQ h1 h2;omega
theorem nA.miss{p s:List Int}{m i:Nat}(h:nA p s m i 0)(he:ix p 0≠ix s i):Top p s m (i+1) 0:=by
 refine⟨QQ,Ie _ _ _,fun k' hk' hs=>?_⟩;cases k' with
 | zero=>omega
 | succ j=>
  obtain⟨h1,h2⟩:=Au.1 hs;have h3:=h.2.2 j QQ h1 h2;have:j=0:=QQ;subst this;exact absurd h2 he
theorem Top.full{p s:List Int}{m i b:Nat}(h:Top p s m i m)(hb:DR p m b):nk p s m i b:=by
 refine⟨hb.1.1,(yD h.2.1 hb.1.1).2 hb.1,fun k' hk' hs=>hb.2 k' ((yD h.2.1 hk').1 hs)⟩
theorem Top.part{p s:List Int}{m i k:Nat}(h:Top p s m i k)(hk:k<m):nk p s m i k/\¬PX p s i m:=
 ⟨⟨hk,h.2.1,fun k' hk' hs=>h.2.2 k' QQ hs⟩,fun hs=>by have:=h.2.2 m (ZB _) hs;omega⟩
theorem TG{p s:List Int}{m:Nat}(hm:0<m):nk p s m 0 0:=⟨hm,Ie _ _ _,fun k' _ hs=>hs.1⟩
def KO(p s:List Int)(t:Nat):Bool:=decide (p=(s.drop t).take p.length)
theorem Av{p s:List Int}{t:Nat}(ht:t+p.length<=s.length):KO p s t=true↔PX p s (t+p.length) p.length:=by
 unfold KO;rw[Xe];constructor
 ·intro h
  refine⟨QQ,fun j hj=>?_⟩;have:ix p j=ix ((s.drop t).take p.length) j:=by rw[<-h]
  rw[Ru hj,RB]at this;rw[this];congr 1;omega
 ·rintro⟨_,h⟩
  apply kU QY;intro j hj;rw[Ru hj,RB,h j hj];congr 1;omega
def K7(p s:List Int)(n:Nat):List Nat:=(List.range n).filter (KO p s)
theorem yO(p s:List Int)(n:Nat):K7 p s (n+1)=K7 p s n++(if KO p s n=true then[n]else[]):=by
 unfold K7;rw[List.range_succ,List.filter_append];congr 1
 simp[List.filter_cons]
def X9(p s:List Int)(n:Nat):List Int:=(K7 p s n).map fun(t:Nat)=>(t:Int)
theorem WL{p s:List Int}{n:Nat}(h:KO p s n=true):X9 p s (n+1)=X9 p s n++[(n:Int)]:=by
 unfold X9;rw[yO,if_pos h];simp
theorem uG{p s:List Int}{n:Nat}(h:¬KO p s n=true):X9 p s (n+1)=X9 p s n:=by
 unfold X9;rw[yO,if_neg h];simp
theorem VG(p s:List Int)(n:Nat):(X9 p s n).length<=n:=by
 unfold X9 K7;rw[YU];exact Zf (List.length_filter_le _ _) QJ
theorem Cn{p s:List Int}{n:Nat}{x:Int}(h:x∈X9 p s n):0<=x/\x<n:=by
 unfold X9 K7 at h;obtain⟨t,ht,rfl⟩:=List.mem_map.1 h;have:=(List.mem_filter.1 ht).1;rw[List.mem_range]at this;omega
end Go.Proofs.YtmdnepkekekncaaGreat
namespace Go.Proofs.YtmdnepkekekncaaGreat
open Go.RowKit
def zm(l:List Int)(k:Nat)(around:Bool)(q a b er:Int):Prop:=
 (∃i,i<l.length/\Vd l k q i/\(∀j,j<i->¬Vd l k q j)/\
   a=(if around=true then Ja l q i else Ja l q i+1)/\b=(if around=true then(i:Int)+1 else(i:Int))/\er=0)\/
  ((∀i,i<l.length->¬Vd l k q i)/\a=0/\b=0/\er=6)
def Vv(l ps:List Int)(k:Nat)(around:Bool)(o a b er:Int):Prop:=
 (∃i,i<l.length/\i<=k/\WB l ps k o i/\(∀j,i<j->j<=k->j<l.length->¬WB l ps k o j)/\
   a=(if around=true then(i:Int)else(i:Int)+1)/\b=(if around=true then ix ps i+1 else ix ps i)/\er=0)\/
  ((∀i,i<l.length->i<=k->¬WB l ps k o i)/\a=0/\b=0/\er=6)
def Hy(l:List Int)(around:Bool)(k:Nat)(big:Bool)(a b er:Int):Prop:=
 (l.length=0/\a=0/\b=0/\er=6)\/(0<l.length/\er=0/\∃f t:Nat,a=f/\b=t/\zD l big around k f t)
theorem zm.one{l:List Int}{k:Nat}{around:Bool}{q a b er a' b' l7:Int}(h:zm l k around q a b er)(h':zm l k around q a' b' l7):a=a'/\b=b'/\er=l7:=by
 rcases h with⟨i,h1,h2,h3,rfl,rfl,rfl⟩|⟨h1,rfl,rfl,rfl⟩<;>rcases h' with⟨i',g1,g2,g3,rfl,rfl,rfl⟩|⟨g1,rfl,rfl,rfl⟩
 ·obtain rfl:i=i':=by
   rcases XL i i' with h|h|h
   ·exact absurd h2 (g3 i h)
   ·exact h
   ·exact absurd g2 (h3 i' h)
  exact⟨rfl,rfl,rfl⟩
 ·exact absurd h2 (g1 i h1)
 ·exact absurd g2 (h1 i' g1)
 ·exact⟨rfl,rfl,rfl⟩
theorem Vv.one{l ps:List Int}{k:Nat}{around:Bool}{o a b er a' b' l7:Int}(h:Vv l ps k around o a b er)(h':Vv l ps k around o a' b' l7):a=a'/\b=b'/\er=l7:=by
 rcases h with⟨i,h1,h2,h3,h4,rfl,rfl,rfl⟩|⟨h1,rfl,rfl,rfl⟩<;>rcases h' with⟨i',g1,g2,g3,g4,rfl,rfl,rfl⟩|⟨g1,rfl,rfl,rfl⟩
 ·obtain rfl:i=i':=by
   rcases XL i i' with h|h|h
   ·exact absurd g3 (h4 i' h g2 g1)
   ·exact h
   ·exact absurd h3 (g4 i h h2 h1)
  exact⟨rfl,rfl,rfl⟩
 ·exact absurd h3 (g1 i h1 h2)
 ·exact absurd g3 (h1 i' g1 g2)
 ·exact⟨rfl,rfl,rfl⟩
theorem Hy.one{l:List Int}{around big:Bool}{k:Nat}{a b er a' b' l7:Int}(h:Hy l around k big a b er)(h':Hy l around k big a' b' l7):a=a'/\b=b'/\er=l7:=by
 rcases h with⟨h0,rfl,rfl,rfl⟩|⟨h0,rfl,f,t,rfl,rfl,h1⟩<;>rcases h' with⟨g0,rfl,rfl,rfl⟩|⟨g0,rfl,f',t',rfl,rfl,g1⟩
 ·exact⟨rfl,rfl,rfl⟩
 ·omega
 ·omega
 ·obtain⟨rfl,rfl⟩:=h1.one g1;exact⟨rfl,rfl,rfl⟩
def DN(l ps:List Int)(around:Bool)(k:Nat)(key a b er:Int):Prop:=
 if key=119 then Hy l around k false a b er
 else if key=87 then Hy l around k true a b er
 else if key=34\/key=39\/key=96 then zm l k around key a b er
 else if JZ key=0 then a=0/\b=0/\er=9
 else Vv l ps k around (JZ key) a b er
theorem DN.one{l ps:List Int}{around:Bool}{k:Nat}{key a b er a' b' l7:Int}(h:DN l ps around k key a b er)(h':DN l ps around k key a' b' l7):a=a'/\b=b'/\er=l7:=by
 unfold DN at h h';split at h
 ·rename_i e;rw[if_pos e]at h';exact h.one h'
 ·rename_i e;rw[if_neg e]at h'
  split at h
  ·rename_i e;rw[if_pos e]at h';exact h.one h'
  ·rename_i e;rw[if_neg e]at h'
   split at h
   ·rename_i e;rw[if_pos e]at h';exact h.one h'
   ·rename_i e;rw[if_neg e]at h'
    split at h
    ·rename_i e;rw[if_pos e]at h'
     obtain⟨rfl,rfl,rfl⟩:=h;obtain⟨rfl,rfl,rfl⟩:=h';exact⟨rfl,rfl,rfl⟩
    ·rename_i e;rw[if_neg e]at h';exact h.one h'
def Hz(P:Int->Int->Int->Prop)(w:World)(e:Ending)(w':World):Prop:=
 ∃a b er:Int,e=.returned (.tuple #[.int .i64 a,.int .i64 b,.int .i64 er])/\P a b er/\Below w.heap.size w w'
theorem zD.bound{l:List Int}{big around:Bool}{k f t:Nat}(h:zD l big around k f t):f<=t/\t<=l.length:=by
 obtain⟨f0,t0,h1,h2⟩:=h;have a1:=h1.lo;have a2:=h1.hi;have a3:=h1.len;split at h2
 ·obtain⟨rfl,f1,g⟩:=h2
  have b1:=g.lo;have b2:=g.hi;have b3:=g.len;omega
 ·split at h2
  ·obtain⟨rfl,t1,g⟩:=h2
   have b1:=g.lo;have b2:=g.hi;have b3:=g.len;omega
  ·omega
theorem gy(key:Int)(h:JZ key≠0):JZ (JZ key)=JZ key/\qy (JZ key)≠JZ key:=by
 unfold JZ qy at *;split
 ·decide
 ·rename_i h1
  rw[if_neg h1]at h;split
  ·decide
  ·rename_i h2
   rw[if_neg h2]at h;split
   ·decide
   ·rename_i h3
    rw[if_neg h3]at h;exact absurd rfl h
theorem LY{l:List Int}{n i k:Nat}{o:Int}(hi:i<n)(hx:ix l i=o)(hp:(k:Int)<=ix (Jr l n n).out i)(ho:JZ o=o)(hc:qy o≠o)(h0:o≠0):(i:Int)+1<=ix (Jr l n n).out i/\ix (Jr l n n).out i<n:=by
 have h:=KG l n i hi;unfold Jn at h;rw[hx,ho,if_neg h0,if_neg (Ne.symm hc)]at h;rcases h with⟨t,h1,⟨h2,_⟩,_,h3⟩|⟨_,h3⟩
 ·dsimp only at h2 h3
  rcases Xf t with rfl|ht
  ·rw[Yq,hx]at h2
   exact absurd h2.symm hc
  ·omega
 ·omega
theorem DN.bound{l:List Int}{n k:Nat}{around:Bool}{key a b er:Int}(hn:l.length=n)(hk:k<n\/k=0)(h:DN l (Jr l n n).out around k key a b er)(h0:er=0):0<=a/\a<=b/\b<=l.length:=by
 have hw:∀big,Hy l around k big a b er->0<=a/\a<=b/\b<=l.length:=by
  rintro big (⟨_,_,_,h9⟩|⟨_,_,f,t,e1,e2,h9⟩)
  ·omega
  ·have:=zD.bound h9;omega
 unfold DN at h;split at h
 ·exact hw _ h
 split at h
 ·exact hw _ h
 split at h
 ·rcases h with⟨i,h1,⟨h2,h3,h4⟩,_,rfl,rfl,_⟩|⟨_,_,_,h⟩
  ·have:=yI l key i
   split<;>omega
  ·omega
 split at h
 ·omega
 rename_i hz;rcases h with⟨i,h1,h2,⟨h3,h4⟩,_,rfl,rfl,_⟩|⟨_,_,_,h⟩
 ·obtain⟨g1,g2⟩:=gy key hz
  have:=LY QQ h3 h4 g1 g2 hz;split<;>omega
 ·omega
def UW(k n g lk la er:Int)(w:World)(e:Ending)(w':World):Prop:=e=.returned (.tuple #[.agg #[.int .i64 k,.int .i64 n,.int .i64 g],.agg #[.int .i64 lk,.int .i64 la],.int .i64 er])/\Below w.heap.size w w'
theorem qH(w:World)(u v x y:Array Value)(e f g h:TypeId):Za ((((w.alloc (.cells u e)).alloc (.cells v f)).alloc (.cells x g)).alloc (.cells y h)) w.heap.size u e/\Za ((((w.alloc (.cells u e)).alloc (.cells v f)).alloc (.cells x g)).alloc (.cells y h)) (w.heap.size+1) v f/\Za ((((w.alloc (.cells u e)).alloc (.cells v f)).alloc (.cells x g)).alloc (.cells y h)) (w.heap.size+2) x g/\Za ((((w.alloc (.cells u e)).alloc (.cells v f)).alloc (.cells x g)).alloc (.cells y h)) (w.heap.size+3) y h/\Below w.heap.size w ((((w.alloc (.cells u e)).alloc (.cells v f)).alloc (.cells x g)).alloc (.cells y h))/\((((w.alloc (.cells u e)).alloc (.cells v f)).alloc (.cells x g)).alloc (.cells y h)).heap.size=w.heap.size+4:=by
 obtain⟨h1,h2,h3,h4,h5⟩:=QX3 w u v x e f g;have hn:=Za.new (((w.alloc (.cells u e)).alloc (.cells v f)).alloc (.cells x g)) y h;rw[h5]at hn;exact⟨h1.alloc _,h2.alloc _,h3.alloc _,hn,h4.alloc h4.size _,by rw[Zu,h5]⟩
def UL(n:Nat):Code->Option Code
 | .region k o d=>if k==n then some (.region k o d)else none
 | .seq a b=>match UL n a with
  | some c=>some c
  | none=>UL n b
 | .loop c=>UL n c
 | .block _ c=>UL n c
 | .scope c=>UL n c
 | .cond _ a b=>match UL n a with
  | some c=>some c
  | none=>UL n b
 | _=>none
noncomputable def RD7:Code:=((Tryz.f160.body.bind (UL 7)).getD .skip)
theorem jV(fk fa a b op d e mk mn mg:Int)(w V:World){Q:Exit->Act->World->Prop}{u0 u1 u6 u8 u9 u10 u11 u12 u13 u14 u15 u16 u17 u18 u19 u20 u21 u22 u23 u24 u25 u26 u27 u28 u29 u30 u31 u32 u33 u34 u35 u36 u37 u38 u39 u40 u41 u42 u43 u44 u45 u46 u47 u48 u49 u50:Value}
  (hF:Za V w.heap.size #[.int .i64 fk,.int .i64 fa] 46) (hC:Za V (w.heap.size+1) #[.int .i64 a,.int .i64 b,.int .i64 op,.int .i64 d,.int .i64 e] 39) (hR:Za V (w.heap.size+2) #[.int .i64 0,.int .i64 0,.int .i64 0] 243) (hL:Za V (w.heap.size+3) #[.int .i64 0,.int .i64 0] 46) (hM:Za V (w.heap.size+4) #[.int .i64 mk,.int .i64 mn,.int .i64 mg] 243) (hb:Below w.heap.size w V)
  (hQ:∀(bC bB x24 x25 bA x27:Value) (w':World),Za w' (w.heap.size+2) #[.int .i64 mk,.int .i64 mn,.int .i64 mg] 243/\Za w' (w.heap.size+3) #[.int .i64 d,.int .i64 e] 46/\Below w.heap.size w w'->Q .normal ⟨(u0::u1::.pointer (some ⟨w.heap.size,0,none⟩)::.pointer (some ⟨w.heap.size+1,0,none⟩)::.pointer (some ⟨w.heap.size+2,0,none⟩)::.pointer (some ⟨w.heap.size+3,0,none⟩)::.int .i64 0::.pointer (some ⟨w.heap.size+4,0,none⟩)::u8::u9::u10::u11::u12::u13::u14::u15::u16::u17::u18::u19::u20::u21::bC::bB::x24::x25::bA::x27::u28::u29::u30::u31::u32::u33::u34::u35::u36::u37::u38::u39::u40::u41::u42::u43::u44::u45::u46::u47::u48::u49::u50::[]).toArray,[]⟩ w'):
  Code.wp Tryz.prog RD7 Q ⟨(u0::u1::.pointer (some ⟨w.heap.size,0,none⟩)::.pointer (some ⟨w.heap.size+1,0,none⟩)::.pointer (some ⟨w.heap.size+2,0,none⟩)::.pointer (some ⟨w.heap.size+3,0,none⟩)::u6::.pointer (some ⟨w.heap.size+4,0,none⟩)::u8::u9::u10::u11::u12::u13::u14::u15::u16::u17::u18::u19::u20::u21::u22::u23::u24::u25::u26::u27::u28::u29::u30::u31::u32::u33::u34::u35::u36::u37::u38::u39::u40::u41::u42::u43::u44::u45::u46::u47::u48::u49::u50::[]).toArray,[]⟩ V:=by
 obtain⟨c0,c1,c2,c3,c4⟩:=hC.five;obtain⟨p0,p1,-,-⟩:=hF.two;obtain⟨m0,m1,m2,q0,q1,q2⟩:=hM.three;obtain⟨d0,d1,d2,g0,g1,g2⟩:=hR.three;obtain⟨l0,l1,t0,t1⟩:=hL.two;have HF:=Zy (show _/\_/\_ from⟨((((hR.set 0 (.int .i64 mk)).set 1 (.int .i64 mn)).set 2 (.int .i64 mg)).other (a:=⟨w.heap.size+3,0,none⟩) (show w.heap.size+2≠w.heap.size+3 from QQ) (.int .i64 d)).other (a:=⟨w.heap.size+3,1,none⟩) (show w.heap.size+2≠w.heap.size+3 from QQ) (.int .i64 e),((((hL.other (a:=⟨w.heap.size+2,0,none⟩) (show w.heap.size+3≠w.heap.size+2 from QQ) (.int .i64 mk)).other (a:=⟨w.heap.size+2,1,none⟩) (show w.heap.size+3≠w.heap.size+2 from QQ) (.int .i64 mn)).other (a:=⟨w.heap.size+2,2,none⟩) (show w.heap.size+3≠w.heap.size+2 from QQ) (.int .i64 mg)).set 0 (.int .i64 d)).set 1 (.int .i64 e),(((((hb.setCell (p:=⟨w.heap.size+2,0,none⟩) QV (.int .i64 mk)).setCell (p:=⟨w.heap.size+2,1,none⟩) QV (.int .i64 mn)).setCell (p:=⟨w.heap.size+2,2,none⟩) QV (.int .i64 mg)).setCell (p:=⟨w.heap.size+3,0,none⟩) QD (.int .i64 d)).setCell (p:=⟨w.heap.size+3,1,none⟩) QD (.int .i64 e))⟩);have EP:=Zy (show _/\_/\_ from⟨((((hR.other (a:=⟨w.heap.size+3,0,none⟩) (show w.heap.size+2≠w.heap.size+3 from QQ) (.int .i64 d)).other (a:=⟨w.heap.size+3,1,none⟩) (show w.heap.size+2≠w.heap.size+3 from QQ) (.int .i64 e)).set 0 (.int .i64 mk)).set 1 (.int .i64 mn)).set 2 (.int .i64 mg),((((hL.set 0 (.int .i64 d)).set 1 (.int .i64 e)).other (a:=⟨w.heap.size+2,0,none⟩) (show w.heap.size+3≠w.heap.size+2 from QQ) (.int .i64 mk)).other (a:=⟨w.heap.size+2,1,none⟩) (show w.heap.size+3≠w.heap.size+2 from QQ) (.int .i64 mn)).other (a:=⟨w.heap.size+2,2,none⟩) (show w.heap.size+3≠w.heap.size+2 from QQ) (.int .i64 mg),(((((hb.setCell (p:=⟨w.heap.size+3,0,none⟩) QD (.int .i64 d)).setCell (p:=⟨w.heap.size+3,1,none⟩) QD (.int .i64 e)).setCell (p:=⟨w.heap.size+2,0,none⟩) QV (.int .i64 mk)).setCell (p:=⟨w.heap.size+2,1,none⟩) QV (.int .i64 mn)).setCell (p:=⟨w.heap.size+2,2,none⟩) QV (.int .i64 mg))⟩);have HQ:=Zy hQ;clear hF hC hM hR hL hb hQ
 conv=>arg 2;whnf
 go_region
 all_goals
  first
   | exact HQ.out _ _ _ _ _ _ _ ⟨HF.out.1,HF.out.2.1,HF.out.2.2.drew⟩
   | exact HQ.out _ _ _ _ _ _ _ ⟨EP.out.1,EP.out.2.1,EP.out.2.2.drew⟩
noncomputable def QyY:Code:=((Tryz.f160.body.bind (UL 11)).getD .skip)
theorem EB(fk fa a b op d e mk mn mg:Int)(w V:World){Q:Exit->Act->World->Prop}{u0 u1 u6 u8 u9 u10 u11 u12 u13 u14 u15 u16 u17 u18 u19 u20 u21 u22 u23 u24 u25 u26 u27 u28 u29 u30 u31 u32 u33 u34 u35 u36 u37 u38 u39 u40 u41 u42 u43 u44 u45 u46 u47 u48 u49 u50:Value}
  (hF:Za V w.heap.size #[.int .i64 fk,.int .i64 fa] 46) (hC:Za V (w.heap.size+1) #[.int .i64 a,.int .i64 b,.int .i64 op,.int .i64 d,.int .i64 e] 39) (hR:Za V (w.heap.size+2) #[.int .i64 0,.int .i64 0,.int .i64 0] 243) (hL:Za V (w.heap.size+3) #[.int .i64 0,.int .i64 0] 46) (hM:Za V (w.heap.size+4) #[.int .i64 mk,.int .i64 mn,.int .i64 mg] 243) (hb:Below w.heap.size w V)
  (hQ:∀(x34 x35:Value) (w':World),Za w' (w.heap.size+2) #[.int .i64 mk,.int .i64 mn,.int .i64 mg] 243/\Za w' (w.heap.size+3) #[.int .i64 fk,.int .i64 fa] 46/\Below w.heap.size w w'->Q .normal ⟨(u0::u1::.pointer (some ⟨w.heap.size,0,none⟩)::.pointer (some ⟨w.heap.size+1,0,none⟩)::.pointer (some ⟨w.heap.size+2,0,none⟩)::.pointer (some ⟨w.heap.size+3,0,none⟩)::.int .i64 5::.pointer (some ⟨w.heap.size+4,0,none⟩)::u8::u9::u10::u11::u12::u13::u14::u15::u16::u17::u18::u19::u20::u21::u22::u23::u24::u25::u26::u27::u28::u29::u30::u31::u32::u33::x34::x35::u36::u37::u38::u39::u40::u41::u42::u43::u44::u45::u46::u47::u48::u49::u50::[]).toArray,[]⟩ w'):
  Code.wp Tryz.prog QyY Q ⟨(u0::u1::.pointer (some ⟨w.heap.size,0,none⟩)::.pointer (some ⟨w.heap.size+1,0,none⟩)::.pointer (some ⟨w.heap.size+2,0,none⟩)::.pointer (some ⟨w.heap.size+3,0,none⟩)::u6::.pointer (some ⟨w.heap.size+4,0,none⟩)::u8::u9::u10::u11::u12::u13::u14::u15::u16::u17::u18::u19::u20::u21::u22::u23::u24::u25::u26::u27::u28::u29::u30::u31::u32::u33::u34::u35::u36::u37::u38::u39::u40::u41::u42::u43::u44::u45::u46::u47::u48::u49::u50::[]).toArray,[]⟩ V:=by
 exact QGU
noncomputable def QyX:Code:=((Tryz.f160.body.bind (UL 15)).getD .skip)
theorem Vk(fk fa a b op d e mk mn mg:Int)(w V:World){Q:Exit->Act->World->Prop}{u0 u1 u6 u8 u9 u10 u11 u12 u13 u14 u15 u16 u17 u18 u19 u20 u21 u22 u23 u24 u25 u26 u27 u28 u29 u30 u31 u32 u33 u34 u35 u36 u37 u38 u39 u40 u41 u42 u43 u44 u45 u46 u47 u48 u49 u50:Value}
  (hF:Za V w.heap.size #[.int .i64 fk,.int .i64 fa] 46) (hC:Za V (w.heap.size+1) #[.int .i64 a,.int .i64 b,.int .i64 op,.int .i64 d,.int .i64 e] 39) (hR:Za V (w.heap.size+2) #[.int .i64 0,.int .i64 0,.int .i64 0] 243) (hL:Za V (w.heap.size+3) #[.int .i64 0,.int .i64 0] 46) (hM:Za V (w.heap.size+4) #[.int .i64 mk,.int .i64 mn,.int .i64 mg] 243) (hb:Below w.heap.size w V)
  (hQ:∀(oq x50:Value) (w':World),Za w' (w.heap.size+2) #[.int .i64 mk,.int .i64 mn,.int .i64 mg] 243/\Za w' (w.heap.size+3) #[.int .i64 fk,.int .i64 fa] 46/\Below w.heap.size w w'->Q .normal ⟨(u0::u1::.pointer (some ⟨w.heap.size,0,none⟩)::.pointer (some ⟨w.heap.size+1,0,none⟩)::.pointer (some ⟨w.heap.size+2,0,none⟩)::.pointer (some ⟨w.heap.size+3,0,none⟩)::.int .i64 0::.pointer (some ⟨w.heap.size+4,0,none⟩)::u8::u9::u10::u11::u12::u13::u14::u15::u16::u17::u18::u19::u20::u21::u22::u23::u24::u25::u26::u27::u28::u29::u30::u31::u32::u33::u34::u35::u36::u37::u38::u39::u40::u41::u42::u43::u44::u45::u46::u47::u48::oq::x50::[]).toArray,[]⟩ w'):
  Code.wp Tryz.prog QyX Q ⟨(u0::u1::.pointer (some ⟨w.heap.size,0,none⟩)::.pointer (some ⟨w.heap.size+1,0,none⟩)::.pointer (some ⟨w.heap.size+2,0,none⟩)::.pointer (some ⟨w.heap.size+3,0,none⟩)::u6::.pointer (some ⟨w.heap.size+4,0,none⟩)::u8::u9::u10::u11::u12::u13::u14::u15::u16::u17::u18::u19::u20::u21::u22::u23::u24::u25::u26::u27::u28::u29::u30::u31::u32::u33::u34::u35::u36::u37::u38::u39::u40::u41::u42::u43::u44::u45::u46::u47::u48::u49::u50::[]).toArray,[]⟩ V:=by
 exact QGU
end Go.Proofs.YtmdnepkekekncaaGreat
