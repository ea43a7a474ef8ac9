/- LiftTopBounds: joined, no condition of its own. -/
import Derived.Test.YtmdcencmiopmmaaGreatTbJoinT
import Derived.Test.YtmdcencmiopmmaaGreatTbJoinJ8
import Derived.Test.YtmdcencmiopmmaaGreatTbJoinJ17
import Derived.Test.YtmdcencmiopmmaaGreatTbJoinJ19
import Derived.Test.YtmdcencmiopmmaaGreatTbJoinJ24
import Derived.Test.YtmdcencmiopmmaaGreatTbJoinJ25
import Derived.Test.YtmdcencmiopmmaaGreatTbJoinJ26
import Derived.Test.YtmdcencmiopmmaaGreatTbJoinJ27
import Derived.Test.YtmdcencmiopmmaaGreatTbJoinJ29
set_option linter.unusedVariables false
set_option linter.unusedSimpArgs false
set_option maxRecDepth 100000
set_option maxHeartbeats 12000000
namespace Go.Proofs.YtmdcencmiopmmaaGreat
open Go.RowKit
structure SS where
 text:List Int
 pos:Int
 mode:Int
 regs:List (List Int)
 fk:Int
 fa:Int
 part:C5
 Qh:Hi
 past:List (List Int×Int)
 first:List Int
 last:Option (C5×List Int)
 now:Option (C5×List Int)
 ask:List Int
 older:Bool
 pend:ByteArray
 off:Int
 width:Int
 row:List Int
 rat:Int
 over:Bool
 told:List (Int×List Int)
 XK:List Int
def c50:C5:=⟨0,0,0,0,0⟩
namespace SS
def tell(S:SS)(k:Int)(l:List Int):SS:={S with told:=S.told++[(k,l)]}
def Xa(S:SS):SS:=S.tell 1 []
def set(S:SS)(t:List Int)(p:Int):SS:={S with text:=t,pos:=p}
def YP(S:SS)(t:List Int)(md:Int):SS:=
 {S with text:=t,pos:=if md=0 then max 0 ((t.length:Int)-1)else 0,first:=t,past:=[],mode:=md,part:=c50}
def save(S:SS):SS:={S with past:=(S.past++[(S.text,S.pos)]).drop (S.past.length+1-30)}
def leave(S:SS):SS:=
 {S with pos:=max 0 (S.pos-1),mode:=0,last:=if S.now.isSome then S.now else S.last,now:=none}
def Y3(S:SS)(key:Int):List Int×Int×Int:=X7 S.text S.pos S.mode key (Jy S.text false S.pos)
def typed(S:SS)(key:Int):SS:=
 if key=27 then S.leave
 else if(S.Y3 key).2.2≠0 then S.Xa
 else {S.set (S.Y3 key).1 (S.Y3 key).2.1 with now:=S.now.map fun p=>(p.1,p.2++[key])}
def accept(S:SS):SS:=({S.tell 2 S.text with Qh:=VV S.Qh S.text,now:=none}).YP [] 1
def moved(S:SS)(r:Hi×List Int×Int):SS:=if r.2.2≠0 then S.Xa else({S with Qh:=r.1}).YP r.2.1 0
def back(S:SS):SS:=
 if S.past.length=0 then S.Xa
 else {S with text:=((S.past.getLast?).getD ([],0)).1,pos:=((S.past.getLast?).getD ([],0)).2,past:=S.past.dropLast}
def Yp(S:SS):SS:=if S.text=S.first then S.Xa else {S.save with text:=S.first,pos:=0}
end SS
def DX(c:C5):Bool:=
 if c.c=100\/c.c=99 then true else if c.c=121 then false
 else[120,88,115,83,67,68,112,80,126,114,105,73,97,65,82].contains c.d
def SL(W:World)(S:SS):In:=⟨W,none,S.text.length,S.text.length,S.text,S.pos.toNat,[],S.regs⟩
noncomputable def SS.kg(W:World)(S:SS)(c:C5):Int×St:=Fh (SL W S) c S.fk S.fa
noncomputable def SS.Ju(W:World)(S:SS)(c:C5):SS×Bool:=
 if(S.kg W c).1≠0 then(S.Xa,false)
 else
  let s:=(S.kg W c).2
  let S1:SS:=if DX c then {S.save with now:=some (c,[])}else S
  let S2:SS:={S1 with text:=s.O,pos:=s.p,regs:=s.Y,fk:=s.fk,fa:=s.fa,mode:=s.md}
  (if s.md=0/\S2.now.isSome then {S2 with last:=S2.now,now:=none}else S2,true)
noncomputable def SS.again(W:World)(S:SS)(n:Int):SS:=
 match S.last with
 | none=>S.Xa
 | some (c,ty)=>
  let r:=S.Ju W (if 0<n then {c with a:=n}else c)
  if r.2=false\/r.1.mode=0 then r.1 else(ty.foldl SS.typed r.1).typed 27
instance:Inhabited Hi:=⟨hi0⟩
def VA(h:Hi)(xs:List Int)(n way:Int):Hi×List Int×Int:=
 if ZC h xs.length n≠0 then(hi0,[],ZC h xs.length n)
 else match Kc h n way with
  | none=>(hi0,[],5)
  | some k=>(Vw h xs k,Yt h xs k,0)
noncomputable def vz(h:Hi)(xs ps:List Int)(ol:Bool):Hi×List Int×Int:=Classical.epsilon fun r=>Xe h xs ps ol r.1 r.2.1 r.2.2
noncomputable def vF(h:Hi)(xs:List Int)(tu:Bool):Hi×List Int×Int:=Classical.epsilon fun r=>Y7 h xs tu r.1 r.2.1 r.2.2
noncomputable def SS.command(W:World)(S:SS)(c:C5):SS:=
 if c.c≠0 then(S.Ju W c).1
 else if c.d=117 then S.back
 else if c.d=85 then S.Yp
 else if c.d=46 then S.again W c.a
 else if c.d=107 then S.moved (VA S.Qh S.text c.a (-1))
 else if c.d=106 then S.moved (VA S.Qh S.text c.a 1)
 else if c.d=71 then S.moved (VA S.Qh S.text c.a 0)
 else if c.d=110\/c.d=78 then S.moved (vF S.Qh S.text (c.d==78))
 else if c.d=47\/c.d=63 then {S with mode:=3,ask:=[],older:=c.d==47}
 else(S.Ju W c).1
noncomputable def SS.asked(S:SS)(key:Int):SS:=
 if key=13\/key=10 then({S with mode:=0}).moved (vz S.Qh S.text S.ask S.older)
 else if key=27 then {S with mode:=0}
 else if key=8\/key=127 then(if S.ask.length=0 then {S with mode:=0}else {S with ask:=S.ask.dropLast})
 else if key<32\/S.ask.length=200 then S.Xa
 else {S with ask:=S.ask++[key]}
def TK.part(t:TK):C5:=⟨t.q0,t.q1,t.q2,t.q3,t.q4⟩
def TK.cmd(t:TK):C5:=⟨t.c0,t.c1,t.c2,t.c3,t.c4⟩
def SS.Ua(S:SS)(key:Int):TK:=KV S.part.a S.part.b S.part.c S.part.d S.part.e key
noncomputable def SS.key(W:World)(S:SS)(key:Int):SS:=
 if key=3 then({S.tell 3 []with now:=none,Qh:=⟨S.Qh.ls,S.Qh.most,S.Qh.ls.length,[],S.Qh.pat,S.Qh.older⟩}).YP [] 1
 else if S.mode=3 then S.asked key
 else if key=13\/key=10 then S.accept
 else if key=4 then(if 0<S.text.length then S.Xa else {S.tell 4 []with over:=true})
 else if S.mode≠0 then S.typed key
 else
  let S1:SS:={S with part:=(S.Ua key).part}
  if(S.Ua key).how=2 then S1.command W (S.Ua key).cmd
  else if(S.Ua key).how=3 then S1.Xa
  else S1
noncomputable def EU(A:List Int)(pa:Nat)(B:List Int)(pb:Nat):List Int:=
 let r:=Classical.epsilon fun r:Nat×Nat×Nat×Nat×Nat×Nat×Nat=>KY A B A.length r.1 r.2.1 r.2.2.1 r.2.2.2.1 r.2.2.2.2.1 r.2.2.2.2.2.1 r.2.2.2.2.2.2
 Kq B pa pb r.2.1 r.2.2.1 r.1 r.2.2.2.1 r.2.2.2.2.1 r.2.2.2.2.2.1 r.2.2.2.2.2.2
noncomputable def SS.show(S:SS):SS:=
 {
  S with
  off:=Zj S.pos S.off S.width
  XK:=S.XK++EU S.row S.rat.toNat (Je S.text (Zj S.pos S.off S.width) S.width) (S.pos-Zj S.pos S.off S.width).toNat
  row:=Je S.text (Zj S.pos S.off S.width) S.width
  rat:=S.pos-Zj S.pos S.off S.width}
noncomputable def SS.step(W:World)(S:SS)(key:Int):SS:=if S.over then S else(S.key W key).show
noncomputable def SS.keys(W:World)(S:SS)(l:List Int):SS:=l.foldl (SS.step W) S
noncomputable def SS.feed(W:World)(S:SS)(b:ByteArray):SS×Int:=
 if S.over then(S,6)else if 4096<b.size then(S,2)
 else(({S with pend:=Aj (JS (S.pend++b)).ah,told:=[],XK:=[]}).keys W (JS (S.pend++b)).out,0)
def SS.new(most width:Int):SS:=
 {
  text:=[],pos:=0,mode:=1,regs:=List.replicate 27 [],fk:=0,fa:=0,part:=c50,Qh:=⟨[],most,0,[],[],false⟩,past:=[],first:=[],last:=none,now:=none,ask:=[],older:=false,pend:=⟨#[]⟩,off:=0,width:=width,
  row:=List.replicate width.toNat 32,rat:=0,over:=false,told:=[],XK:=[]}
theorem AR(l:List Int):0<=Yo l/\Yo l<=max 0 ((l.length:Int)-1):=by
 unfold Yo;split
 ·rename_i r hr;have:=XI hr;omega
 ·omega
theorem EH{l:List Int}{n k:Nat}{r:Int}(h:YL l n k r)(hk:k<n):r<n:=by
 exact QvJ
theorem Ri{l:List Int}{k:Nat}(h:¬JK l k<0):JK l k<l.length:=by
 unfold JK at *;split at h
 ·rename_i r hr
  have hr:=XI hr;exact EH (Y2 l l.length r (by omega)) (by omega)
 ·omega
theorem oN{l:List Int}{k:Nat}{key n arg:Int}{x:Int}{b:Bool}(hk:k<l.length\/k=0)(hn:1<=n)(h:XG l k key n arg false=some (x,b)):0<=x/\x<=max 0 ((l.length:Int)-1):=by
 have hk':k<=l.length:=by omega
 have hN:0<=Xk (Yj l (key==87)) n.toNat k:=(Y4 (f:=Yj l (key==87)) (lo:=0) (hi:=l.length) (fun y h0 h1=>qM l _ y h0 h1) (by omega) (by omega) _).1;have hB:=Y4 (f:=Jy l (key==66)) (lo:=0) (hi:=max 0 ((l.length:Int)-1)) (fun y h0 h1=>by
  have:=(Ui l (key==66) y h0).1;rcases this with h|h<;>omega) (k:=(k:Int)) (by omega) (by omega) n.toNat
 have hE:=Y4 (f:=K8 l (key==69)) (lo:=0) (hi:=max 0 ((l.length:Int)-1)) (fun y h0 h1=>by
  rcases ql l (key==69) y h0 with h|h<;>omega) (k:=(k:Int)) (by omega) (by omega) n.toNat
 unfold XG at h;by_cases c1:key=104
 ·rw[if_pos c1]at h
  exact Qu9
 rw[if_neg c1]at h;clear c1;by_cases c1:key=108
 ·rw[if_pos c1]at h
  by_cases c2:(if false=true then(l.length:Int)else l.length-1)<=k
  ·rw[if_pos c2]at h;cases h
  ·rw[if_neg c2]at h
   simp at h c2;omega
 rw[if_neg c1]at h;clear c1;by_cases c1:key=48
 ·rw[if_pos c1]at h
  simp at h;omega
 rw[if_neg c1]at h;clear c1;by_cases c1:key=94
 ·rw[if_pos c1]at h
  simp at h;have:=AR l;omega
 rw[if_neg c1]at h;clear c1;by_cases c1:key=98\/key=66
 ·rw[if_pos c1]at h
  exact Qu9
 rw[if_neg c1]at h;clear c1;by_cases c1:key=102\/key=116
 ·rw[if_pos c1]at h
  exact QvC
 rw[if_neg c1]at h;clear c1;by_cases c1:key=70\/key=84
 ·rw[if_pos c1]at h
  exact QvD
 rw[if_neg c1]at h;clear c1;by_cases c1:l.length=0
 ·rw[if_pos c1]at h
  cases h
 rw[if_neg c1]at h;by_cases c2:key=36
 ·rw[if_pos c2]at h
  simp at h;omega
 rw[if_neg c2]at h;clear c2;by_cases c2:key=124
 ·rw[if_pos c2]at h
  simp at h;omega
 rw[if_neg c2]at h;clear c2;by_cases c2:key=119\/key=87
 ·rw[if_pos c2]at h
  simp only[Qb,ZM]at h;by_cases c3:min (Xk (Yj l (key==87)) n.toNat k) ((l.length:Int)-1)=k
  ·rw[if_pos c3]at h;cases h
  ·rw[if_neg c3]at h;simp at h;omega
 rw[if_neg c2]at h;clear c2;by_cases c2:key=101\/key=69
 ·rw[if_pos c2]at h
  by_cases c3:false=false/\Xk (K8 l (key==69)) n.toNat k=k
  ·rw[if_pos c3]at h;cases h
  ·rw[if_neg c3]at h;simp at h;omega
 rw[if_neg c2]at h;clear c2;by_cases c2:JK l k<0
 ·rw[if_pos c2]at h
  cases h
 rw[if_neg c2]at h;simp at h;have:=Ri c2;omega
theorem sN{l:List Int}{k key count arg:Int}(h:WW l k key count arg false=0):0<=yO l k key count arg false/\yO l k key count arg false<=max 0 ((l.length:Int)-1):=by
 have hm:YW l k key count=0:=by
  unfold WW at h;split at h
  ·assumption
  ·exact h
 rw[WW,if_pos hm]at h;rw[yO,if_pos hm];have hk:0<=k/\(k=0\/k<l.length):=by
  unfold YW at hm;split at hm
  ·exact absurd hm (by decide)
  ·split at hm
   ·exact absurd hm (by decide)
   ·rename_i h1;omega
 rcases hs:XG l k.toNat key (max 1 count) arg false with _|⟨x,b⟩
 ·rw[hs]at h;exact absurd h (by decide)
 ·exact oN (by omega) (by omega) hs
theorem oK{l:List Int}{k key count arg:Int}(h0:0<=k)(h1:k<=l.length):(NW l k key count arg).toNat<=k.toNat:=by
 unfold NW;split<;>omega
theorem QJf{l:List Int}{k key count arg:Int}(h0:0<=k):(NW l k key count arg).toNat<=(RD l k key count arg).toNat:=by
 unfold NW RD;split
 ·split<;>omega
 ·omega
structure FI (I:In):Prop where
 len:I.t.length=I.n
 top:I.n<=200
 k1:I.k<I.n\/I.k=0
 lx:I.X.length=27
theorem Ic{P:Program}{f:FuncId}{args:Array Value}{w:World}{R:Ending->World->Prop}(h:Calls P f args w R):∃e w',R e w':=by
 obtain⟨e,w',_,r,_⟩:=h [];exact⟨e,w',r⟩
theorem Nf(W:World)(l:List Int):Ints (W.alloc (.cells (l.map (Value.int .i64)).toArray 3)) (some ⟨W.heap.size,0,none⟩) l:=by
 refine .inr ⟨W.heap.size,0,rfl,fun i hi=>?_⟩;rw[QD.cell (QD.new W _ _),Xt hi];simp[hi]
theorem oC(W:World)(l:List Int)(n k:Nat)(hn:l.length=n)(Qz2:n<=200)(hk:k<n\/k=0)(around:Bool)(key:Int):vG l (YO l n n).out around k key (NC l n around k key).1 (NC l n around k key).2.1 (NC l n around k key).2.2:=by
 obtain⟨e,w',a,b,er,rfl,ho,-⟩:=Ic (U3 (some ⟨W.heap.size,0,none⟩) n n l k around key _ (Nf W l) hn (by omega) (by omega));rw[jh ho];exact ho
structure K4 (I:In) (s:St):Prop where
 len:s.O.length<=200
 p0:0<=s.p
 p1:s.p<=s.O.length
 pc:s.md=0->s.p<=max 0 ((s.O.length:Int)-1)
 md:s.md=0\/s.md=1\/s.md=2
 ly:s.Y.length=27
 ys:∀i,i<27->(rx s.Y i).length<=200
theorem gy{t:List Int}{f g:Nat}(h:f<=g):(t.take f++[]++t.drop g).length<=t.length:=by simp;omega
theorem RU{X:List (List Int)}{j i:Nat}{y:List Int}(hj:j<X.length):rx (X.set j y) i=if i=j then y else rx X i:=by
 unfold rx;rw[QN,QN,List.getElem?_set];by_cases h:j=i
 ·subst h;simp[hj]
 ·rw[if_neg h,if_neg (fun e=>h e.symm)]
theorem Le{X:List (List Int)}{j:Nat}{y:List Int}(hX:X.length=27)(hs:∀i,i<27->(rx X i).length<=200)(hj:j<27)(hy:y.length<=200):(xP X j y).length=27/\∀i,i<27->(rx (xP X j y) i).length<=200:=by
 unfold xP;refine⟨by simp[hX],fun i hi=>?_⟩;rw[RU (by simp[hX])];split
 ·exact hy
 ·rw[RU (by omega)]
  split
  ·exact hy
  ·exact hs i hi
theorem RL{X:List (List Int)}{nm:Int}{t:List Int}(hX:X.length=27)(hs:∀i,i<27->(rx X i).length<=200)(h:Y0 X nm t=0):(YF X nm t).length=27/\∀i,i<27->(rx (YF X nm t) i).length<=200:=by
 unfold Y0 at h;unfold YF;by_cases c1:KD nm=false
 ·rw[if_pos c1]at h;exact absurd h (by decide)
 rw[if_neg c1]at h ⊢;have hj:Uc nm<27:=(BS (by simpa using c1)).1;by_cases c2:zG nm=true
 ·rw[if_pos c2]at h ⊢
  by_cases c3:200<(rx X (Uc nm)).length+t.length
  ·rw[if_pos c3]at h;exact absurd h (by decide)
  ·rw[if_neg c3]
   exact Le hX hs hj (by rw[QE];omega)
 ·rw[if_neg c2]at h ⊢
  by_cases c3:200<t.length
  ·rw[if_pos c3]at h;exact absurd h (by decide)
  ·rw[if_neg c3]
   exact Le hX hs hj (by omega)
theorem G8{I:In}{s:St}{f g:Nat}{whole:Bool}(hI:FI I)(hs:∀i,i<27->(rx I.X i).length<=200)(h:K4 I s)(hO:s.O=I.t)(hp:s.p=I.k)(hmd:s.md=0)(hf:f<=I.n)(hfg:f<=g)(he:(Aq I s f g whole).1=0):K4 I (Aq I s f g whole).2:=by
 have hk:=hI.k1;have hl:=hI.len;have htop:=hI.top;unfold Aq at he ⊢;by_cases h1:f=g/\s.cm.c≠99
 ·rw[if_pos h1]at he;exact absurd he (by simp)
 rw[if_neg h1]at he ⊢;by_cases h2:f<g/\Y0 I.X s.cm.b ((I.t.take g).drop f)≠0
 ·rw[if_pos h2]at he;exact absurd he h2.2
 rw[if_neg h2]at he ⊢;dsimp only at he ⊢;have hs1:K4 I (if f<g then {s with Y:=YF I.X s.cm.b ((I.t.take g).drop f)}else s):=by
  split
  ·rename_i h3
   obtain⟨e1,e2⟩:=RL hI.lx hs (Qd fun e=>h2 ⟨h3,e⟩);exact {h with ly:=e1,ys:=e2}
  ·exact h
 have e1:(if f<g then {s with Y:=YF I.X s.cm.b ((I.t.take g).drop f)}else s).p=I.k:=by split<;>exact hp
 have e2:(if f<g then {s with Y:=YF I.X s.cm.b ((I.t.take g).drop f)}else s).O=I.t:=by split<;>exact hO
 generalize(if f<g then {s with Y:=YF I.X s.cm.b ((I.t.take g).drop f)}else s)=s1 at *;have hc:=gy (t:=I.t) hfg;have hlo:(I.t.take f++[]++I.t.drop g).length=f+(I.n-g):=by simp;omega
 by_cases h3:s.cm.c=121
 ·rw[if_pos h3]
  cases whole
  ·refine {hs1 with p0:=?_,p1:=?_,pc:=fun _=>?_}<;>dsimp only[Qb,ZM]<;>(try rw[e2])<;>simp<;>omega
  ·exact hs1
 rw[if_neg h3];by_cases h4:s.cm.c=99
 ·rw[if_pos h4]
  exact {hs1 with len:=by dsimp only[Ja];omega,p0:=by dsimp only;omega,p1:=by dsimp only[Ja];omega,pc:=fun h=>by dsimp only at h;omega,md:=.inr (.inl rfl)}
 ·rw[if_neg h4]
  have hcl:0<=DF f ((I.t.take f++[]++I.t.drop g).length:Int)/\DF f ((I.t.take f++[]++I.t.drop g).length:Int)<=max 0 (((I.t.take f++[]++I.t.drop g).length:Int)-1):=by unfold DF;omega
  exact {hs1 with len:=by dsimp only[Ja];omega,p0:=by dsimp only;omega,p1:=by dsimp only[Ja];omega,pc:=fun _=>by dsimp only[Ja];omega,md:=.inl rfl}
theorem oL{I:In}{s:St}(hI:FI I)(hs:∀i,i<27->(rx I.X i).length<=200)(h:K4 I s)(hO:s.O=I.t)(hp:s.p=I.k)(hmd:s.md=0)(he:(ji I s).1=0):K4 I (ji I s).2:=by
 have hk:=hI.k1;have hl:=hI.len;have htop:=hI.top;unfold ji at he ⊢;by_cases h1:Eb s.fk s.cm.d≠0
 ·rw[if_pos h1]at he;exact absurd he h1
 rw[if_neg h1]at he ⊢;by_cases h2:s.cm.c=0
 ·rw[if_pos h2]at he ⊢
  by_cases h3:WW I.t I.k (zI s.fk s.cm.d) s.cm.a (zL s.fk s.fa s.cm.d s.cm.e) false≠0
  ·rw[if_pos h3]at he;exact absurd he h3
  ·rw[if_neg h3]
   have:=sN (Qd h3);exact {h with p0:=this.1,p1:=by dsimp only;rw[hO];omega,pc:=fun _=>by dsimp only;rw[hO];omega}
 rw[if_neg h2]at he ⊢;by_cases h3:WW I.t I.k (zI s.fk s.cm.d) s.cm.a (zL s.fk s.fa s.cm.d s.cm.e) true≠0
 ·rw[if_pos h3]at he;exact absurd he h3
 rw[if_neg h3]at he ⊢;dsimp only at he ⊢;have hf:=oK (l:=I.t) (k:=I.k) (key:=zI s.fk s.cm.d) (count:=s.cm.a) (arg:=zL s.fk s.fa s.cm.d s.cm.e) (by omega) (by omega);have hfg:=QJf (l:=I.t) (k:=I.k) (key:=zI s.fk s.cm.d) (count:=s.cm.a) (arg:=zL s.fk s.fa s.cm.d s.cm.e) (by omega);by_cases h4:(Aq I s (NW I.t I.k (zI s.fk s.cm.d) s.cm.a (zL s.fk s.fa s.cm.d s.cm.e)).toNat (RD I.t I.k (zI s.fk s.cm.d) s.cm.a (zL s.fk s.fa s.cm.d s.cm.e)).toNat false).1≠0
 ·rw[if_pos h4]at he;exact absurd he h4
 rw[if_neg h4];have:=G8 (whole:=false) hI hs h hO hp hmd (by omega) hfg (Qd h4);exact {this with}
theorem Rv(t:List Int)(n:Nat):(Vv t n).length=n*t.length:=by rw[VO,Nat.mul_comm]
theorem RN{I:In}{s:St}{i:Nat}(hI:FI I)(h:K4 I s)(hmd:s.md=0)(hi:i<=I.n)(he:(DC I s i).1=0):K4 I (DC I s i).2:=by
 have hk:=hI.k1;have hl:=hI.len;have htop:=hI.top;unfold DC at he ⊢;by_cases h1:WH I.X s.cm.b≠0
 ·rw[if_pos h1]at he;exact absurd he h1
 rw[if_neg h1]at he ⊢;by_cases h2:200<(I.n:Int)+max 1 s.cm.a*((JO I.X s.cm.b).length:Int)
 ·rw[if_pos h2]at he;exact absurd he (by simp)
 rw[if_neg h2];have hg:1<=(JO I.X s.cm.b).length:=by
  have h3:=Qd h1;unfold WH at h3;unfold JO;by_cases c1:KD s.cm.b=false
  ·rw[if_pos c1]at h3;exact absurd h3 (by decide)
  ·rw[if_neg c1]at h3 ⊢
   unfold NV at h3;by_cases c2:rx I.X (Uc s.cm.b)=[]
   ·rw[if_pos c2]at h3;exact absurd h3 (by decide)
   ·exact Zf.2 c2
 obtain⟨m,hm⟩:∃m:Nat,max 1 s.cm.a=(m:Int):=⟨(max 1 s.cm.a).toNat,by omega⟩;have hm1:1<=m:=by omega
 rw[hm]at h2;have hmul:((m*(JO I.X s.cm.b).length:Nat):Int)=(m:Int)*((JO I.X s.cm.b).length:Int):=by push_cast;rfl
 have hpos:1<=m*(JO I.X s.cm.b).length:=Nat.mul_pos hm1 hg;have hlo:(I.t.take i++Vv (JO I.X s.cm.b) (max 1 s.cm.a).toNat++I.t.drop i).length=I.n+m*(JO I.X s.cm.b).length:=by
  rw[hm,Qs];simp only[QE,QT,Q7,Rv];omega
 rw[<-hmul]at h2;have e:max 1 s.cm.a*((JO I.X s.cm.b).length:Int)=((m*(JO I.X s.cm.b).length:Nat):Int):=by rw[hm,hmul]
 exact {h with len:=by dsimp only[Ja];omega,p0:=by dsimp only;rw[e];omega,p1:=by dsimp only[Ja];rw[e,hlo];omega,pc:=fun _=>by dsimp only[Ja];rw[e,hlo];omega}
theorem Td{I:In}{s:St}{m:Nat}{f:Int->Int}{q:Int}(hI:FI I)(h:K4 I s)(hm:I.k+m<=I.n)(hq0:0<=q)(hq1:q<=max 0 ((I.n:Int)-1)):K4 I {Te I s m f with p:=q}:=by
 have hl:=hI.len;have htop:=hI.top;have hlo:(I.t.take I.k++chL I m f++I.t.drop (I.k+m)).length=I.n:=by
  unfold chL;simp only[QE,QT,Q7,Zn];omega
 unfold Te;exact {h with len:=by dsimp only[Ja];omega,p0:=hq0,p1:=by dsimp only[Ja];rw[hlo];omega,pc:=fun _=>by dsimp only[Ja];rw[hlo];omega}
theorem bH{I:In}{s:St}(hI:FI I)(h:K4 I s)(hO:s.O=I.t)(hp:s.p=I.k)(hmd:s.md=0)(he:(Be I s).1=0):K4 I (Be I s).2:=by
 have hk:=hI.k1;have hl:=hI.len;have htop:=hI.top;have hln:((s.O.length:Nat):Int)=I.n:=by rw[hO,hl]
 unfold Be at he ⊢;by_cases c1:s.cm.d=112
 ·rw[if_pos c1]at he ⊢;exact RN hI h hmd (by omega) he
 rw[if_neg c1]at he ⊢;by_cases c2:s.cm.d=80
 ·rw[if_pos c2]at he ⊢;exact RN hI h hmd (by omega) he
 rw[if_neg c2]at he ⊢;by_cases c3:s.cm.d=126
 ·rw[if_pos c3]at he ⊢
  by_cases c4:I.n=0
  ·rw[if_pos c4]at he;exact absurd he (by simp)
  ·rw[if_neg c4]
   exact Td hI h (by omega) (by omega) (by omega)
 rw[if_neg c3]at he ⊢;by_cases c4:s.cm.d=114
 ·rw[if_pos c4]at he ⊢
  by_cases c5:(I.n:Int)<I.k+max 1 s.cm.a
  ·rw[if_pos c5]at he;exact absurd he (by simp)
  ·rw[if_neg c5]
   exact Td hI h (by omega) (by omega) (by omega)
 rw[if_neg c4]at he ⊢;by_cases c5:s.cm.d=105
 ·rw[if_pos c5]
  exact {h with pc:=fun h=>by dsimp only at h;omega,md:=.inr (.inl rfl)}
 rw[if_neg c5]at he ⊢;by_cases c6:s.cm.d=73
 ·rw[if_pos c6]
  have:=AR I.t;exact {h with p0:=this.1,p1:=by dsimp only;omega,pc:=fun h=>by dsimp only at h;omega,md:=.inr (.inl rfl)}
 rw[if_neg c6]at he ⊢;by_cases c7:s.cm.d=97
 ·rw[if_pos c7]
  exact Qv8
 rw[if_neg c7]at he ⊢;by_cases c8:s.cm.d=65
 ·rw[if_pos c8]
  exact Qv8
 rw[if_neg c8]at he ⊢;by_cases c9:s.cm.d=82
 ·rw[if_pos c9]
  exact {h with pc:=fun h=>by dsimp only at h;omega,md:=.inr (.inr rfl)}
 ·rw[if_neg c9]at he
  exact absurd he (by simp)
theorem tZ{I:In}{s:St}(hI:FI I)(hs:∀i,i<27->(rx I.X i).length<=200)(h:K4 I s)(hO:s.O=I.t)(hp:s.p=I.k)(hmd:s.md=0)(he:(Fg I s).1=0):K4 I (Fg I s).2:=by
 have hk:=hI.k1;have hl:=hI.len;have htop:=hI.top;unfold Fg at he ⊢;by_cases c1:Z8 s.cm.d=true
 ·rw[if_pos c1]at he ⊢;exact oL hI hs h hO hp hmd he
 rw[if_neg c1]at he ⊢;by_cases c2:s.cm.c=0
 ·rw[if_pos c2]at he ⊢;exact bH hI h hO hp hmd he
 rw[if_neg c2]at he ⊢;by_cases c3:s.cm.d=s.cm.c
 ·rw[if_pos c3]at he ⊢;exact G8 hI hs h hO hp hmd (by omega) (by omega) he
 rw[if_neg c3]at he ⊢;by_cases c4:s.cm.d≠105/\s.cm.d≠97
 ·rw[if_pos c4]at he;exact absurd he (by simp)
 rw[if_neg c4]at he ⊢;have hof:=oC I.w0 I.t I.n I.k hl htop hk (decide (s.cm.d=97)) s.cm.e;by_cases c5:(NC I.t I.n (decide (s.cm.d=97)) I.k s.cm.e).2.2≠0
 ·rw[if_pos c5]at he;exact absurd he c5
 rw[if_neg c5]at he ⊢;have hb:=hof.bound hl hk (Qd c5);exact G8 hI hs h hO hp hmd (by omega) (by omega) he
theorem TR{I:In}{cm:C5}{fk fa:Int}(hI:FI I)(hs:∀i,i<27->(rx I.X i).length<=200)(he:(Fh I cm fk fa).1=0):K4 I (Fh I cm fk fa).2:=by
 have hk:=hI.k1;have hl:=hI.len;have htop:=hI.top;unfold Fh at he ⊢;by_cases c1:cm.a<0\/999<cm.a
 ·rw[if_pos c1]at he;exact absurd he (by simp)
 rw[if_neg c1]at he ⊢;by_cases c2:¬(fk=0\/WL fk=true)
 ·rw[if_pos c2]at he;exact absurd he (by simp)
 rw[if_neg c2]at he ⊢;by_cases c3:R4 cm.c=false
 ·rw[if_pos c3]at he;exact absurd he (by simp)
 rw[if_neg c3]at he ⊢;by_cases c4:(Fg I ⟨uu cm,I.t,I.k,I.X,fk,fa,0,[]⟩).1≠0
 ·rw[if_pos c4]at he;exact absurd he c4
 rw[if_neg c4];exact tZ hI hs ⟨by dsimp only;omega,by dsimp only;omega,by dsimp only;omega,fun _=>by dsimp only;omega,.inl rfl,hI.lx,hs⟩ rfl rfl rfl (Qd c4)
end Go.Proofs.YtmdcencmiopmmaaGreat
