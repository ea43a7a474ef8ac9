/- joined, no condition of its own. -/
import Derived.Test.YtmdnepkekekncaaGreatJfJ24
import Derived.Test.YtmdnepkekekncaaGreatJfJ25
import Derived.Test.YtmdnepkekekncaaGreatJfJ27
import Derived.Test.YtmdnepkekekncaaGreatJfJ29
set_option linter.unusedVariables false
set_option linter.unusedSimpArgs false
set_option maxRecDepth 100000
set_option maxHeartbeats 12000000
namespace Go.Proofs.YtmdnepkekekncaaGreat
open Go.RowKit
structure SS where
 text:List Int
 pos:Int
 mode:Int
 regs:List (List Int)
 fk:Int
 fa:Int
 part:C5
 XQ:Hi
 past:List (List Int×Int)
 first:List Int
 last:Option (C5×List Int)
 now:Option (C5×List Int)
 ask:List Int
 older:Bool
 pend:ByteArray
 off:Int
 width:Int
 row:List Int
 rat:Int
 over:Bool
 told:List (Int×List Int)
 Yv:List Int
def CZ:C5:=⟨0,0,0,0,0⟩
namespace SS
def tell(S:SS)(k:Int)(l:List Int):SS:={S with told:=S.told++[(k,l)]}
def Y2(S:SS):SS:=S.tell 1 []
def set(S:SS)(t:List Int)(p:Int):SS:={S with text:=t,pos:=p}
def Js(S:SS)(t:List Int)(md:Int):SS:=
 {S with text:=t,pos:=if md=0 then max 0 ((t.length:Int)-1)else 0,first:=t,past:=[],mode:=md,part:=CZ}
def save(S:SS):SS:={S with past:=(S.past++[(S.text,S.pos)]).drop (S.past.length+1-30)}
def leave(S:SS):SS:=
 {S with pos:=max 0 (S.pos-1),mode:=0,last:=if S.now.isSome then S.now else S.last,now:=none}
def J5(S:SS)(key:Int):List Int×Int×Int:=JV S.text S.pos S.mode key (Kl S.text false S.pos)
def typed(S:SS)(key:Int):SS:=
 if key=27 then S.leave
 else if(S.J5 key).2.2≠0 then S.Y2
 else {S.set (S.J5 key).1 (S.J5 key).2.1 with now:=S.now.map fun p=>(p.1,p.2++[key])}
def accept(S:SS):SS:=({S.tell 2 S.text with XQ:=qj S.XQ S.text,now:=none}).Js [] 1
def moved(S:SS)(r:Hi×List Int×Int):SS:=if r.2.2≠0 then S.Y2 else({S with XQ:=r.1}).Js r.2.1 0
def back(S:SS):SS:=
 if S.past.length=0 then S.Y2
 else {S with text:=((S.past.getLast?).getD ([],0)).1,pos:=((S.past.getLast?).getD ([],0)).2,past:=S.past.dropLast}
def Kv(S:SS):SS:=if S.text=S.first then S.Y2 else {S.save with text:=S.first,pos:=0}
end SS
def kH(c:C5):Bool:=
 if c.c=100\/c.c=99 then true else if c.c=121 then false
 else[120,88,115,83,67,68,112,80,126,114,105,73,97,65,82].contains c.d
def iF(W:World)(S:SS):In:=⟨W,none,S.text.length,S.text.length,S.text,S.pos.toNat,[],S.regs⟩
noncomputable def SS.vG(W:World)(S:SS)(c:C5):Int×St:=Mi (iF W S) c S.fk S.fa
noncomputable def SS.Kz(W:World)(S:SS)(c:C5):SS×Bool:=
 if(S.vG W c).1≠0 then(S.Y2,false)
 else
  let s:=(S.vG W c).2
  let S1:SS:=if kH c then {S.save with now:=some (c,[])}else S
  let S2:SS:={S1 with text:=s.O,pos:=s.p,regs:=s.Y,fk:=s.fk,fa:=s.fa,mode:=s.md}
  (if s.md=0/\S2.now.isSome then {S2 with last:=S2.now,now:=none}else S2,true)
noncomputable def SS.again(W:World)(S:SS)(n:Int):SS:=
 match S.last with
 | none=>S.Y2
 | some (c,ty)=>
  let r:=S.Kz W (if 0<n then {c with a:=n}else c)
  if r.2=false\/r.1.mode=0 then r.1 else(ty.foldl SS.typed r.1).typed 27
instance:Inhabited Hi:=⟨hi0⟩
def qM(h:Hi)(xs:List Int)(n way:Int):Hi×List Int×Int:=
 if Xl h xs.length n≠0 then(hi0,[],Xl h xs.length n)
 else match VL h n way with
  | none=>(hi0,[],5)
  | some k=>(zP h xs k,KA h xs k,0)
noncomputable def Dj(h:Hi)(xs ps:List Int)(ol:Bool):Hi×List Int×Int:=Classical.epsilon fun r=>Y7 h xs ps ol r.1 r.2.1 r.2.2
noncomputable def DL(h:Hi)(xs:List Int)(tu:Bool):Hi×List Int×Int:=Classical.epsilon fun r=>KN h xs tu r.1 r.2.1 r.2.2
noncomputable def SS.command(W:World)(S:SS)(c:C5):SS:=
 if c.c≠0 then(S.Kz W c).1
 else if c.d=117 then S.back
 else if c.d=85 then S.Kv
 else if c.d=46 then S.again W c.a
 else if c.d=107 then S.moved (qM S.XQ S.text c.a (-1))
 else if c.d=106 then S.moved (qM S.XQ S.text c.a 1)
 else if c.d=71 then S.moved (qM S.XQ S.text c.a 0)
 else if c.d=110\/c.d=78 then S.moved (DL S.XQ S.text (c.d==78))
 else if c.d=47\/c.d=63 then {S with mode:=3,ask:=[],older:=c.d==47}
 else(S.Kz W c).1
noncomputable def SS.asked(S:SS)(key:Int):SS:=
 if key=13\/key=10 then({S with mode:=0}).moved (Dj S.XQ S.text S.ask S.older)
 else if key=27 then {S with mode:=0}
 else if key=8\/key=127 then(if S.ask.length=0 then {S with mode:=0}else {S with ask:=S.ask.dropLast})
 else if key<32\/S.ask.length=200 then S.Y2
 else {S with ask:=S.ask++[key]}
def TK.part(t:TK):C5:=⟨t.q0,t.q1,t.q2,t.q3,t.q4⟩
def TK.cmd(t:TK):C5:=⟨t.c0,t.c1,t.c2,t.c3,t.c4⟩
def SS.JS(S:SS)(key:Int):TK:=YV S.part.a S.part.b S.part.c S.part.d S.part.e key
noncomputable def SS.key(W:World)(S:SS)(key:Int):SS:=
 if key=3 then({S.tell 3 []with now:=none,XQ:=⟨S.XQ.ls,S.XQ.most,S.XQ.ls.length,[],S.XQ.pat,S.XQ.older⟩}).Js [] 1
 else if S.mode=3 then S.asked key
 else if key=13\/key=10 then S.accept
 else if key=4 then(if 0<S.text.length then S.Y2 else {S.tell 4 []with over:=true})
 else if S.mode≠0 then S.typed key
 else
  let S1:SS:={S with part:=(S.JS key).part}
  if(S.JS key).how=2 then S1.command W (S.JS key).cmd
  else if(S.JS key).how=3 then S1.Y2
  else S1
noncomputable def Io(A:List Int)(pa:Nat)(B:List Int)(pb:Nat):List Int:=
 let r:=Classical.epsilon fun r:Nat×Nat×Nat×Nat×Nat×Nat×Nat=>Ui A B A.length r.1 r.2.1 r.2.2.1 r.2.2.2.1 r.2.2.2.2.1 r.2.2.2.2.2.1 r.2.2.2.2.2.2
 Uo B pa pb r.2.1 r.2.2.1 r.1 r.2.2.2.1 r.2.2.2.2.1 r.2.2.2.2.2.1 r.2.2.2.2.2.2
noncomputable def SS.show(S:SS):SS:=
 {
  S with
  off:=XT S.pos S.off S.width
  Yv:=S.Yv++Io S.row S.rat.toNat (Uk S.text (XT S.pos S.off S.width) S.width) (S.pos-XT S.pos S.off S.width).toNat
  row:=Uk S.text (XT S.pos S.off S.width) S.width
  rat:=S.pos-XT S.pos S.off S.width}
noncomputable def SS.step(W:World)(S:SS)(key:Int):SS:=if S.over then S else(S.key W key).show
noncomputable def SS.keys(W:World)(S:SS)(l:List Int):SS:=l.foldl (SS.step W) S
noncomputable def SS.feed(W:World)(S:SS)(b:ByteArray):SS×Int:=
 if S.over then(S,6)else if 4096<b.size then(S,2)
 else(({S with pend:=zJ (JU (S.pend++b)).ah,told:=[],Yv:=[]}).keys W (JU (S.pend++b)).out,0)
def SS.new(most width:Int):SS:=
 {
  text:=[],pos:=0,mode:=1,regs:=List.replicate 27 [],fk:=0,fa:=0,part:=CZ,XQ:=⟨[],most,0,[],[],false⟩,past:=[],first:=[],last:=none,now:=none,ask:=[],older:=false,pend:=⟨#[]⟩,off:=0,width:=width,
  row:=List.replicate width.toNat 32,rat:=0,over:=false,told:=[],Yv:=[]}
theorem EC(l:List Int):0<=Ku l/\Ku l<=max 0 ((l.length:Int)-1):=by
 unfold Ku;split
 ·rename_i r hr;have:=Yo hr;omega
 ·omega
theorem LX{l:List Int}{n k:Nat}{r:Int}(h:Jn l n k r)(hk:k<n):r<n:=by
 exact QHh
theorem gQ{l:List Int}{k:Nat}(h:¬Kc l k<0):Kc l k<l.length:=by
 unfold Kc at *;split at h
 ·rename_i r hr
  have hr:=Yo hr;exact LX (KG l l.length r QQ) QQ
 ·omega
theorem QYB{l:List Int}{k:Nat}{key n arg:Int}{x:Int}{b:Bool}(hk:k<l.length\/k=0)(hn:1<=n)(h:Ym l k key n arg false=some (x,b)):0<=x/\x<=max 0 ((l.length:Int)-1):=by
 have hk':k<=l.length:=QQ;have hN:0<=Yb (JO l (key==87)) n.toNat k:=(KH (f:=JO l (key==87)) (lo:=0) (hi:=l.length) (fun y h0 h1=>yf l _ y h0 h1) QQ QQ _).1;have hB:=KH (f:=Kl l (key==66)) (lo:=0) (hi:=max 0 ((l.length:Int)-1)) (fun y h0 h1=>by
  have:=(WT l (key==66) y h0).1;rcases this with h|h<;>omega) (k:=(k:Int)) QQ QQ n.toNat
 have hE:=KH (f:=Vi l (key==69)) (lo:=0) (hi:=max 0 ((l.length:Int)-1)) (fun y h0 h1=>by
  rcases jW l (key==69) y h0 with h|h<;>omega) (k:=(k:Int)) QQ QQ n.toNat
 unfold Ym at h;by_cases c1:key=104
 ·rw[if_pos c1]at h
  exact QHR
 rw[if_neg c1]at h;clear c1;by_cases c1:key=108
 ·rw[if_pos c1]at h
  by_cases c2:(if false=true then(l.length:Int)else l.length-1)<=k
  ·rw[if_pos c2]at h;cases h
  ·rw[if_neg c2]at h
   simp at h c2;omega
 rw[if_neg c1]at h;clear c1;by_cases c1:key=48
 ·rw[if_pos c1]at h
  simp at h;omega
 rw[if_neg c1]at h;clear c1;by_cases c1:key=94
 ·rw[if_pos c1]at h
  simp at h;have:=EC l;omega
 rw[if_neg c1]at h;clear c1;by_cases c1:key=98\/key=66
 ·rw[if_pos c1]at h
  exact QHR
 rw[if_neg c1]at h;clear c1;by_cases c1:key=102\/key=116
 ·rw[if_pos c1]at h
  exact QH0
 rw[if_neg c1]at h;clear c1;by_cases c1:key=70\/key=84
 ·rw[if_pos c1]at h
  exact QH1
 rw[if_neg c1]at h;clear c1;by_cases c1:l.length=0
 ·rw[if_pos c1]at h
  cases h
 rw[if_neg c1]at h;by_cases c2:key=36
 ·rw[if_pos c2]at h
  simp at h;omega
 rw[if_neg c2]at h;clear c2;by_cases c2:key=124
 ·rw[if_pos c2]at h
  simp at h;omega
 rw[if_neg c2]at h;clear c2;by_cases c2:key=119\/key=87
 ·rw[if_pos c2]at h
  simp only[Zt,X3]at h;by_cases c3:min (Yb (JO l (key==87)) n.toNat k) ((l.length:Int)-1)=k
  ·rw[if_pos c3]at h;cases h
  ·rw[if_neg c3]at h;simp at h;omega
 rw[if_neg c2]at h;clear c2;by_cases c2:key=101\/key=69
 ·rw[if_pos c2]at h
  by_cases c3:false=false/\Yb (Vi l (key==69)) n.toNat k=k
  ·rw[if_pos c3]at h;cases h
  ·rw[if_neg c3]at h;simp at h;omega
 rw[if_neg c2]at h;clear c2;by_cases c2:Kc l k<0
 ·rw[if_pos c2]at h
  cases h
 rw[if_neg c2]at h;simp at h;have:=gQ c2;omega
theorem QJE{l:List Int}{k key count arg:Int}(h:zi l k key count arg false=0):0<=vE l k key count arg false/\vE l k key count arg false<=max 0 ((l.length:Int)-1):=by
 have hm:JG l k key count=0:=by
  unfold zi at h;split at h
  ·assumption
  ·exact h
 rw[zi,if_pos hm]at h;rw[vE,if_pos hm];have hk:0<=k/\(k=0\/k<l.length):=by
  unfold JG at hm;split at hm
  ·exact absurd hm QZ
  ·split at hm
   ·exact absurd hm QZ
   ·rename_i h1;omega
 rcases hs:Ym l k.toNat key (max 1 count) arg false with _|⟨x,b⟩
 ·rw[hs]at h;exact absurd h QZ
 ·exact QYB QQ QQ hs
theorem QYX{l:List Int}{k key count arg:Int}(h0:0<=k)(h1:k<=l.length):(TJ l k key count arg).toNat<=k.toNat:=by
 unfold TJ;split<;>omega
theorem QzU{l:List Int}{k key count arg:Int}(h0:0<=k):(TJ l k key count arg).toNat<=(fA l k key count arg).toNat:=by
 unfold TJ fA;split
 ·split<;>omega
 ·omega
structure MN (I:In):Prop where
 len:I.t.length=I.n
 top:I.n<=200
 k1:I.k<I.n\/I.k=0
 lx:I.X.length=27
theorem O0{P:Program}{f:FuncId}{args:Array Value}{w:World}{R:Ending->World->Prop}(h:Calls P f args w R):∃e w',R e w':=by
 obtain⟨e,w',_,r,_⟩:=h [];exact⟨e,w',r⟩
theorem TT(W:World)(l:List Int):Ints (W.alloc (.cells (l.map (Value.int .i64)).toArray 3)) (some ⟨W.heap.size,0,none⟩) l:=by
 refine .inr ⟨W.heap.size,0,rfl,fun i hi=>?_⟩;rw[Za.cell (Za.new W _ _),Ya hi];simp[hi]
theorem QYz(W:World)(l:List Int)(n k:Nat)(hn:l.length=n)(QAZ:n<=200)(hk:k<n\/k=0)(around:Bool)(key:Int):DN l (Jr l n n).out around k key (TC l n around k key).1 (TC l n around k key).2.1 (TC l n around k key).2.2:=by
 obtain⟨e,w',a,b,er,rfl,ho,-⟩:=O0 (qZ (some ⟨W.heap.size,0,none⟩) n n l k around key _ (TT W l) hn QQ QQ);rw[BZ ho];exact ho
structure Vg (I:In) (s:St):Prop where
 len:s.O.length<=200
 p0:0<=s.p
 p1:s.p<=s.O.length
 pc:s.md=0->s.p<=max 0 ((s.O.length:Int)-1)
 md:s.md=0\/s.md=1\/s.md=2
 ly:s.Y.length=27
 ys:∀i,i<27->(rx s.Y i).length<=200
theorem QQl{t:List Int}{f g:Nat}(h:f<=g):(t.take f++[]++t.drop g).length<=t.length:=QY
theorem eG{X:List (List Int)}{j i:Nat}{y:List Int}(hj:j<X.length):rx (X.set j y) i=if i=j then y else rx X i:=by
 unfold rx;rw[Zg,Zg,List.getElem?_set];by_cases h:j=i
 ·subst h;simp[hj]
 ·rw[if_neg h,if_neg (fun e=>h e.symm)]
theorem RY{X:List (List Int)}{j:Nat}{y:List Int}(hX:X.length=27)(hs:∀i,i<27->(rx X i).length<=200)(hj:j<27)(hy:y.length<=200):(uF X j y).length=27/\∀i,i<27->(rx (uF X j y) i).length<=200:=by
 unfold uF;refine⟨by simp[hX],fun i hi=>?_⟩;rw[eG (by simp[hX])];split
 ·exact hy
 ·rw[eG QQ]
  split
  ·exact hy
  ·exact hs i hi
theorem fF{X:List (List Int)}{nm:Int}{t:List Int}(hX:X.length=27)(hs:∀i,i<27->(rx X i).length<=200)(h:KE X nm t=0):(Jh X nm t).length=27/\∀i,i<27->(rx (Jh X nm t) i).length<=200:=by
 unfold KE at h;unfold Jh;by_cases c1:VQ nm=false
 ·rw[if_pos c1]at h;exact absurd h QZ
 rw[if_neg c1]at h ⊢;have hj:WI nm<27:=(Fv (by simpa using c1)).1;by_cases c2:jf nm=true
 ·rw[if_pos c2]at h ⊢
  by_cases c3:200<(rx X (WI nm)).length+t.length
  ·rw[if_pos c3]at h;exact absurd h QZ
  ·rw[if_neg c3]
   exact RY hX hs hj (by rw[ZN];omega)
 ·rw[if_neg c2]at h ⊢
  by_cases c3:200<t.length
  ·rw[if_pos c3]at h;exact absurd h QZ
  ·rw[if_neg c3]
   exact RY hX hs hj QQ
theorem Ng{I:In}{s:St}{f g:Nat}{whole:Bool}(hI:MN I)(hs:∀i,i<27->(rx I.X i).length<=200)(h:Vg I s)(hO:s.O=I.t)(hp:s.p=I.k)(hmd:s.md=0)(hf:f<=I.n)(hfg:f<=g)(he:(EY I s f g whole).1=0):Vg I (EY I s f g whole).2:=by
 have hk:=hI.k1;have hl:=hI.len;have htop:=hI.top;unfold EY at he ⊢;by_cases h1:f=g/\s.cm.c≠99
 ·rw[if_pos h1]at he;exact absurd he QJ
 rw[if_neg h1]at he ⊢;by_cases h2:f<g/\KE I.X s.cm.b ((I.t.take g).drop f)≠0
 ·rw[if_pos h2]at he;exact absurd he h2.2
 rw[if_neg h2]at he ⊢;dsimp only at he ⊢;have hs1:Vg I (if f<g then {s with Y:=Jh I.X s.cm.b ((I.t.take g).drop f)}else s):=by
  split
  ·rename_i h3
   obtain⟨e1,e2⟩:=fF hI.lx hs (Z5 fun e=>h2 ⟨h3,e⟩);exact {h with ly:=e1,ys:=e2}
  ·exact h
 have e1:(if f<g then {s with Y:=Jh I.X s.cm.b ((I.t.take g).drop f)}else s).p=I.k:=by split<;>exact hp
 have e2:(if f<g then {s with Y:=Jh I.X s.cm.b ((I.t.take g).drop f)}else s).O=I.t:=by split<;>exact hO
 generalize(if f<g then {s with Y:=Jh I.X s.cm.b ((I.t.take g).drop f)}else s)=s1 at *;have hc:=QQl (t:=I.t) hfg;have hlo:(I.t.take f++[]++I.t.drop g).length=f+(I.n-g):=QY;by_cases h3:s.cm.c=121
 ·rw[if_pos h3]
  cases whole
  ·refine {hs1 with p0:=?_,p1:=?_,pc:=fun _=>?_}<;>dsimp only[Zt,X3]<;>(try rw[e2])<;>simp<;>omega
  ·exact hs1
 rw[if_neg h3];by_cases h4:s.cm.c=99
 ·rw[if_pos h4]
  exact {hs1 with len:=by dsimp only[Uz];omega,p0:=by dsimp only;omega,p1:=by dsimp only[Uz];omega,pc:=fun h=>QDN,md:=.inr (.inl rfl)}
 ·rw[if_neg h4]
  have hcl:0<=Hw f ((I.t.take f++[]++I.t.drop g).length:Int)/\Hw f ((I.t.take f++[]++I.t.drop g).length:Int)<=max 0 (((I.t.take f++[]++I.t.drop g).length:Int)-1):=by unfold Hw;omega
  exact {hs1 with len:=by dsimp only[Uz];omega,p0:=by dsimp only;omega,p1:=by dsimp only[Uz];omega,pc:=fun _=>by dsimp only[Uz];omega,md:=.inl rfl}
theorem QYv{I:In}{s:St}(hI:MN I)(hs:∀i,i<27->(rx I.X i).length<=200)(h:Vg I s)(hO:s.O=I.t)(hp:s.p=I.k)(hmd:s.md=0)(he:(BJ I s).1=0):Vg I (BJ I s).2:=by
 have hk:=hI.k1;have hl:=hI.len;have htop:=hI.top;unfold BJ at he ⊢;by_cases h1:LC s.fk s.cm.d≠0
 ·rw[if_pos h1]at he;exact absurd he h1
 rw[if_neg h1]at he ⊢;by_cases h2:s.cm.c=0
 ·rw[if_pos h2]at he ⊢
  by_cases h3:zi I.t I.k (jh s.fk s.cm.d) s.cm.a (ji s.fk s.fa s.cm.d s.cm.e) false≠0
  ·rw[if_pos h3]at he;exact absurd he h3
  ·rw[if_neg h3]
   have:=QJE (Z5 h3);exact {h with p0:=this.1,p1:=by dsimp only;rw[hO];omega,pc:=fun _=>by dsimp only;rw[hO];omega}
 rw[if_neg h2]at he ⊢;by_cases h3:zi I.t I.k (jh s.fk s.cm.d) s.cm.a (ji s.fk s.fa s.cm.d s.cm.e) true≠0
 ·rw[if_pos h3]at he;exact absurd he h3
 rw[if_neg h3]at he ⊢;dsimp only at he ⊢;have hf:=QYX (l:=I.t) (k:=I.k) (key:=jh s.fk s.cm.d) (count:=s.cm.a) (arg:=ji s.fk s.fa s.cm.d s.cm.e) QQ QQ;have hfg:=QzU (l:=I.t) (k:=I.k) (key:=jh s.fk s.cm.d) (count:=s.cm.a) (arg:=ji s.fk s.fa s.cm.d s.cm.e) QQ;by_cases h4:(EY I s (TJ I.t I.k (jh s.fk s.cm.d) s.cm.a (ji s.fk s.fa s.cm.d s.cm.e)).toNat (fA I.t I.k (jh s.fk s.cm.d) s.cm.a (ji s.fk s.fa s.cm.d s.cm.e)).toNat false).1≠0
 ·rw[if_pos h4]at he;exact absurd he h4
 rw[if_neg h4];have:=Ng (whole:=false) hI hs h hO hp hmd QQ hfg (Z5 h4);exact {this with}
theorem fq(t:List Int)(n:Nat):(qL t n).length=n*t.length:=by rw[zQ,Nat.mul_comm]
theorem fG{I:In}{s:St}{i:Nat}(hI:MN I)(h:Vg I s)(hmd:s.md=0)(hi:i<=I.n)(he:(Hr I s i).1=0):Vg I (Hr I s i).2:=by
 have hk:=hI.k1;have hl:=hI.len;have htop:=hI.top;unfold Hr at he ⊢;by_cases h1:xk I.X s.cm.b≠0
 ·rw[if_pos h1]at he;exact absurd he h1
 rw[if_neg h1]at he ⊢;by_cases h2:200<(I.n:Int)+max 1 s.cm.a*((UK I.X s.cm.b).length:Int)
 ·rw[if_pos h2]at he;exact absurd he QJ
 rw[if_neg h2];have hg:1<=(UK I.X s.cm.b).length:=by
  have h3:=Z5 h1;unfold xk at h3;unfold UK;by_cases c1:VQ s.cm.b=false
  ·rw[if_pos c1]at h3;exact absurd h3 QZ
  ·rw[if_neg c1]at h3 ⊢
   unfold TY at h3;by_cases c2:rx I.X (WI s.cm.b)=[]
   ·rw[if_pos c2]at h3;exact absurd h3 QZ
   ·exact Xi.2 c2
 obtain⟨m,hm⟩:∃m:Nat,max 1 s.cm.a=(m:Int):=⟨(max 1 s.cm.a).toNat,QQ⟩;have hm1:1<=m:=QQ;rw[hm]at h2;have hmul:((m*(UK I.X s.cm.b).length:Nat):Int)=(m:Int)*((UK I.X s.cm.b).length:Int):=by push_cast;rfl
 have hpos:1<=m*(UK I.X s.cm.b).length:=Nat.mul_pos hm1 hg;have hlo:(I.t.take i++qL (UK I.X s.cm.b) (max 1 s.cm.a).toNat++I.t.drop i).length=I.n+m*(UK I.X s.cm.b).length:=by
  rw[hm,XK];simp only[ZN,Zi,Xk,fq];omega
 rw[<-hmul]at h2;have e:max 1 s.cm.a*((UK I.X s.cm.b).length:Int)=((m*(UK I.X s.cm.b).length:Nat):Int):=by rw[hm,hmul]
 exact {h with len:=by dsimp only[Uz];omega,p0:=by dsimp only;rw[e];omega,p1:=by dsimp only[Uz];rw[e,hlo];omega,pc:=fun _=>by dsimp only[Uz];rw[e,hlo];omega}
theorem mE{I:In}{s:St}{m:Nat}{f:Int->Int}{q:Int}(hI:MN I)(h:Vg I s)(hm:I.k+m<=I.n)(hq0:0<=q)(hq1:q<=max 0 ((I.n:Int)-1)):Vg I {mF I s m f with p:=q}:=by
 have hl:=hI.len;have htop:=hI.top;have hlo:(I.t.take I.k++chL I m f++I.t.drop (I.k+m)).length=I.n:=by
  unfold chL;simp only[ZN,Zi,Xk,YU];omega
 unfold mF;exact {h with len:=by dsimp only[Uz];omega,p0:=hq0,p1:=by dsimp only[Uz];rw[hlo];omega,pc:=fun _=>by dsimp only[Uz];rw[hlo];omega}
theorem pE{I:In}{s:St}(hI:MN I)(h:Vg I s)(hO:s.O=I.t)(hp:s.p=I.k)(hmd:s.md=0)(he:(FI I s).1=0):Vg I (FI I s).2:=by
 have hk:=hI.k1;have hl:=hI.len;have htop:=hI.top;have hln:((s.O.length:Nat):Int)=I.n:=by rw[hO,hl]
 unfold FI at he ⊢;by_cases c1:s.cm.d=112
 ·rw[if_pos c1]at he ⊢;exact fG hI h hmd QQ he
 rw[if_neg c1]at he ⊢;by_cases c2:s.cm.d=80
 ·rw[if_pos c2]at he ⊢;exact fG hI h hmd QQ he
 rw[if_neg c2]at he ⊢;by_cases c3:s.cm.d=126
 ·rw[if_pos c3]at he ⊢
  by_cases c4:I.n=0
  ·rw[if_pos c4]at he;exact absurd he QJ
  ·rw[if_neg c4]
   exact mE hI h QQ QQ QQ
 rw[if_neg c3]at he ⊢;by_cases c4:s.cm.d=114
 ·rw[if_pos c4]at he ⊢
  by_cases c5:(I.n:Int)<I.k+max 1 s.cm.a
  ·rw[if_pos c5]at he;exact absurd he QJ
  ·rw[if_neg c5]
   exact mE hI h QQ QQ QQ
 rw[if_neg c4]at he ⊢;by_cases c5:s.cm.d=105
 ·rw[if_pos c5]
  exact {h with pc:=fun h=>QDN,md:=.inr (.inl rfl)}
 rw[if_neg c5]at he ⊢;by_cases c6:s.cm.d=73
 ·rw[if_pos c6]
  have:=EC I.t;exact {h with p0:=this.1,p1:=by dsimp only;omega,pc:=fun h=>QDN,md:=.inr (.inl rfl)}
 rw[if_neg c6]at he ⊢;by_cases c7:s.cm.d=97
 ·rw[if_pos c7]
  exact QI8
 rw[if_neg c7]at he ⊢;by_cases c8:s.cm.d=65
 ·rw[if_pos c8]
  exact QI8
 rw[if_neg c8]at he ⊢;by_cases c9:s.cm.d=82
 ·rw[if_pos c9]
  exact {h with pc:=fun h=>QDN,md:=.inr (.inr rfl)}
 ·rw[if_neg c9]at he
  exact absurd he QJ
theorem QJS{I:In}{s:St}(hI:MN I)(hs:∀i,i<27->(rx I.X i).length<=200)(h:Vg I s)(hO:s.O=I.t)(hp:s.p=I.k)(hmd:s.md=0)(he:(Mh I s).1=0):Vg I (Mh I s).2:=by
 have hk:=hI.k1;have hl:=hI.len;have htop:=hI.top;unfold Mh at he ⊢;by_cases c1:YB s.cm.d=true
 ·rw[if_pos c1]at he ⊢;exact QYv hI hs h hO hp hmd he
 rw[if_neg c1]at he ⊢;by_cases c2:s.cm.c=0
 ·rw[if_pos c2]at he ⊢;exact pE hI h hO hp hmd he
 rw[if_neg c2]at he ⊢;by_cases c3:s.cm.d=s.cm.c
 ·rw[if_pos c3]at he ⊢;exact Ng hI hs h hO hp hmd QQ QQ he
 rw[if_neg c3]at he ⊢;by_cases c4:s.cm.d≠105/\s.cm.d≠97
 ·rw[if_pos c4]at he;exact absurd he QJ
 rw[if_neg c4]at he ⊢;have hof:=QYz I.w0 I.t I.n I.k hl htop hk (decide (s.cm.d=97)) s.cm.e;by_cases c5:(TC I.t I.n (decide (s.cm.d=97)) I.k s.cm.e).2.2≠0
 ·rw[if_pos c5]at he;exact absurd he c5
 rw[if_neg c5]at he ⊢;have hb:=hof.bound hl hk (Z5 c5);exact Ng hI hs h hO hp hmd QQ QQ he
theorem mJ{I:In}{cm:C5}{fk fa:Int}(hI:MN I)(hs:∀i,i<27->(rx I.X i).length<=200)(he:(Mi I cm fk fa).1=0):Vg I (Mi I cm fk fa).2:=by
 have hk:=hI.k1;have hl:=hI.len;have htop:=hI.top;unfold Mi at he ⊢;by_cases c1:cm.a<0\/999<cm.a
 ·rw[if_pos c1]at he;exact absurd he QJ
 rw[if_neg c1]at he ⊢;by_cases c2:¬(fk=0\/zA fk=true)
 ·rw[if_pos c2]at he;exact absurd he QJ
 rw[if_neg c2]at he ⊢;by_cases c3:gu cm.c=false
 ·rw[if_pos c3]at he;exact absurd he QJ
 rw[if_neg c3]at he ⊢;by_cases c4:(Mh I ⟨Ck cm,I.t,I.k,I.X,fk,fa,0,[]⟩).1≠0
 ·rw[if_pos c4]at he;exact absurd he c4
 rw[if_neg c4];exact QJS hI hs ⟨Qo,Qo,Qo,fun _=>Qo,.inl rfl,hI.lx,hs⟩ rfl rfl rfl (Z5 c4)
end Go.Proofs.YtmdnepkekekncaaGreat
