import Derived.Test.YtehjjpbpdfnnfaaGreatDoorM00
import Derived.Test.YtehjjpbpdfnnfaaGreatDoorM04
namespace Go.Tz
open Go Go.AL Go.Proofs
variable{G:Nat->Option (List D)}
theorem fy{n b:Nat}{ms:List Nat}{c:Code}{st:St}{k:Exit->St->Prop}{σ:Type}(I:σ->St)(μ:σ->Nat)(s0:σ)(h0:Sub G b ms st (I s0))(hc:bf n c=true)
  (round:∀(s:σ) (A:St->Prop),(∀ st t,Sub G b ms st (I t)->μ t<μ s->A st)->oH np tab G (Lx Pr G) (Ly Pr G) (QS Pr G n b ms) c (I s) fun e st'=>pK e st' A k):P2 Pr G n b ms c st k :=
 gJ pok I μ s0 h0 hc fun s=>round s _ fun _ t h1 h2=>.mk t h1 h2
noncomputable def cA:Code:=fa Tryz.f100 2
def FND(rf:Nat->Ps)(n c a:Nat)(r:Int):Prop :=
 (r = -1 /\ ∀ j,a<=j->j<n->da (rf j) c=false) \/ ∃ f:Nat,r=f/\a<=f/\f<n/\da (rf f) c=true /\ ∀ j,a<=j->j<f->da (rf j) c=false
theorem redA{l:List Ps}{t:Bool}{k:Exit->St->Prop}{e:List (Nat×AV)}{h:AHeap}{n W nx a c:Nat}{rf:Nat->Ps}{wn:Nat->Nat}{wb:Nat->Nat->Bool}(hl:l.length=n)(hbig:n<=1000)(ha:a<=n)(hc:c<1000)(hw:HW h n W rf wn wb)(hn:NW n W nx wn)
  (he:EV l t n W a c e) (e10:lk e 10 = .d (iD (-1))) (e11:lk e 11 = .d (iD a))
  (hk:∀ r e' h',FND rf n c a r->HW h' n W rf wn wb->EV l t n W a c e'->lk e' 10 = .d (iD r)->k (.exit 4) ⟨e',h',nx⟩) :
  P2 Pr G 155 0 [] cA ⟨e,h,nx⟩ k:=by
 refine fy (σ:={ p:Nat×Int // (p.2 = -1/\a<=p.1/\p.1<=n /\ ∀ j,a<=j->j<p.1->da (rf j) c=false) \/ ∃ f:Nat,p.2=f/\p.1=f+1/\a<=f/\f<n/\da (rf f) c=true /\ ∀ j,a<=j->j<f->da (rf j) c=false })
  (fun s=>⟨[(0,.d (az l t)),(4,.sl 1 4 0 n n false),(5,.sl W 1 0 n n false),(8,.d (iD a)),(9,.d (iD c)),(10,.d (iD s.1.2)),(11,.d (iD s.1.1))],Fk n W rf wn wb,nx⟩) (fun s=>if s.1.2<0 then n+1-s.1.1 else 0) ⟨(a,-1),.inl ⟨rfl,cF _,ha,fun j h1 h2=>by omega⟩⟩ ?_ ?_ ?_
 ·exact lg hw hn ⟨⟨he.e0,rfl⟩,⟨he.e4,pD hn.one⟩,⟨he.e5,pE hn.wlt⟩,⟨he.e8,rfl⟩,⟨he.e9,rfl⟩,⟨e10,rfl⟩,⟨e11,rfl⟩,trivial⟩ trivial
 ·exact ar
 ·rintro⟨⟨i,r⟩,hir⟩ A hA;dsimp only at hir hA⊢;have hh:=wN (rf:=rf) (wb:=wb) hn;generalize Fk n W rf wn wb=h0 at hh⊢;subst hl;have g1:=hh.g1;rcases hir with⟨rfl,h1,h2,h3⟩|⟨f,rfl,rfl,h1,h2,h3,h4⟩
  ·have e1:aD .i64 (i:Int) 1=((i+1:Nat):Int):=by rw[rj qad qad];rfl
   rcases wa1 i l.length with hi|hge
   rotate_left
   ·conv=>whnf
    repeat' first|(intro t ht;cases t<;>conv=>whnf)
    ·exact hk (-1) _ _ (.inl ⟨rfl,fun j a1 a2=>h3 j a1 qad⟩) hh ⟨rfl,rfl,rfl,rfl,rfl⟩ rfl
    all_goals (exfalso;simp_all;try omega)
   conv=>whnf
   repeat' first|((first|refine O6.mk _ (by first|rfl|(simp only[jj,gx];exact dx hi)) ?_|refine aJ qc0 ?_|fail);conv=>whnf)|(refine cc (zT (rf i) (c:Int) qad qad) ?_)|(rw[g1];conv=>whnf)|(intro t ht;cases t<;>conv=>whnf)
   ·exact lQ
   ·exact Fl
   ·refine hA _ ⟨(i+1,-1),.inl ⟨rfl,by show a<=i+1;omega,hi,fun j a1 a2=>?_⟩⟩ (lg hh hn ⟨⟨rfl,rfl⟩,⟨rfl,pD hn.one⟩,⟨rfl,pE hn.wlt⟩,⟨rfl,rfl⟩,⟨rfl,rfl⟩,⟨rfl,rfl⟩,⟨congrArg (fun n=>AV.d (iD n)) e1,rfl⟩,trivial⟩ trivial) (by show(if(-1:Int)<0 then l.length+1-(i+1) else 0)<if(-1:Int)<0 then l.length+1-i else 0;rw[if_pos qaj,if_pos qaj];omega);have a2:j<i+1:=a2;by_cases e:j=i
    ·subst e;exact ht
    ·exact h3 j a1 qad
   ·exact hA _ ⟨(i+1,i),.inr ⟨i,rfl,rfl,h1,hi,ht,fun j a1 a2=>h3 j a1 a2⟩⟩ (lg hh hn ⟨⟨rfl,rfl⟩,⟨rfl,pD hn.one⟩,⟨rfl,pE hn.wlt⟩,⟨rfl,rfl⟩,⟨rfl,rfl⟩,⟨rfl,rfl⟩,⟨congrArg (fun n=>AV.d (iD n)) e1,rfl⟩,trivial⟩ trivial) (by show(if(i:Int)<0 then l.length+1-(i+1) else 0)<if(-1:Int)<0 then l.length+1-i else 0;rw[if_neg qad,if_pos qaj];omega)
  ·conv=>whnf
   repeat' first|(intro t ht;cases t<;>conv=>whnf)
   ·exact qfx
   ·exact qfx
   ·exact lQ
end Go.Tz
namespace Go.Tz
open Go Go.AL Go.Proofs
variable{G:Nat->Option (List D)}
theorem kf{P:Program}{n b:Nat}{ms:List Nat}{c:Code}{st:St}{k:Exit->St->Prop}(h:P2 P G n b ms c st fun e s=>∃ s',Sub G b ms s s'/\k e s'):P2 P G n b ms c st k:=by
 refine⟨fun r=>?_⟩;intro X C a hR hX;cases h with
 | mk h =>
  refine wpIn_mono (h r X C a hR hX) ?_;rintro e a' w' ⟨st',ms',C',rfl,⟨hm,s',hs,hk⟩,h3,h4⟩;subst hm;obtain⟨C'',e1,r1,t1⟩:=hs _ C' a' h3;exact⟨s',_,C'',e1,⟨rfl,hk⟩,r1,h4.trans (t1 X (xu hX h4))⟩
theorem Bz{b:Nat}{ms:List Nat}{e e':List (Nat×AV)}{h:AHeap}{n:Nat}(he:AllP (fun p:Nat×AV=>lk e p.1=p.2) e'):Sub G b ms ⟨e,h,n⟩ ⟨e',h,n⟩:=by
 intro k C a hR;refine⟨C,rfl,⟨hR.heap,⟨hR.env.size,fun t=>?_⟩,hR.names,hR.marks,hR.defers⟩,fun X hX=>Tr.refl fun m hm=>(hX m hm).1⟩;rcases Gh (e:=e') (t:=t) with q|q
 ·show O9 C (lk e' t) _;rw[q];exact .top _
 ·have:=he.mem _ q;have h2:=hR.env.env t;show O9 C (lk e' t) _;have h2:O9 C (lk e t) (a.tmps.getD t undef):=h2;simp only at this;rw[this]at h2;exact h2
abbrev Vi(l:List Ps)(t:Bool)(n W a c:Nat):List (Nat×AV):=[(0,.d (az l t)),(4,.sl 1 4 0 n n false),(5,.sl W 1 0 n n false),(8,.d (iD a)),(9,.d (iD c))]
theorem redA'{l:List Ps}{t:Bool}{k:Exit->St->Prop}{e:List (Nat×AV)}{h:AHeap}{n W nx a c:Nat}{rf:Nat->Ps}{wn:Nat->Nat}{wb:Nat->Nat->Bool}(hl:l.length=n)(hbig:n<=1000)(ha:a<=n)(hc:c<1000)(hw:HW h n W rf wn wb)(hn:NW n W nx wn)
  (he:EV l t n W a c e) (e10:lk e 10 = .d (iD (-1))) (e11:lk e 11 = .d (iD a))
  (hk:∀ r h',FND rf n c a r->HW h' n W rf wn wb->k (.exit 4) ⟨(10,.d (iD r))::Vi l t n W a c,h',nx⟩):P2 Pr G 155 0 [] cA ⟨e,h,nx⟩ k :=
 kf (redA hl hbig ha hc hw hn he e10 e11 fun r e' h' q1 q2 q3 q4=>⟨⟨(10,.d (iD r))::Vi l t n W a c,h',nx⟩,Bz ⟨q4,q3.e0,q3.e4,q3.e5,q3.e8,q3.e9,trivial⟩,hk r h' q1 q2⟩)
theorem redC'{l:List Ps}{t:Bool}{k:Exit->St->Prop}{e:List (Nat×AV)}{h:AHeap}{n W nx a c:Nat}{w0:Int}{rf:Nat->Ps}{wn:Nat->Nat}{wb:Nat->Nat->Bool}(hl:l.length=n)(hbig:n<=1000)(ha:a<n)(hc:c<1000)(hw:HW h n W rf wn wb)(hn:NW n W nx wn)(hd:WD n w0 rf)
  (he:EV l t n W a c e) (e12:lk e 12 = .d (iD 0)) (hk:∀ h',HW h' n W (bO rf a c n) wn (gZ rf wb n a c n)->k (.exit 6) ⟨Vi l t n W a c,h',nx⟩):P2 Pr G 155 0 [] cC ⟨e,h,nx⟩ k :=
 kf (redC hl hbig ha hc hw hn hd he e12 fun e' h' q1 q3=>⟨⟨Vi l t n W a c,h',nx⟩,Bz ⟨q3.e0,q3.e4,q3.e5,q3.e8,q3.e9,trivial⟩,hk h' q1⟩)
def bn{α:Type}(f:Nat->α)(a b:Nat):Nat->α:=fun j=>if j=a then f b else if j=b then f a else f j
theorem BB{n W nx a f:Nat}{wn:Nat->Nat}(h:NW n W nx wn)(ha:a<n)(hf:f<n):NW n W nx (bn wn a f):=by
 have at':∀ j,j<n->∃ j',j'<n/\bn wn a f j=wn j':=fun j hj=>by
  unfold bn;split
  ·exact⟨f,hf,rfl⟩
  ·split
   ·exact⟨a,ha,rfl⟩
   ·exact⟨j,hj,rfl⟩
 refine⟨h.one,h.w1,h.wlt,fun i j hi hj he=>?_,fun j hj=>?_,fun j hj=>?_,fun j hj=>?_⟩
 ·unfold bn at he;have:=h.inj;split at he<;>split at he<;>(try split at he)<;>(try split at he)<;>first|omega|(have:=this _ _ qad qad he;omega)
 ·obtain⟨j',h1,h2⟩:=at' j hj;rw[h2];exact h.ne1 j' h1
 ·obtain⟨j',h1,h2⟩:=at' j hj;rw[h2];exact h.neW j' h1
 ·obtain⟨j',h1,h2⟩:=at' j hj;rw[h2];exact h.lt j' h1
theorem JO{n a f:Nat}{w0:Int}{rf:Nat->Ps}(h:WD n w0 rf)(ha:a<n)(hf:f<n):WD n w0 (bn rf a f):=by
 refine⟨fun j hj=>?_,h.lo,h.hi⟩;unfold bn;split
 ·exact h.w f hf
 ·split
  ·exact h.w a ha
  ·exact h.w j hj
def Ps.z0:Ps:=⟨0,0,0,0⟩
def kS(rf:Nat->Ps)(n c a:Nat):Option Nat:=(List.range n).find? fun j=>decide (a<=j)&&da (rf j) c
theorem Vj{rf:Nat->Ps}{n c a:Nat}{r:Int}(h:FND rf n c a r):(r = -1/\kS rf n c a=none) \/ ∃ f:Nat,r=f/\a<=f/\f<n/\kS rf n c a=some f:=by
 rcases h with⟨h1,h2⟩|⟨f,h1,h2,h3,h4,h5⟩
 ·left;refine⟨h1,?_⟩;unfold kS;rw[QG];intro j hj;have:=cJ.1 hj;by_cases e:a<=j
  ·simp[h2 j e this]
  ·simp[e]
 ·right;refine⟨f,h1,h2,h3,?_⟩;unfold kS;rw[wdh];refine⟨by simp[h2,h4],cJ.2 h3,fun j hj=>?_⟩;by_cases e:a<=j
  ·simp[h5 j e hj]
  ·simp[e]
abbrev RS:=(Nat->Ps)×(Nat->Nat->Bool)×Nat
def wj(n c:Nat)(s:RS):RS:=match kS s.1 n c s.2.2 with
 | none=>s
 | some f=>(bO (bn s.1 s.2.2 f) s.2.2 c n,gZ (bn s.1 s.2.2 f) (bn s.2.1 s.2.2 f) n s.2.2 c n,s.2.2+1)
def aG(l:List Ps):Nat->RS
 | 0=>(fun j=>l.getD j Ps.z0,fun j q=>q==j,0)
 | c+1=>wj l.length c (aG l c)
noncomputable def cB:Code:=fa Tryz.f100 1
theorem AC{l:List Ps}(h:0<l.length):(l.map Ps.l)[(0:Int).toNat]?=some (l[0]).l:=GJ
theorem Bm{l:List Ps}{w0:Int}(hw:∀ q,q∈l->q.w=w0)(h1:1<=w0)(h2:w0<=12):∀ c,WD l.length w0 (aG l c).1/\(aG l c).2.2<=l.length
 | 0=>⟨⟨fun j hj=>by simp only[aG,jI,ew hj,Hw];exact hw _ (ey hj),h1,h2⟩,dW _⟩
 | c+1=>by
  obtain⟨q1,q2⟩:=Bm hw h1 h2 c;simp only[aG,wj];split
  ·exact⟨q1,q2⟩
  ·rename_i f hf;unfold kS at hf;rw[wdh]at hf;obtain⟨p1,p2,_⟩:=hf;have p2:=cJ.1 p2;have p3:(aG l c).2.2<=f:=by simp at p1;exact p1.1
   have p4:(aG l c).2.2<l.length:=qad;exact⟨⟨fun j hj=>Yk (JO q1 p4 p2).w _ _ _ j hj,h1,h2⟩,p4⟩
theorem redB{l:List Ps}{t:Bool}{k:Exit->St->Prop}{e:List (Nat×AV)}{h:AHeap}{n nx:Nat}{w0:Int}{wn:Nat->Nat}(hl:l.length=n)(hbig:n<=1000)(hpos:0<n)(hww:∀ q,q∈l->q.w=w0)(hw1:1<=w0)(hw2:w0<=12)
  (hw:HW h n 2 (aG l 0).1 wn (aG l 0).2.1) (hn:NW n 2 nx wn) (he:EV l t n 2 0 0 e)
  (hk:∀ e' h' wn',NW n 2 nx wn'->HW h' n 2 (aG l (2*w0.toNat)).1 wn' (aG l (2*w0.toNat)).2.1->EV l t n 2 (aG l (2*w0.toNat)).2.2 (2*w0.toNat) e'->k (.exit 2) ⟨e',h',nx⟩) :
  P2 Pr G 155 0 [] cB ⟨e,h,nx⟩ k:=by
 refine fy (σ:={ p:Nat×(Nat->Nat) // p.1<=2*w0.toNat/\NW n 2 nx p.2 }) (fun s=>⟨Vi l t n 2 (aG l s.1.1).2.2 s.1.1,Fk n 2 (aG l s.1.1).1 s.1.2 (aG l s.1.1).2.1,nx⟩) (fun s=>2*w0.toNat-s.1.1) ⟨(0,wn),dW _,hn⟩ ?_ ?_ ?_
 ·exact lg hw hn ⟨⟨he.e0,rfl⟩,⟨he.e4,pD hn.one⟩,⟨he.e5,pE hn.wlt⟩,⟨he.e8,rfl⟩,⟨he.e9,rfl⟩,trivial⟩ trivial
 ·exact ar
 ·rintro⟨⟨c,wn⟩,hc,hn⟩ A hA;dsimp only at hc hn hA⊢;obtain⟨hd,hat⟩:=Bm hww hw1 hw2 c;subst hl;have hS:aG l (c+1)=wj l.length c (aG l c):=rfl;have hh:=wN (rf:=(aG l c).1) (wb:=(aG l c).2.1) hn;generalize Fk l.length 2 (aG l c).1 wn (aG l c).2.1=h0 at hh⊢;have e1:aD .i64 (c:Int) 1=((c+1:Nat):Int):=GI;have hl0:(l[0]).w=w0:=hww _ (ey hpos);have e2:fH .i64 2 (l[0]).w=2*w0:=by rw[hl0,IX qad qad]
  rcases wa1 c (2*w0.toNat) with hlt|hge
  rotate_left
  ·have hcc:c=2*w0.toNat:=by omega
   subst hcc;conv=>whnf
   repeat' first|((first|refine O6.mk _ (by first|rfl|exact AC hpos) ?_|refine aJ qgu ?_|fail);conv=>whnf)|(intro t ht;cases t<;>conv=>whnf)
   ·exact qg5
   ·exact hk _ _ wn hn hh ⟨rfl,rfl,rfl,rfl,rfl⟩
   ·exfalso;rw[e2]at ht;simp at ht;omega
  conv=>whnf
  repeat' first|((first|refine O6.mk _ (by first|rfl|exact AC hpos) ?_|refine aJ qgu ?_|fail);conv=>whnf)|(intro t ht;cases t<;>conv=>whnf)
  ·exact qg5
  ·exfalso;rw[e2]at ht;simp at ht;omega
  refine redA' rfl hbig hat qad hh hn ⟨rfl,rfl,rfl,rfl,rfl⟩ rfl rfl fun r h1 hf hw=>?_;have hfo:=Vj hf;generalize aG l c=S at *;obtain⟨rf,wb,a⟩:=S;dsimp only at *;rcases hfo with⟨rfl,hfo⟩|⟨f,rfl,hf1,hf2,hfo⟩
  ·conv=>whnf
   repeat' first|(intro t ht;cases t<;>conv=>whnf)
   ·exact Fl
   ·refine hA _ ⟨(c+1,wn),hlt,hn⟩ ?_ qhl;dsimp only;rw[hS];simp only[wj,hfo];exact lg hw hn ⟨⟨rfl,rfl⟩,⟨rfl,pD hn.one⟩,⟨rfl,pE hn.wlt⟩,⟨rfl,rfl⟩,⟨congrArg (fun n=>AV.d (iD n)) e1,rfl⟩,trivial⟩ trivial
  have ha:a<l.length:=qad;have g1:=hw.g1;have hb1:Nat.blt 1 nx=true:=by simpa using hn.one
  conv=>whnf
  repeat' first|((first|refine O6.mk _ qb0 ?_|refine O8.mk _ qb1 ?_|refine aJ (by first|assumption|exact⟨by kernel_rfl,hb1⟩|decide|omega|exact⟨mf _,by simp;omega⟩) ?_|rw[zn rfl g1]);conv=>whnf)|(intro t ht;cases t<;>conv=>whnf)
  rotate_left
  ·exact lQ
  refine HpP.other fun h2 f0=>?_;have q1:h2.get 1=some (qR l.length fun j=>if j=a then rf f else rf j):=by
   rw[f0];simp only[dS,List.foldl,wr,uV];rw[ao];unfold qR;congr 2;apply xX;intro j _;by_cases e:j=a
   ·simp[e];rfl
   ·simp[e]
  have q2:∀ m,m≠1->h2.get m=h1.get m:=fun m hm=>by
   rw[f0];simp only[dS,List.foldl,wr,uV];rw[ai _ _ hm]
  clear f0;conv=>whnf
  repeat' first|((first|refine O6.mk _ qb0 ?_|refine O8.mk _ qb1 ?_|rw[q1]);conv=>whnf)
  refine HpP.other fun h3 f0=>?_;have r1:h3.get 1=some (qR l.length (bn rf a f)):=by
   rw[f0,cM,ao];unfold qR;congr 2;apply xX;intro j _;unfold bn;by_cases e:j=f
   ·subst e;by_cases e2:j=a
    ·subst e2;simp;rfl
    ·simp[e2];rfl
   ·by_cases e2:j=a
    ·subst e2;simp[e]
    ·simp[e,e2]
  have r2:∀ m,m≠1->h3.get m=h1.get m:=fun m hm=>by
   rw[f0,cM,ai _ _ hm];exact q2 m hm
  clear f0;have g2:h3.get 2=some (yG l.length wn l.length):=(r2 2 qaj).trans hw.g2;have hb2:Nat.blt 2 nx=true:=by simpa using hn.wlt
  conv=>whnf
  repeat' first|((first|refine O6.mk _ qb0 ?_|refine O8.mk _ qb1 ?_|refine aJ (by first|assumption|exact⟨by kernel_rfl,hb1⟩|exact⟨by kernel_rfl,hb2⟩|decide|omega|exact⟨mf _,by simp;omega⟩) ?_|rw[zn rfl g2]);conv=>whnf)
  refine HpP.other fun h4 f0=>?_;have s1:h4.get 2=some (yG l.length (fun j=>if j=a then wn f else wn j) l.length):=by
   rw[f0];simp only[dS,List.foldl,wr,uV];rw[ao];unfold yG;congr 2;apply xX;intro j _;by_cases e:j=a
   ·simp[e]
   ·simp[e]
  have s2:∀ m,m≠2->h4.get m=h3.get m:=fun m hm=>by
   rw[f0];simp only[dS,List.foldl,wr,uV];rw[ai _ _ hm]
  clear f0;conv=>whnf
  repeat' first|((first|refine O6.mk _ qb0 ?_|refine O8.mk _ qb1 ?_|rw[s1]);conv=>whnf)
  refine HpP.other fun h5 f0=>?_;have t1:h5.get 2=some (yG l.length (bn wn a f) l.length):=by
   rw[f0,cM,ao];unfold yG;congr 2;apply xX;intro j _;unfold bn;by_cases e:j=f
   ·subst e;by_cases e2:j=a
    ·subst e2;simp
    ·simp[e2]
   ·by_cases e2:j=a
    ·subst e2;simp[e]
    ·simp[e,e2]
  have t2:∀ m,m≠2->h5.get m=h3.get m:=fun m hm=>by
   rw[f0,cM,ai _ _ hm];exact s2 m hm
  clear f0;have hw5:HW h5 l.length 2 (bn rf a f) (bn wn a f) (bn wb a f):=by
   refine⟨(t2 1 qaj).trans r1,t1,fun j hj=>?_⟩;have hold:∀ j',j'<l.length->h5.get (wn j')=some (CE l.length (wb j')):=fun j' hj'=>by
    rw[t2 _ (hn.neW j' hj'),r2 _ (hn.ne1 j' hj')];exact hw.g3 j' hj'
   unfold bn;split
   ·exact hold f hf2
   ·split
    ·exact hold a ha
    ·exact hold j hj
  conv=>whnf
  skip;have hd5:WD l.length w0 (bn rf a f):=JO hd ha hf2;refine redC' rfl hbig ha qad hw5 (BB hn ha hf2) hd5 ⟨rfl,rfl,rfl,rfl,rfl⟩ rfl fun h6 hw6=>?_;have e3:aD .i64 (a:Int) 1=((a+1:Nat):Int):=GI;conv=>whnf
  skip;refine hA _ ⟨(c+1,bn wn a f),hlt,BB hn ha hf2⟩ ?_ qhl;dsimp only;rw[hS];simp only[wj,hfo];exact lg hw6 (BB hn ha hf2) ⟨⟨rfl,rfl⟩,⟨rfl,pD hn.one⟩,⟨rfl,pE hn.wlt⟩,⟨congrArg (fun n=>AV.d (iD n)) e3,rfl⟩,⟨congrArg (fun n=>AV.d (iD n)) e1,rfl⟩,trivial⟩ trivial
end Go.Tz
namespace Go.Tz
open Go Go.AL Go.Proofs
variable{G:Nat->Option (List D)}
theorem PH(l:List Ps):Blk.arr 4 (pO l)=qR l.length (aG l 0).1:=by
 unfold qR pO;congr 1;apply Hx
 ·exact aR
 ·intro k h1 h2;simp at h1;simp[aG,h1]
noncomputable def c0:Code:=fa Tryz.f100 0
theorem red0{l:List Ps}{t:Bool}{k:Exit->St->Prop}{e:List (Nat×AV)}{h:AHeap}(hn:l.length<=1000)(e0:lk e 0 = .d (az l t))(e4:lk e 4 = .sl 1 4 0 l.length l.length false)(e5:lk e 5 = .d (.sl [] true))(e6:lk e 6 = .d (iD 0))(hg:h.get 1=some (.arr 4 (pO l)))
  (hk:∀ e' h',AHeap.get h' 1=some (.arr 4 (pO l))->AHeap.get h' (3*l.length+2)=some (yG l.length (fun j=>3*j+3) l.length)->(∀ j,j<l.length->AHeap.get h' (3*j+3)=some (CE l.length fun q=>q==j)) ->
   lk e' 0 = .d (az l t)->lk e' 4 = .sl 1 4 0 l.length l.length false->lk e' 5 = .sl (3*l.length+2) 1 0 l.length l.length false->k (.exit 0) ⟨e',h',3*l.length+3⟩):P2 Pr G 155 0 [] c0 ⟨e,h,2⟩ k:=by
 refine gJ pok (σ:={ i:Nat // i<=l.length }) (fun s=>⟨[(0,.d (az l t)),(4,.sl 1 4 0 l.length l.length false),(5,.sl (3*s.1+2) 1 0 s.1 s.1 false),(6,.d (iD s.1))],IR l s.1,3*s.1+3⟩) (fun s=>l.length-s.1) ⟨0,by omega⟩ ?_ ?_ ?_
 ·refine(fB (t:=5) (S:=1) (dW _) e5).trans (ah (dW _) ⟨⟨?_,rfl⟩,⟨?_,rfl⟩,⟨rfl,rfl⟩,⟨?_,rfl⟩,trivial⟩ ⟨⟨di rfl,_,rfl,?_,pZ l _⟩,⟨di rfl,_,rfl,rfl,qP (fun j hj=>absurd hj (Nat.not_lt_zero j))⟩,trivial⟩ trivial)
  ·exact(aV _ _ (show(0:Nat)≠5 by decide)).trans e0
  ·exact(aV _ _ (show(4:Nat)≠5 by decide)).trans e4
  ·exact(aV _ _ (show(6:Nat)≠5 by decide)).trans e6
  ·exact(ai _ _ (show(1:Nat)≠2 by decide)).trans hg
 ·exact ar
 ·rintro⟨i,hi⟩;dsimp only;have e1:aD .i64 (i:Int) 1=((i+1:Nat):Int):=GI;have g1:(IR l i).get 1=some (.arr 4 (pO l)):=rfl;have g2:(IR l i).get (3*i+2)=some (yG l.length (fun j=>3*j+3) i):=by
   unfold IR;rw[bB,if_neg qad,bB,if_pos rfl]
  have g3:∀ j,j<i->(IR l i).get (3*j+3)=some (CE l.length fun q=>q==j):=fun j hj=>by
   unfold IR;rw[bB,if_neg qad,bB,if_neg qad];exact zd (nm:=fun j=>3*j+3) (bl:=fun j=>CE l.length fun q=>q==j) (fun a b _ _ h=>by omega) hj
  generalize IR l i=h at g1 g2 g3⊢;rcases wa1 i l.length with hlt|hge
  rotate_left
  ·conv=>whnf
   repeat' first|(intro t ht;cases t<;>conv=>whnf)
   ·have hin:i=l.length:=by omega
    subst hin;exact hk _ h g1 g2 g3 rfl rfl rfl
   ·exact lQ
  have hW:3*i+2≠3*i+3:=qad;have hW1:3*i+2≠3*i+3+1:=qad;generalize hWe:3*i+2=W at hW hW1 g2⊢;generalize hXe:3*i+3=X at hW hW1⊢;conv=>whnf
  repeat' first|((first|refine O6.mk _ (by first|rfl|(simp only[jj,gx];exact dx hlt)) ?_|refine O8.mk _ (by first|(simp only[ef,gx];exact JD _)|(simp only[jj,gx];exact lV hlt)|rfl) ?_|refine aJ (by first|assumption|decide|omega|exact⟨by omega,rfl,by show 1*_<=_;simp;omega,by decide,by decide⟩|exact⟨by simp[yG],by decide,by simp;omega⟩|exact⟨mf _,by simp;omega⟩) ?_|rw[ao]);conv=>whnf)|(intro t ht;cases t<;>conv=>whnf)
  ·exact bu
  refine HpP.other fun h2 f=>?_;have q1:h2.get X=some (CE l.length fun q=>q==i):=by
   rw[f,cM,ao];unfold CE;congr 2;apply xX;intro j _;by_cases e:j=i
   ·subst e;simp[bU,fU,ml]
   ·simp[e]
  have q2:∀ m,m≠X->h2.get m=h.get m:=fun m hm=>by rw[f,cM,ai _ _ hm,ai _ _ hm]
  clear f;have q3:h2.get W=some (yG l.length (fun j=>3*j+3) i):=(q2 W hW).trans g2;have q4:∀ b,AHeap.get ((X+1,b)::h2) W=some (yG l.length (fun j=>3*j+3) i):=fun b=>(ai _ _ hW1).trans q3;conv=>whnf
  repeat' first|((first|refine O8.mk _ aK ?_|(refine aJ (by first|assumption|decide|omega|exact(show 1<=1 from cF 1)|exact⟨by simp[yG],by decide,by simp;omega⟩) ?_)|rw[ao]|rw[q4]|rw[hJ]);conv=>whnf)
  refine HpP.other fun h3 f=>?_;have r1:h3.get (X+2)=some (yG l.length (fun j=>3*j+3) (i+1)):=by
   rw[f,cM,ao];unfold yG;rw[Fa,nh];simp[hXe];rfl
  have r0:∀ m,m≠X+2->m≠W->m≠X+1->h3.get m=h2.get m:=fun m m1 m2 m3=>by
   rw[f,cM,ai _ _ m1,dD,if_neg m2,ai _ _ m3]
  clear f;conv=>whnf
  skip;subst hXe hWe;refine .mk ⟨i+1,hlt⟩ (ah (dW _) ⟨⟨rfl,rfl⟩,⟨rfl,rfl⟩,⟨?_,?_⟩,⟨congrArg (fun n=>AV.d (iD n)) e1,rfl⟩,trivial⟩ ⟨⟨by show 1<3*(i+1)+3;omega,_,rfl,?_,?_⟩,⟨by show 3*(i+1)+2<3*(i+1)+3;omega,_,rfl,?_,?_⟩,nH fun j hj=>?_⟩ trivial) qdo
  ·rfl
  ·show Nat.blt (3*(i+1)+2) (3*(i+1)+3)=true;simp
  ·show h3.get 1=_;rw[r0 1 qad qad qad,q2 1 qad];exact g1
  ·exact pZ l _
  ·exact r1
  ·exact qP (fun j hj=>by have hj:j<i+1:=hj;show 3*j+3<3*(i+1)+3;omega)
  ·have hj:j<i+1:=cJ.1 hj;refine⟨by show 3*j+3<3*(i+1)+3;omega,_,rfl,?_,sN _ _ _⟩;show h3.get (3*j+3)=_;rw[r0 _ qad qad qad];by_cases e:j=i
   ·subst e;exact q1
   ·rw[q2 _ qad];exact g3 j qad
theorem redB'{l:List Ps}{t:Bool}{k:Exit->St->Prop}{e:List (Nat×AV)}{h:AHeap}{n nx:Nat}{w0:Int}{wn:Nat->Nat}(hl:l.length=n)(hbig:n<=1000)(hpos:0<n)(hww:∀ q,q∈l->q.w=w0)(hw1:1<=w0)(hw2:w0<=12)
  (hw:HW h n 2 (aG l 0).1 wn (aG l 0).2.1) (hn:NW n 2 nx wn) (he:EV l t n 2 0 0 e)
  (hk:∀ h' wn',NW n 2 nx wn'->HW h' n 2 (aG l (2*w0.toNat)).1 wn' (aG l (2*w0.toNat)).2.1->k (.exit 2) ⟨Vi l t n 2 (aG l (2*w0.toNat)).2.2 (2*w0.toNat),h',nx⟩):P2 Pr G 155 0 [] cB ⟨e,h,nx⟩ k :=
 kf (redB hl hbig hpos hww hw1 hw2 hw hn he fun e' h' wn' q1 q2 q3=>⟨⟨Vi l t n 2 (aG l (2*w0.toNat)).2.2 (2*w0.toNat),h',nx⟩,Bz ⟨q3.e0,q3.e4,q3.e5,q3.e8,q3.e9,trivial⟩,hk h' wn' q1 q2⟩)
theorem iw{P:Program}{n b:Nat}{ms:List Nat}{c:Code}{st st':St}{k:Exit->St->Prop}(hs:Sub G b ms st st')(h:P2 P G n b ms c st' k):P2 P G n b ms c st k:=by
 cases h with
 | mk h=>exact⟨fun r=>zS hs (h r)⟩
theorem Py(ρ:Nat->Nat)(n:Nat)(wn:Nat->Nat)(h:∀ j,j<n->ρ (wn j)=wn j):(yG n wn n).ren ρ=yG n wn n:=by
 unfold yG;simp only[Blk.ren,pU];congr 1;apply xX;intro j hj;simp[AV.rens,AV.ren,h j (cJ.1 hj)]
theorem Px(ρ:Nat->Nat)(n:Nat)(rf:Nat->Ps):(qR n rf).ren ρ=qR n rf:=by
 unfold qR;simp only[Blk.ren,pU];congr 1
theorem TQ(ρ:Nat->Nat)(n:Nat)(f:Nat->Bool):(CE n f).ren ρ=CE n f:=by
 unfold CE;simp only[Blk.ren,pU];congr 1
theorem sub_W{l:List Ps}{t:Bool}{e:List (Nat×AV)}{h:AHeap}(g1:h.get 1=some (.arr 4 (pO l)))(g2:h.get (3*l.length+2)=some (yG l.length (fun j=>3*j+3) l.length))(g3:∀ j,j<l.length->h.get (3*j+3)=some (CE l.length fun q=>q==j))
  (e0:lk e 0 = .d (az l t)) (e4:lk e 4 = .sl 1 4 0 l.length l.length false) (e5:lk e 5 = .sl (3*l.length+2) 1 0 l.length l.length false) (e8:lk e 8 = .d (iD 0)) (e9:lk e 9 = .d (iD 0)) :
  Sub G 0 [] ⟨e,h,3*l.length+3⟩ ⟨Vi l t l.length 2 0 0,Fk l.length 2 (aG l 0).1 (fun j=>3*j+3) (aG l 0).2.1,3*l.length+3⟩:=by
 let ρ:Nat->Nat:=fun m=>if m=2 then 3*l.length+2 else m
 have r3:∀ j,ρ (3*j+3)=3*j+3:=fun j=>by show(if _ then _ else _)=_;rw[if_neg qad]
 have r1:ρ 1=1:=rfl;refine pj ρ (fun m h=>by omega) (dW _) ⟨⟨e0,rfl⟩,⟨e4,by simp[AV.bel]⟩,⟨e5,by simp[AV.bel]⟩,⟨e8,rfl⟩,⟨e9,rfl⟩,trivial⟩
  ⟨⟨by show 1<3*l.length+3;omega,_,rfl,?_,vT _ _ _⟩,⟨by show 2<3*l.length+3;omega,_,rfl,?_,qP fun j hj=>by show 3*j+3<3*l.length+3;omega⟩,nH fun j hj=>⟨by have:=cJ.1 hj;show 3*j+3<3*l.length+3;omega,_,rfl,?_,sN _ _ _⟩⟩ ?_ trivial
 ·rw[Px,<- PH];exact g1
 ·rw[Py ρ _ _ fun j _=>r3 j];exact g2
 ·rw[TQ];show h.get (ρ (3*j+3))=_;rw[r3];exact g3 j (cJ.1 hj)
 ·have names:∀ p,p∈Fk l.length 2 (aG l 0).1 (fun j=>3*j+3) (aG l 0).2.1->p.1=1\/p.1=2 \/ ∃ j,j<l.length/\p.1=3*j+3:=by
   intro p hp;unfold Fk at hp;rcases jJ.1 hp with rfl|hp
   ·exact .inl rfl
   rcases jJ.1 hp with rfl|hp
   ·exact .inr (.inl rfl)
   obtain⟨j,hj,rfl⟩:=bm.1 hp;exact .inr (.inr ⟨j,cJ.1 hj,rfl⟩)
  have all:∀{α:Type} {f:α->Prop} {l:List α},(∀ a,a∈l->f a)->AllP f l:=fun{α} {f} {l} h=>by
   have:=nH (f:=f) (g:=fun a:α=>a) (l:=l) h;simpa using this
  refine all fun p hp=>all fun q hq=>?_;have key:∀ m,ρ m=if m=2 then 3*l.length+2 else m:=fun _=>rfl
  rw[key,key];rcases names p hp with h1|h1|⟨j,hj,h1⟩<;>rcases names q hq with h2|h2|⟨i,hi,h2⟩<;>rw[h1,h2]<;>intro h<;>simp at h⊢<;>omega
theorem red_c(l:List Ps)(t:Bool)(w0:Int)(hn:l.length<=1000)(hpos:0<l.length)(hww:∀ q,q∈l->q.w=w0)(hw1:1<=w0)(hw2:w0<=12):bq Pr G 100 [.d (az l t)] [] 0 fun v H _ =>
  ∃ wn,v = .tup [.sl 1 4 0 l.length l.length false,.sl 2 1 0 l.length l.length false]/\HW H l.length 2 (aG l (2*w0.toNat)).1 wn (aG l (2*w0.toNat)).2.1:=by
 refine bi pok Tryz.func100 Mt ?_;conv=>whnf
 repeat' first|((first|refine O8.mk _ aK ?_|refine aJ (by first|assumption|decide|omega|exact ko l|exact⟨rfl,by decide,by simp only[ef,jj];omega⟩) ?_|rw[rY]|refine HpP.force ?_);conv=>whnf)
 refine iw (st':=⟨[(0,.d (az l t)),(4,.sl 1 4 0 l.length l.length false),(5,.d (.sl [] true)),(6,.d (iD 0))],[(1,some (.arr 4 (pO l)))],2⟩) (ah (dW _) ⟨⟨rfl,rfl⟩,⟨?_,rfl⟩,⟨rfl,rfl⟩,⟨rfl,rfl⟩,trivial⟩ ⟨⟨di rfl,_,rfl,?_,pZ l _⟩,trivial⟩ trivial) (red0 hn rfl rfl rfl rfl rfl fun e' h' g1 g2 g3 e0 e4 e5=>?_)
 ·show AV.sl 1 4 0 (0+(List.map (fun x=>List.map AV.d x) (List.map Ps.l l)).length) (0+(List.map (fun x=>List.map AV.d x) (List.map Ps.l l)).length) false=_;simp
 ·show some (Blk.arr 4 ([]++List.map (fun x=>List.map AV.d x) (List.map Ps.l l)))=_;simp[pO]
 ·have nw:NW l.length 2 (3*l.length+3) (fun j=>3*j+3):=⟨by omega,by decide,by omega,fun i j _ _ h=>by omega,fun j _=>by omega,fun j _=>by omega,fun j hj=>by omega⟩
  conv=>whnf
  skip;refine iw (sub_W g1 g2 g3 e0 e4 e5 rfl rfl) (redB' rfl hn hpos hww hw1 hw2 (wN nw) nw ⟨rfl,rfl,rfl,rfl,rfl⟩ fun h'' wn' q1 q2=>?_);conv=>whnf
  skip;exact fin ⟨wn',rfl,q2⟩
end Go.Tz
namespace Go.Tz
open Go Go.AL Go.Proofs
variable{G:Nat->Option (List D)}
def af(l:List Ps)(c:Nat):List Ps:=(List.range l.length).map fun j=>(aG l c).1 j
def Wf(l:List Ps)(c:Nat):List (List D):=(List.range l.length).map fun j=>[.sl ((List.range l.length).map fun q=>[.bool ((aG l c).2.1 j q)]) true]
theorem GQ(l:List Ps)(t:Bool)(w0:Int)(hn:l.length<=1000)(hpos:0<l.length)(hww:∀ q,q∈l->q.w=w0)(hw1:1<=w0)(hw2:w0<=12) :
  PC Pr G 100 [az l t] (.tup [az (af l (2*w0.toNat)) false,.sl (Wf l (2*w0.toNat)) false]):=by
 refine de (bg Tryz.func100 Mt) (cu (red_c l t w0 hn hpos hww hw1 hw2) ?_);rintro v H k ⟨wn,rfl,hw⟩;generalize 2*w0.toNat=c at hw⊢;refine .tup _ _ rfl fun j v d hv hd=>?_
 match j,hv,hd with
 | 0,hv,hd =>
  simp only[List.getElem?_cons_zero,tU]at hv hd;subst hv hd;have hb:H.get 1=some (.arr 4 (((af l c).map Ps.l).map (·.map AV.d))):=by
   rw[hw.g1];unfold qR af;simp[pU,Function.comp_def]
  have:=dt (lo:=0) (len:=l.length) (room:=l.length) (t:=false) hb qfu;have e:((((af l c).map Ps.l).drop 0).take l.length)=(af l c).map Ps.l:=by
   rw[LQ,pT qfu]
  rw[e]at this;exact this
 | 1,hv,hd =>
  simp only[List.getElem?_cons_succ,List.getElem?_cons_zero,tU]at hv hd;subst hv hd;have hg:=hw.g2;have:=AsD.sl (H:=H) 2 1 0 l.length l.length false _ (Wf l c) hg (by simp[Wf]) (fun i el dl h1 h2=>by
   obtain⟨_,_,rfl⟩:=bm.1 (ye h1);obtain⟨_,_,rfl⟩:=bm.1 (ye h2);rfl) (fun i q el dl v d h1 h2 h3 h4=>by
   have hi:i<l.length:=by have:=(nt.1 h1).1;simpa using this
   rw[dx hi]at h1;unfold Wf at h2;rw[dx hi]at h2;cases h1;cases h2;cases q with
   | succ q=>simp at h3
   | zero =>
    simp at h3 h4;subst h3 h4;have hb:H.get (wn i)=some (.arr 1 (((List.range l.length).map fun p=>[D.bool ((aG l c).2.1 i p)]).map (·.map AV.d))):=by
     rw[hw.g3 i hi];unfold CE;simp[pU,Function.comp_def]
    have:=dt (lo:=0) (len:=l.length) (room:=l.length) (t:=true) hb aR;rw[LQ,pT aR]at this;simpa using this) aR
  have e:((Wf l c).drop 0).take l.length=Wf l c:=by rw[LQ,pT (by simp[Wf])]
  rw[e]at this;exact this
 | j+2,hv,_=>simp at hv
end Go.Tz
namespace Go.Tz
open Go Go.AL Go.Proofs
variable{G:Nat->Option (List D)}
theorem KN{l:List Ps}{w0:Int}(hww:∀ q,q∈l->q.w=w0)(hw1:1<=w0)(hw2:w0<=12)(c:Nat):∀ q,q∈af l c->q.w=w0:=by
 intro q hq;obtain⟨j,hj,rfl⟩:=bm.1 hq;exact(Bm hww hw1 hw2 c).1.w j (cJ.1 hj)
theorem cZ(l:List Ps)(c:Nat):(af l c).length=l.length:=qfu
def nc(m:List Ps):Nat:=m.countP fun q=>decide (0<=cX q)
theorem WI:aq Tryz.f104=true:=ar
theorem JA(l:List Ps)(t:Bool)(w0:Int)(hn:l.length<=1000)(hpos:0<l.length)(hww:∀ q,q∈l->q.w=w0)(hw1:1<=w0)(hw2:w0<=12) :
  PC Pr G 104 [az l t] (iD (nc (af l (2*w0.toNat)))):=by
 have hm:=KN hww hw1 hw2 (2*w0.toNat);have hml:=cZ l (2*w0.toNat);have hred:=GQ (G:=G) l t w0 hn hpos hww hw1 hw2;generalize af l (2*w0.toNat)=m at hm hml hred⊢;generalize Wf l (2*w0.toNat)=wd at hred;refine ae pok Tryz.func104 WI ?_;conv=>whnf
 repeat' first|(refine aa hred ?_;conv=>whnf)
 refine fy (σ:={ i:Nat // i<=m.length }) (fun s=>⟨[(3,.d (az m false)),(5,.d (iD ((m.take s.1).countP fun q=>decide (0<=cX q):Nat))),(6,.d (iD s.1))],[],0⟩) (fun s=>m.length-s.1) ⟨0,dW _⟩ ?_ ?_ ?_
 ·exact ah (dW _) ⟨⟨rfl,rfl⟩,⟨rfl,rfl⟩,⟨rfl,rfl⟩,trivial⟩ trivial trivial
 ·exact ar
 ·rintro⟨i,hi⟩ A hA;dsimp only at hi hA⊢;have e1:aD .i64 (i:Int) 1=((i+1:Nat):Int):=GI;rcases wa1 i m.length with hlt|hge
  rotate_left
  ·have hii:i=m.length:=by omega
   subst hii;conv=>whnf
   repeat' first|((first|refine aJ ci ?_|fail);conv=>whnf)|(intro t ht;cases t<;>conv=>whnf)
   ·refine fin ?_;rw[pS];rfl
   ·exact Fl
  have hc:(m.take i).countP (fun q=>decide (0<=cX q))<=i:=by
   have:=wdp (p:=fun q=>decide (0<=cX q)) (l:=m.take i);rw[BZ]at this;omega
  have hs:(m.take (i+1)).countP (fun q=>decide (0<=cX q))=(m.take i).countP (fun q=>decide (0<=cX q))+(if 0<=cX m[i] then 1 else 0):=by
   rw[aC hlt,QY];simp[wdo]
  have hw:1<=(m[i]).w/\(m[i]).w<=24:=by rw[hm _ (ey hlt)];omega
  conv=>whnf
  repeat' first|((first|refine O6.mk _ qdx ?_|refine aJ ci ?_|refine aa (Jd m[i] hw) ?_);conv=>whnf)|(intro t ht;cases t<;>conv=>whnf)
  ·exact lQ
  ·simp at ht;refine hA _ ⟨i+1,hlt⟩ (ah (dW _) ⟨⟨rfl,rfl⟩,⟨?_,rfl⟩,⟨congrArg (fun n=>AV.d (iD n)) e1,rfl⟩,trivial⟩ trivial trivial) (by show m.length-(i+1)<m.length-i;omega);show AV.d (iD _)=AV.d (iD _);rw[hs,if_neg qad];rfl
  ·simp at ht;refine hA _ ⟨i+1,hlt⟩ (ah (dW _) ⟨⟨rfl,rfl⟩,⟨?_,rfl⟩,⟨congrArg (fun n=>AV.d (iD n)) e1,rfl⟩,trivial⟩ trivial trivial) (by show m.length-(i+1)<m.length-i;omega);show AV.d (iD (aD .i64 _ 1))=AV.d (iD _);rw[hs,if_pos ht,rj qad qad];rfl
theorem N6:aq Tryz.f90=true:=ar
theorem IY(l:List Ps)(t:Bool)(w0:Int)(hn:l.length<=1000)(hpos:0<l.length)(hww:∀ q,q∈l->q.w=w0)(hw1:1<=w0)(hw2:w0<=12) :
  PC Pr G 90 [az l t] (.bool (decide (nc (af l (2*w0.toNat))=l.length))):=by
 have hr:=JA (G:=G) l t w0 hn hpos hww hw1 hw2;refine ae pok Tryz.func90 N6 ?_;conv=>whnf
 repeat' first|(refine aa hr ?_;conv=>whnf)|(intro t ht;cases t<;>conv=>whnf)
 all_goals refine fin ?_
 all_goals simp at ht
 all_goals simp;omega
theorem L5:aq Tryz.f26=true:=ar
theorem ve(w:Int)(l:List Ps)(t:Bool)(w0:Int)(hn:l.length<=1000)(hpos:0<l.length)(hww:∀ q,q∈l->q.w=w0)(hw1:1<=w0)(hw2:w0<=12) :
  PC Pr G 26 [cf w l t] (cf w (af l (2*w0.toNat)) false):=by
 have hr:=GQ (G:=G) l t w0 hn hpos hww hw1 hw2;refine ae pok Tryz.func26 L5 ?_;conv=>whnf
 repeat' first|((first|refine O6.mk _ rfl ?_|refine O8.mk _ aK ?_|refine aa hr ?_|refine HpP.force ?_);conv=>whnf)
 exact fin rfl
end Go.Tz
namespace Go.Tz
open Go Go.AL Go.Proofs
variable{G:Nat->Option (List D)}
theorem WL:aq Tryz.f111=true:=ar
def dg(q:Ps):Int:=if q.w<1\/q.w>12 then 3 else if q.x<0\/q.z<0\/q.x>=cU .i64 1 q.w\/q.z>=cU .i64 1 q.w then 1 else if q.p<0\/q.p>3 then 3 else 0
theorem iR(q:Ps):PC Pr G 111 [q.d] (iD (dg q)):=by
 refine ae pok Tryz.func111 WL ?_;conv=>whnf
 repeat' first|((first|refine O6.mk _ rfl ?_|refine aJ (by first|assumption|(simp at *;omega)) ?_|refine HpP.force ?_);conv=>whnf)|(intro t ht;cases t<;>conv=>whnf)
 all_goals refine fin ?_
 all_goals refine congrArg (fun n=>AV.d (iD n)) ?_
 all_goals unfold dg
 all_goals simp only[decide_eq_true_eq,decide_eq_false_iff_not]at *
 all_goals repeat' split
 all_goals first|rfl|(exfalso;omega)
theorem Xf:aq Tryz.f141=true:=ar
def nK(q r:Ps):Int:=if dg q≠0 then dg q else if dg r≠0 then dg r else if q.w≠r.w then 7 else 0
theorem HY(q r:Ps):PC Pr G 141 [q.d,r.d] (iD (nK q r)):=by
 have hq:=iR (G:=G) q;have hr:=iR (G:=G) r;have hb:nK q r=if dg q≠0 then dg q else if dg r≠0 then dg r else if q.w≠r.w then 7 else 0:=rfl
 generalize dg q=a at hq hb;generalize dg r=b at hr hb;rw[hb];refine ae pok Tryz.func141 Xf ?_;conv=>whnf
 repeat' first|((first|refine O6.mk _ rfl ?_|refine aa hq ?_|refine aa hr ?_);conv=>whnf)|(intro t ht;cases t<;>conv=>whnf)
 all_goals refine fin ?_
 all_goals refine congrArg (fun n=>AV.d (iD n)) ?_
 all_goals (try simp only[decide_eq_true_eq,decide_eq_false_iff_not]at *)
 all_goals repeat' split
 all_goals first|rfl|(exfalso;omega)|(exfalso;simp at *;omega)
theorem Xk:aq Tryz.f157=true:=ar
theorem tp(q:Ps)(d:D)(n:Int)(hn:0<=n):PC Pr G 157 [.agg [iD q.w,iD q.x,iD q.z,iD q.p,d],iD n] (iD (bj q.x q.z n)):=by
 refine ae pok Tryz.func157 Xk ?_;conv=>whnf
 have hx:=UL q.x n;have hz:=UL q.z n;have hl:bj q.x q.z n=bj q.x q.z n:=rfl;conv at hl=>rhs;unfold bj gY
 rw[hl];repeat' first|((first|refine O6.mk _ rfl ?_|refine O8.mk _ aK ?_|refine aJ LH ?_|fail);conv=>whnf)|fail
 generalize dI .i64 (iX .i64 q.x n) 1=a at hx⊢;generalize dI .i64 (iX .i64 q.z n) 1=b at hz⊢;rcases hx with rfl|rfl<;>rcases hz with rfl|rfl
 all_goals refine aJ qaj ?_
 all_goals conv=>whnf
 repeat' first|((first|refine O6.mk _ rfl ?_|refine HpP.force ?_);conv=>whnf)
 all_goals exact fin rfl
theorem XN:aq Tryz.f212=true:=ar
def db(w n l:Int):Ps:=⟨w,if l=1\/l=2 then cU .i64 1 n else 0,if l=3\/l=2 then cU .i64 1 n else 0,0⟩
theorem lc(w n l:Int)(hn:0<=n):PC Pr G 212 [iD w,iD n,iD l] (db w n l).d:=by
 refine ae pok Tryz.func212 XN ?_;conv=>whnf
 repeat' first|((first|refine O6.mk _ rfl ?_|refine O8.mk _ aK ?_|refine aJ ci ?_|refine HpP.force ?_);conv=>whnf)|(intro t ht;cases t<;>conv=>whnf)
 all_goals refine fin ?_
 all_goals simp_all[db,Ps.l]
end Go.Tz
namespace Go.Tz
open Go Go.AL Go.Proofs
variable{G:Nat->Option (List D)}
theorem Xg:aq Tryz.f142=true:=ar
def uR(x z x' z' n0:Int):Nat->Int×Int×Int
 | 0=>(0,0,n0)
 | k+1=>(Cg .i64 (uR x z x' z' n0 k).1 (db 0 k (LB (bj x z k) (bj x' z' k)).1).x,Cg .i64 (uR x z x' z' n0 k).2.1 (db 0 k (LB (bj x z k) (bj x' z' k)).1).z,
   aD .i64 (uR x z x' z' n0 k).2.2 (LB (bj x z k) (bj x' z' k)).2)
def gw(q r:Ps):Ps:=⟨q.w,(uR q.x q.z r.x r.z (aD .i64 q.p r.p) q.w.toNat).1,(uR q.x q.z r.x r.z (aD .i64 q.p r.p) q.w.toNat).2.1,(uR q.x q.z r.x r.z (aD .i64 q.p r.p) q.w.toNat).2.2.tmod 4⟩
theorem VP:∀(l:List Ps) (q:Ps),(l.foldl gw q).w=q.w
 | [],_=>rfl
 | r::l,q=>VP l (gw q r)
theorem Ds(x z n:Int):0<=bj x z n/\bj x z n<=3:=by
 unfold bj;split<;>(try split)<;>(try split)<;>omega
theorem EN{l:List Ps}{i:Nat}(h:i<l.length)(q:Ps):(l.take (i+1)).foldl gw q=gw ((l.take i).foldl gw q) l[i]:=by
 rw[aC h,Lm];rfl
theorem tL(q:Ps)(l:List Ps)(t:Bool)(hw:0<=q.w/\q.w<=24)(hl:l.length<=1000):PC Pr G 142 [q.d,az l t] (l.foldl gw q).d:=by
 refine ae pok Tryz.func142 Xg ?_;conv=>whnf
 skip;refine ax pok (fun i=>⟨[(2,.ptr 0 4 0 0),(4,.ptr 1 4 0 0),(13,.d (az l t)),(14,.d (iD (l.map Ps.l).length)),(15,.d (iD i))],[(0,some (.arr 4 [((l.take i).foldl gw q).l.map AV.d])),(1,some (.arr 4 [(Ps.l ⟨0,0,0,0⟩).map AV.d]))],2⟩) (l.length) (fun _=>True) (trivial) ?_ ar ?_ ?_
 ·exact nr
 ·intro i A_i h_i I_i N_i;have e_i:aD .i64 (i:Int) 1=((i+1:Nat):Int):=ak eH;have hpw:=VP (l.take i) q;have hsn:=EN h_i q;generalize (l.take i).foldl gw q=g at hpw hsn⊢;conv=>whnf
  repeat' first|((first|refine O6.mk _ TJ ?_|refine O8.mk _ aK ?_|refine aJ ci ?_|refine HpP.force ?_);conv=>whnf)|(intro t ht;cases t<;>conv=>whnf)
  ·exact lQ
  refine ax pok (fun k=>⟨[(2,.ptr 0 4 0 0),(4,.ptr 1 4 0 0),(7,.d (.fn 157 [.agg [iD g.w,iD g.x,iD g.z,iD g.p,.nilf]] [])),(8,.d (.fn 157 [.agg [iD l[i].w,iD l[i].x,iD l[i].z,iD l[i].p,.nilf]] [])),(9,.ptr 3 4 0 0),(13,.d (az l t)),(14,.d (iD (l.map Ps.l).length)),(15,.d (iD i)),(34,.d (iD g.w)),(35,.d (iD k))],[(0,some (.arr 4 [g.l.map AV.d])),(1,some (.arr 4 [(Ps.l ⟨0,0,0,0⟩).map AV.d])),(3,some (.arr 4 [[.d (iD g.w),.d (iD (uR g.x g.z l[i].x l[i].z (aD .i64 g.p l[i].p) k).1),.d (iD (uR g.x g.z l[i].x l[i].z (aD .i64 g.p l[i].p) k).2.1),.d (iD (uR g.x g.z l[i].x l[i].z (aD .i64 g.p l[i].p) k).2.2)]]))],4⟩) (g.w.toNat) (fun _=>True) (trivial) ?_ ar ?_ ?_
  ·exact nr
  ·intro k A_k h_k I_k N_k;have e_k:aD .i64 (k:Int) 1=((k+1:Nat):Int):=ak eH;have hk:0<=(k:Int):=qad;have hp:=zo (G:=G) (Ds g.x g.z k) (Ds l[i].x l[i].z k);conv=>whnf
   repeat' first|((first|refine O6.mk _ rfl ?_|refine O8.mk _ aK ?_|refine aJ ci ?_|refine aa (tp g .nilf k hk) ?_|refine aa (tp l[i] .nilf k hk) ?_|refine aa hp ?_|refine aa (lc _ _ _ hk) ?_|refine HpP.force ?_);conv=>whnf)|(intro t ht;cases t<;>conv=>whnf)
   ·exact lQ
   refine N_k _ ?_ ?_
   ·exact cY
   ·exact I1
  ·intro A_last I_last;conv=>whnf
   repeat' first|((first|refine O6.mk _ rfl ?_|refine O8.mk _ aK ?_|refine aJ ci ?_|refine HpP.force ?_);conv=>whnf)|(intro t ht;cases t<;>conv=>whnf)
   ·exact qjs
   ·exact lQ
 ·exact qij
theorem N1:aq Tryz.f66=true:=ar
def Ox(q r:Ps):D:=.tup [if nK q r=0 then(gw q r).d else(Ps.d ⟨0,0,0,0⟩),iD (nK q r)]
theorem pck_w{q:Ps}(h:dg q=0):1<=q.w/\q.w<=12:=by
 unfold dg at h;split at h
 ·cases h
 ·exact qad
theorem WA{q r:Ps}(h:nK q r=0):1<=q.w/\q.w<=12:=by
 unfold nK at h;split at h
 ·contradiction
 ·rename_i h1;exact pck_w A6
theorem Tl(q r:Ps):PC Pr G 66 [q.d,r.d] (Ox q r):=by
 have hb:=HY (G:=G) q r;have hw:=WA (q:=q) (r:=r);unfold Ox;generalize nK q r=e at hb hw⊢;refine ae pok Tryz.func66 N1 ?_;conv=>whnf
 by_cases he:e=0
 ·subst he;have hw:=hw rfl;repeat' first|((first|refine O6.mk _ rfl ?_|refine O8.mk _ aK ?_|refine aa hb ?_|refine jd (tL q [r] true ⟨by omega,by omega⟩ aR) rfl ?_|refine HpP.force ?_);conv=>whnf)|(intro t ht;cases t<;>conv=>whnf)
  ·exact GL
  ·exact xt
 ·repeat' first|((first|refine O6.mk _ rfl ?_|refine O8.mk _ aK ?_|refine aa hb ?_|refine HpP.force ?_);conv=>whnf)|(intro t ht;cases t<;>conv=>whnf)
  ·exfalso;simp at ht;exact he ht
  ·rw[if_neg he];exact fin rfl
theorem zz(q:Ps)(l:List Ps):List.take ((List.map Ps.l (q::l)).length-Int.toNat 1) (List.drop (Int.toNat 1) (List.map Ps.l (q::l)))=l.map Ps.l:=by
 show List.take ((List.map Ps.l (q::l)).length-1) (List.drop 1 (List.map Ps.l (q::l)))=_;rw[nB,List.drop_one,List.tail_cons];exact pT aR
theorem Xq:aq Tryz.f183=true:=ar
theorem Qf(q:Ps)(l:List Ps)(t:Bool)(hl:l.length<=1000)(hv:∀ i (h:i<l.length),nK ((l.take i).foldl gw q) l[i]=0):PC Pr G 183 [az (q::l) t] (l.foldl gw q).d:=by
 refine ae pok Tryz.func183 Xq ?_;conv=>whnf
 repeat' first|((first|refine O6.mk _ rfl ?_|refine O8.mk _ aK ?_|refine aJ (by first|exact⟨by simp,cF _,ko _⟩|assumption|exact⟨by kernel_rfl,rfl⟩|decide|omega) ?_|refine HpP.force ?_);conv=>whnf)
 refine ax pok (fun i=>⟨[(2,.ptr 0 4 0 0),(3,.ptr 1 4 0 0),(10,.d (az l t)),(11,.d (iD (l.map Ps.l).length)),(12,.d (iD i))],[(0,some (.arr 4 [(Ps.l ⟨0,0,0,0⟩).map AV.d])),(1,some (.arr 4 [((l.take i).foldl gw q).l.map AV.d]))],2⟩) (l.length) (fun _=>True) (trivial) ?_ ar ?_ ?_
 ·refine ah cW ?_ ?_ trivial
  ·repeat' first|exact trivial|refine⟨⟨by first|rfl|assumption|(show AV.d (D.sl (List.take _ _) _)=AV.d (D.sl (l.map Ps.l) t);rw[zz];simp)|(show AV.d (D.int .i64 ((List.take _ _).length:Nat))=_;rw[zz]),rfl⟩,?_⟩
  ·exact lZ
 ·intro i A_i h_i I_i N_i;have e_i:aD .i64 (i:Int) 1=((i+1:Nat):Int):=ak eH;have hsn:=EN h_i q;have hb:=hv i h_i;have hm:=Tl (G:=G) ((l.take i).foldl gw q) l[i];unfold Ox at hm;rw[hb,if_pos rfl]at hm;generalize (l.take i).foldl gw q=g at hsn hm⊢;conv=>whnf
  repeat' first|((first|refine O6.mk _ TJ ?_|refine O8.mk _ aK ?_|refine aJ ci ?_|refine aa hm ?_|refine HpP.force ?_);conv=>whnf)|(intro t ht;cases t<;>conv=>whnf)
  ·exact lQ
  ·exact qjs
 ·exact qij
end Go.Tz
namespace Go.Tz
open Go Go.AL Go.Ma
def mk(w X Z P:Nat):Ps:=⟨w,X,Z,P⟩
def ig:Nat->Nat->Nat
 | 0,_=>0
 | k+1,n=>ig k n+(n.testBit k).toNat
theorem rI:∀ k,ig k 0=0
 | 0=>rfl
 | k+1=>by simp[ig,rI k]
theorem Jt(n:Nat):∀ k,jo k n=decide (ig k n%2=1)
 | 0=>rfl
 | k+1=>by
  simp only[jo,ig,Jt n k];have key:∀(m:Nat) (t:Bool),(decide (m%2=1) != t)=decide ((m+t.toNat)%2=1):=by
   intro m t;have:m%2=0\/m%2=1:=qad;cases t
   ·exact aR
   ·rcases this with h|h
    ·simp[h,Nat.add_mod]
    ·simp[h,Nat.add_mod]
  exact key _ _
theorem oe{w n:Nat}(h:n<2^w):∀ d,ig (w+d) n=ig w n
 | 0=>rfl
 | d+1=>by
  show ig (w+d) n+(n.testBit (w+d)).toNat=_;rw[oe h d,LM (uU h (js qaj qad))];rfl
def ph(a b c d:Bool):Nat:=match a,b,c,d with
 | false,false,_,_=>0
 | _,_,false,false=>0
 | true,false,true,false=>0
 | true,true,true,true=>0
 | false,true,false,true=>0
 | true,false,true,true=>1
 | true,true,false,true=>1
 | false,true,true,false=>1
 | true,true,true,false=>3
 | false,true,true,true=>3
 | true,false,false,true=>3
def DU(X Z X' Z':Nat):Nat->Nat
 | 0=>0
 | k+1=>DU X Z X' Z' k+ph (X.testBit k) (Z.testBit k) (X'.testBit k) (Z'.testBit k)
theorem Gy(X Z X' Z':Nat):∀ k,DU X Z X' Z' k<=3*k
 | 0=>cF _
 | k+1=>by
  have:=Gy X Z X' Z' k;have:ph (X.testBit k) (Z.testBit k) (X'.testBit k) (Z'.testBit k)<=3:=by
   cases X.testBit k<;>cases Z.testBit k<;>cases X'.testBit k<;>cases Z'.testBit k<;>decide
  simp only[DU];omega
theorem Js(X Z X' Z':Nat):∀ k,(DU X Z X' Z' k+ig k ((X^^^X') &&& (Z^^^Z')))%4=(ig k (X &&& Z)+ig k (X' &&& Z')+2*ig k (Z &&& X'))%4
 | 0=>rfl
 | k+1=>by
  have ih:=Js X Z X' Z' k;simp only[DU,ig,Fo,gy]
  revert ih
  generalize DU X Z X' Z' k=a;generalize ig k ((X^^^X') &&& (Z^^^Z'))=b;generalize ig k (X &&& Z)=c;generalize ig k (X' &&& Z')=d;generalize ig k (Z &&& X')=e;intro ih;cases X.testBit k<;>cases Z.testBit k<;>cases X'.testBit k<;>cases Z'.testBit k<;>simp[ph]<;>omega
theorem DV{w X Z X' Z':Nat}(h1:X<2^w)(h2:Z<2^w):∀ d,DU X Z X' Z' (w+d)=DU X Z X' Z' w
 | 0=>rfl
 | d+1=>by
  show DU X Z X' Z' (w+d)+ph (X.testBit (w+d)) (Z.testBit (w+d)) (X'.testBit (w+d)) (Z'.testBit (w+d))=_;have e:∀ n,n<2^w->n.testBit (w+d)=false:=fun n h=>LM (uU h (js qaj qad));rw[DV h1 h2 d,e X h1,e Z h2];rfl
theorem eG{X Z k:Nat}(hX:X<4096)(hZ:Z<4096)(hk:k<=64):bj X Z k=if X.testBit k&&Z.testBit k then 2 else if X.testBit k then 1 else if Z.testBit k then 3 else 0:=by
 unfold bj gY;rw[dX hk qad,dX hk qad];cases X.testBit k<;>cases Z.testBit k<;>simp
theorem wZ(A k:Nat):A%2^(k+1)=A%2^k+2^k*(A.testBit k).toNat:=by
 rw[Rd,Nat.mod_mul,Uu];have:A / 2^k%2=0\/A / 2^k%2=1:=qad;rcases this with h|h<;>simp[h]
theorem QJ{A B k l:Nat}(hk:k<=12)(_hA:A<4096)(_hB:B<4096):ik ((A%2^k:Nat):Int) ((B%2^k:Nat):Int) k l=(((A%2^k+(if l=1\/l=2 then 2^k else 0):Nat):Int),((B%2^k+(if l=2\/l=3 then 2^k else 0):Nat):Int)):=by
 have hp:(2:Nat)^k<=2^12:=js qaj hk;have h1:A%2^k<2^k:=Cm _ (sk k);have h2:B%2^k<2^k:=Cm _ (sk k);have b1:(A%2^k).testBit k=false:=LM h1;have b2:(B%2^k).testBit k=false:=LM h2;have hl:bj ((A%2^k:Nat):Int) ((B%2^k:Nat):Int) k=0:=by
  rw[eG qad qad qad,b1,b2];rfl
 have hb:gY ((B%2^k:Nat):Int) k=0:=by
  unfold gY;rw[dX qad qad,b2];rfl
 unfold ik;rw[hl,hb];have hs:cU .i64 1 (k:Int)=((2^k:Nat):Int):=cq qad;have e1:aD .i64 ((A%2^k:Nat):Int) ((2^k:Nat):Int)=((A%2^k+2^k:Nat):Int):=ak qad;have e2:aD .i64 ((B%2^k:Nat):Int) ((2^k:Nat):Int)=((B%2^k+2^k:Nat):Int):=ak qad;have c1:((l:Int)=1\/(l:Int)=2) ↔ (l=1\/l=2):=qad;have c2:((l:Int)=2\/(l:Int)=3) ↔ (l=2\/l=3):=qad;dsimp only;have d1:¬((0:Int)=1\/(0:Int)=2):=qaj;have d2:¬(0:Int)=1:=qaj;rw[if_neg d1,if_neg d2,hs,e1,e2];simp only[c1,c2];refine Prod.ext ?_ ?_
 ·dsimp only;split<;>rfl
 ·dsimp only;split<;>rfl
def lt(a b c d:Bool):Nat:=match a != c,b != d with
 | true,true=>2
 | true,false=>1
 | false,true=>3
 | false,false=>0
theorem Qo(a b c d:Bool):xP (if a&&b then 2 else if a then 1 else if b then 3 else 0) (if c&&d then 2 else if c then 1 else if d then 3 else 0)=(((ph a b c d:Nat):Int),((lt a b c d:Nat):Int)):=by
 cases a<;>cases b<;>cases c<;>cases d<;>decide
theorem TD(a b c d:Bool):LB (if a&&b then 2 else if a then 1 else if b then 3 else 0) (if c&&d then 2 else if c then 1 else if d then 3 else 0)=(((lt a b c d:Nat):Int),((ph a b c d:Nat):Int)):=by
 cases a<;>cases b<;>cases c<;>cases d<;>decide
theorem lt12(a b c d:Bool):(lt a b c d=1\/lt a b c d=2) ↔ (a != c)=true:=by
 cases a<;>cases b<;>cases c<;>cases d<;>decide
theorem lt23(a b c d:Bool):(lt a b c d=2\/lt a b c d=3) ↔ (b != d)=true:=by
 cases a<;>cases b<;>cases c<;>cases d<;>decide
theorem DD{X Z X' Z' n0:Nat}(h1:X<4096)(h2:Z<4096)(h3:X'<4096)(h4:Z'<4096)(hn:n0<=100):∀{k:Nat},k<=12 ->
  nW X Z X' Z' n0 k=((((X^^^X')%2^k:Nat):Int),(((Z^^^Z')%2^k:Nat):Int),((n0+DU X Z X' Z' k:Nat):Int))
 | 0,_=>by simp[nW,DU,E1]
 | k+1,hk=>by
  have ih:=DD h1 h2 h3 h4 hn (k:=k) qad;have hx:X^^^X'<4096:=pn (n:=12) h1 h3;have hz:Z^^^Z'<4096:=pn (n:=12) h2 h4;have hp:=Gy X Z X' Z' k;have hph:ph (X.testBit k) (Z.testBit k) (X'.testBit k) (Z'.testBit k)<=3:=by
   cases X.testBit k<;>cases Z.testBit k<;>cases X'.testBit k<;>cases Z'.testBit k<;>decide
  simp only[nW,ih,eG h1 h2 (show k<=64 by omega),eG h3 h4 (show k<=64 by omega),Qo];rw[QJ qad hx hz,ak qad];refine Prod.ext ?_ (Prod.ext ?_ ?_)
  ·exact qi7
  ·exact qi6
  ·show((_:Nat):Int)=((_:Nat):Int);simp only[DU];rw[Wa]
theorem EM{X Z X' Z' n0:Nat}(h1:X<4096)(h2:Z<4096)(h3:X'<4096)(h4:Z'<4096)(hn:n0<=100):∀{k:Nat},k<=12 ->
  uR X Z X' Z' n0 k=((((X^^^X')%2^k:Nat):Int),(((Z^^^Z')%2^k:Nat):Int),((n0+DU X Z X' Z' k:Nat):Int))
 | 0,_=>by simp[uR,DU,E1]
 | k+1,hk=>by
  have ih:=EM h1 h2 h3 h4 hn (k:=k) qad;have hx:X^^^X'<4096:=pn (n:=12) h1 h3;have hz:Z^^^Z'<4096:=pn (n:=12) h2 h4;have hp:=Gy X Z X' Z' k;have hph:ph (X.testBit k) (Z.testBit k) (X'.testBit k) (Z'.testBit k)<=3:=by
   cases X.testBit k<;>cases Z.testBit k<;>cases X'.testBit k<;>cases Z'.testBit k<;>decide
  have hp2:(2:Nat)^k<=2^12:=js qaj qad;have or_eq:∀(A:Nat) (t:Bool),A<4096->Cg .i64 ((A%2^k:Nat):Int) (if t=true then cU .i64 1 (k:Int) else 0)=((A%2^k+2^k*t.toNat:Nat):Int):=by
   intro A t hA;have hlt:A%2^k<2^k:=Cm _ (sk k);cases t with
   | true =>
    rw[if_pos rfl,cq qad,jF qad qad];have:=VU hlt 1;rw[UA]at this;rw[Nat.or_comm,<- this,Nat.add_comm];simp
   | false =>
    rw[if_neg aR];have:=jF (a:=A%2^k) (b:=0) qad qaj;rw[show((0:Nat):Int)=0 from rfl]at this;rw[this];simp
  have one_x:∀ l:Nat,(db 0 (k:Int) (l:Int)).x=if(decide (l=1\/l=2))=true then cU .i64 1 (k:Int) else 0:=by
   intro l;show(if(l:Int)=1\/(l:Int)=2 then _ else _)=_;have c1:((l:Int)=1\/(l:Int)=2) ↔ (l=1\/l=2):=qad;simp only[c1,decide_eq_true_eq]
  have one_z:∀ l:Nat,(db 0 (k:Int) (l:Int)).z=if(decide (l=2\/l=3))=true then cU .i64 1 (k:Int) else 0:=by
   intro l;show(if(l:Int)=3\/(l:Int)=2 then _ else _)=_;have c1:((l:Int)=3\/(l:Int)=2) ↔ (l=2\/l=3):=qad;simp only[c1,decide_eq_true_eq]
  simp only[uR,ih,eG h1 h2 (show k<=64 by omega),eG h3 h4 (show k<=64 by omega),TD];rw[ak qad,one_x,one_z,or_eq _ _ hx,or_eq _ _ hz];refine Prod.ext ?_ (Prod.ext ?_ ?_)
  ·exact qi7
  ·exact qi6
  ·show((_:Nat):Int)=((_:Nat):Int);simp only[DU];rw[Wa]
def Vl(w:Nat)(q:Ps):Prop:=∃ X Z P:Nat,q=mk w X Z P/\X<2^w/\Z<2^w/\P<4
theorem AW{w X Z P X' Z' P':Nat}(hw:w<=12)(h1:X<2^w)(h2:Z<2^w)(h3:X'<2^w)(h4:Z'<2^w)(hP:P<4)(hP':P'<4) :
  bc (mk w X Z P) (mk w X' Z' P')=mk w (X^^^X') (Z^^^Z') ((P+P'+DU X Z X' Z' w)%4):=by
 have hp:(2:Nat)^w<=2^12:=js qaj hw;have e0:aD .i64 (P:Int) (P':Int)=((P+P':Nat):Int):=ak qad;unfold bc mk;dsimp only;rw[gx,e0,DD qad qad qad qad qad hw];rw[Uz (pn h1 h3),Uz (pn h2 h4)];simp only[Ps.mk.injEq,true_and];rw[VW qad];rfl
theorem Uj{w X Z P X' Z' P':Nat}(hw:w<=12)(h1:X<2^w)(h2:Z<2^w)(h3:X'<2^w)(h4:Z'<2^w)(hP:P<4)(hP':P'<4) :
  gw (mk w X Z P) (mk w X' Z' P')=mk w (X^^^X') (Z^^^Z') ((P+P'+DU X Z X' Z' w)%4):=by
 have hp:(2:Nat)^w<=2^12:=js qaj hw;have e0:aD .i64 (P:Int) (P':Int)=((P+P':Nat):Int):=ak qad;unfold gw mk;dsimp only;rw[gx,e0,EM qad qad qad qad qad hw];rw[Uz (pn h1 h3),Uz (pn h2 h4)];simp only[Ps.mk.injEq,true_and];rw[VW qad];rfl
theorem BF{w:Nat}{q r:Ps}(hw:w<=12)(hq:Vl w q)(hr:Vl w r):gw q r=bc q r:=by
 obtain⟨X,Z,P,rfl,h1,h2,h3⟩:=hq;obtain⟨X',Z',P',rfl,h4,h5,h6⟩:=hr;rw[Uj hw h1 h2 h4 h5 h3 h6,AW hw h1 h2 h4 h5 h3 h6]
theorem dy{w:Nat}{q r:Ps}(hw:w<=12)(hq:Vl w q)(hr:Vl w r):Vl w (bc q r):=by
 obtain⟨X,Z,P,rfl,h1,h2,h3⟩:=hq;obtain⟨X',Z',P',rfl,h4,h5,h6⟩:=hr;rw[AW hw h1 h2 h4 h5 h3 h6];exact⟨_,_,_,rfl,pn h1 h4,pn h2 h5,Cm _ qaj⟩
theorem dr{w:Nat}{q:Ps}(h:Vl w q):q.w=w:=by obtain⟨X,Z,P,rfl,_⟩:=h;rfl
def nf(q:Ps):E:=((q.p.toNat+ig 12 (q.x.toNat &&& q.z.toNat))%4,q.x.toNat+4096*q.z.toNat)
theorem df(w X Z P:Nat):nf (mk w X Z P)=((P+ig 12 (X &&& Z))%4,X+4096*Z):=by simp[nf,mk]
theorem gX{X Z:Nat}(hX:X<4096)(j:Nat):(X+4096*Z).testBit j=if j<12 then X.testBit j else Z.testBit (j-12):=by
 have:=wc4 Z (show X<2^12 from hX) j;rw[Nat.add_comm];exact this
theorem BR{X Z X' Z':Nat}(h1:X<4096)(h2:X'<4096):(X+4096*Z)^^^(X'+4096*Z')=(X^^^X')+4096*(Z^^^Z'):=by
 refine Fs fun j=>?_;rw[gy,gX h1,gX h2,gX (pn (n:=12) h1 h2)];split<;>rw[gy]
theorem xS{X Z X' Z':Nat}(h1:X<4096)(_h2:X'<4096):bt (X+4096*Z) (X'+4096*Z')=decide (ig 12 (Z &&& X')%2=1):=by
 rw[<- Jt];unfold bt;have e:(X+4096*Z) >>> 12=Z:=by
  rw[LL];show(X+4096*Z) / 4096=Z;omega
 rw[e];have:∀ k,k<=12->jo k (Z &&& (X'+4096*Z'))=jo k (Z &&& X'):=by
  intro k
  induction k with
  | zero=>intro _;rfl
  | succ k ih =>
   intro hk;simp only[jo,ih qad,Fo];rw[gX _h2,if_pos qad]
 exact this 12 (cF _)
theorem dT{w:Nat}{q r:Ps}(hw:w<=12)(hq:Vl w q)(hr:Vl w r):nf (bc q r)=aU (nf q) (nf r):=by
 obtain⟨X,Z,P,rfl,h1,h2,h3⟩:=hq;obtain⟨X',Z',P',rfl,h4,h5,h6⟩:=hr;have hp:(2:Nat)^w<=2^12:=js qaj hw;rw[AW hw h1 h2 h4 h5 h3 h6];simp only[df,aU];refine du ?_ ?_
 ·dsimp only;rw[xS qad qad];have hl:=Js X Z X' Z' 12;have hs:=DV (X':=X') (Z':=Z') h1 h2 (12-w);rw[show w+(12-w)=12 by omega]at hs;rw[hs]at hl;have hb:(decide (ig 12 (Z &&& X')%2=1)).toNat=ig 12 (Z &&& X')%2:=by
   have:ig 12 (Z &&& X')%2=0\/ig 12 (Z &&& X')%2=1:=qad;rcases this with h|h<;>simp[h]
  rw[hb];omega
 ·dsimp only;rw[BR qad qad]
theorem nX{w:Nat}{q r:Ps}(hw:w<=12)(hq:Vl w q)(hr:Vl w r)(h:nf q=nf r):q=r:=by
 obtain⟨X,Z,P,rfl,h1,h2,h3⟩:=hq;obtain⟨X',Z',P',rfl,h4,h5,h6⟩:=hr;have hp:(2:Nat)^w<=2^12:=js qaj hw;rw[df,df,Cl]at h;obtain⟨e1,e2⟩:=h;have eX:X=X':=qad;have eZ:Z=Z':=qad;subst eX eZ;have:P=P':=qad;subst this;rfl
theorem ux(q:Ps):(nf q).1<4:=Cm _ qaj
theorem vh{w:Nat}{q r:Ps}(hw:w<=12)(hq:Vl w q)(hr:Vl w r):bc q r=bc r q ↔ bw (nf q) (nf r):=by
 constructor
 ·intro h;have h1:=congrArg nf h;rw[dT hw hq hr,dT hw hr hq]at h1;have h2:=congrArg Prod.fst h1;simp only[aU]at h2;unfold bw;cases e1:bt (nf q).2 (nf r).2<;>cases e2:bt (nf r).2 (nf q).2<;>rw[e1,e2]at h2<;>simp at h2⊢<;>omega
 ·intro h;refine nX hw (dy hw hq hr) (dy hw hr hq) ?_;rw[dT hw hq hr,dT hw hr hq,dL h]
end Go.Tz
namespace Go.Tz
open Go Go.AL Go.Proofs Go.Ma
variable{G:Nat->Option (List D)}
def oc1(n:Int):Int:=aD .u64 (dI .u64 (iX .u64 n 1) 6148914691236517205) (dI .u64 n 6148914691236517205)
def oc2(n:Int):Int:=aD .u64 (dI .u64 (iX .u64 n 2) 3689348814741910323) (dI .u64 n 3689348814741910323)
def oc3(n:Int):Int:=dI .u64 (aD .u64 (iX .u64 n 4) n) 1085102592571150095
def ocs(k n:Int):Int:=aD .u64 n (iX .u64 n k)
def Jl(n:Int):Int:=dI .i64 (IntKind.i64.wrap (ocs 32 (ocs 16 (ocs 8 (oc3 (oc2 (oc1 n))))))) 127
theorem XS:aq Tryz.f245=true:=ar
theorem Ts(n:Int):PC Pr G 245 [.int .u64 n] (iD (Jl n)):=by
 refine ae pok Tryz.func245 XS ?_;conv=>whnf
 repeat' first|((first|refine aJ ci ?_|fail);conv=>whnf)|fail
 exact fin rfl
theorem Xs:aq Tryz.f187=true:=ar
theorem vx(n:Int):PC Pr G 187 [.int .u64 n] (iD (Jl n)):=by
 refine ae pok Tryz.func187 Xs ?_;conv=>whnf
 repeat' first|(refine aa (Ts n) ?_;conv=>whnf)
 exact fin rfl
theorem ZI:((List.range 4096).all fun n=>decide (Jl n=ig 12 n))=true:=ar
theorem AX{n:Nat}(h:n<4096):Jl n=ig 12 n:=by
 have:=lh.1 ZI n (cJ.2 h);exact of_decide_eq_true this
theorem Fd{n:Nat}(h:n<2^63):IntKind.u64.wrap (n:Int)=n:=by
 have:IntKind.u64.wrap (n:Int)=(n:Int)%18446744073709551616:=qg3;rw[this];omega
theorem Xh:aq Tryz.f143=true:=ar
def Cv(q r:Ps):Bool:=(aD .i64 (Jl (IntKind.u64.wrap (dI .i64 q.x r.z))) (Jl (IntKind.u64.wrap (dI .i64 q.z r.x)))).tmod 2==1
theorem Rj(q r:Ps):PC Pr G 143 [q.d,r.d] (.bool (Cv q r)):=by
 have h1:=vx (G:=G) (IntKind.u64.wrap (dI .i64 q.x r.z));have h2:=vx (G:=G) (IntKind.u64.wrap (dI .i64 q.z r.x));unfold Cv;generalize Jl (IntKind.u64.wrap (dI .i64 q.x r.z))=a at h1⊢;generalize Jl (IntKind.u64.wrap (dI .i64 q.z r.x))=b at h2⊢;refine ae pok Tryz.func143 Xh ?_;conv=>whnf
 repeat' first|((first|refine O6.mk _ rfl ?_|refine aJ ci ?_|refine ab h1 ?_|refine ab h2 ?_|refine HpP.force ?_);conv=>whnf)|(intro t ht;cases t<;>conv=>whnf)
 all_goals rw[ht];exact fin rfl
def bS(q r:Ps):Bool:=!cm (nf q).2 (nf r).2
theorem LZ{w:Nat}{q r:Ps}(hw:w<=12)(hq:Vl w q)(hr:Vl w r):Cv q r = !bS q r:=by
 obtain⟨X,Z,P,rfl,h1,h2,h3⟩:=hq;obtain⟨X',Z',P',rfl,h4,h5,h6⟩:=hr;have hp:(2:Nat)^w<=2^12:=js qaj hw;unfold Cv bS cm;rw[df,df,xS qad qad,xS qad qad];have a1:X &&& Z'<4096:=JS Rc qad;have a2:Z &&& X'<4096:=JS Rc qad;show((aD .i64 (Jl (IntKind.u64.wrap (dI .i64 (X:Int) (Z':Int)))) (Jl (IntKind.u64.wrap (dI .i64 (Z:Int) (X':Int))))).tmod 2==1)=_;rw[ka qad qad,ka qad qad,Fd qad,Fd qad,AX a1,AX a2];have pl:∀(k n:Nat),ig k n<=k:=by
  intro k n
  induction k with
  | zero=>exact cF _
  | succ k ih=>have:(n.testBit k).toNat<=1:=Bool.toNat_le _;simp only[ig];omega
 have p1:=pl 12 (X &&& Z');have p2:=pl 12 (Z &&& X');rw[ak qad,Nat.and_comm Z' X,VW qad]
 revert p1 p2
 generalize ig 12 (X &&& Z')=a;generalize ig 12 (Z &&& X')=b;intro p1 p2;have e1:a%2=0\/a%2=1:=qad;have e2:b%2=0\/b%2=1:=qad;have e3:((((a+b:Nat):Int)%2==1)=decide ((a+b)%2=1)):=by
  rw[tV];simp;omega
 rw[e3];rcases e1 with e1|e1<;>rcases e2 with e2|e2<;>simp[e1,e2,Nat.add_mod]
theorem N2:aq Tryz.f68=true:=ar
theorem Kj(q r:Ps)(h0:nK q r=0):PC Pr G 68 [q.d,r.d] (.tup [.bool (!Cv q r),iD 0]):=by
 have hb:=HY (G:=G) q r;rw[h0]at hb;have ha:=Rj (G:=G) q r;refine ae pok Tryz.func68 N2 ?_;conv=>whnf
 repeat' first|((first|refine O6.mk _ rfl ?_|refine aa hb ?_);conv=>whnf)|(refine cc ha ?_)|(intro t ht;cases t<;>conv=>whnf)
 ·rw[ht];exact fin rfl
 ·rw[ht];exact fin rfl
 ·exact xt
theorem qm{w:Nat}{q:Ps}(hw:1<=w/\w<=12)(h:Vl w q):dg q=0:=by
 obtain⟨X,Z,P,rfl,h1,h2,h3⟩:=h;unfold dg mk;dsimp only;rw[cq qad,if_neg qad,if_neg qad,if_neg qad]
theorem HZ{w:Nat}{q r:Ps}(hw:1<=w/\w<=12)(h:Vl w q)(h':Vl w r):nK q r=0:=by
 unfold nK;rw[qm hw h,qm hw h',if_neg qaj,if_neg qaj,dr h,dr h',if_neg aR]
theorem FJ{w:Nat}{q r:Ps}(hw:1<=w/\w<=12)(hq:Vl w q)(hr:Vl w r):PC Pr G 68 [q.d,r.d] (.tup [.bool (bS q r),iD 0]):=by
 have:=Kj (G:=G) q r (HZ hw hq hr);rw[LZ hw.2 hq hr,Bool.not_not]at this;exact this
theorem Ac{w:Nat}{q r:Ps}(hw:w<=12)(hq:Vl w q)(hr:Vl w r):decide (bc q r=bc r q)=bS q r:=by
 rw[tV,decide_eq_true_eq,vh hw hq hr,jA];unfold bS;cases cm (nf q).2 (nf r).2<;>simp
theorem jN{w:Nat}(hw:1<=w/\w<=12)(q:Ps)(l:List Ps)(t:Bool)(hl:l.length<=1000)(hq:Vl w q)(hv:∀ r,r∈l->Vl w r):PC Pr G 183 [az (q::l) t] (l.foldl bc q).d:=by
 have key:∀(l:List Ps) (q:Ps),Vl w q->(∀ r,r∈l->Vl w r)->l.foldl gw q=l.foldl bc q/\Vl w (l.foldl bc q):=by
  intro l
  induction l with
  | nil=>exact fun q hq _=>⟨rfl,hq⟩
  | cons r l ih =>
   intro q hq hv;have hr:=hv r aR;simp only[VZ,BF hw.2 hq hr];exact ih _ (dy hw.2 hq hr) fun s hs=>hv s (eJ _ hs)
 rw[<- (key l q hq hv).1];refine Qf q l t hl fun i h=>HZ hw ?_ (hv _ (ey h));have hv':∀ r,r∈l.take i->Vl w r:=fun r hr=>hv r (Ci hr);rw[(key (l.take i) q hq hv').1];exact(key (l.take i) q hq hv').2
end Go.Tz
namespace Go.Tz
open Go Go.AL Go.Proofs
variable{G:Nat->Option (List D)}
theorem Oq(a b c:List D):(a++b++c).map AV.d=a.map AV.d++b.map AV.d++c.map AV.d:=by rw[nh,nh]
theorem cK{f:FuncId}{x y z:List D}{b:Bool}{args:List AV}{H:AHeap}{nx:Nat}{k:AV->AHeap->Nat->Prop}(h:PC Pr G f (x++y++z) (.bool b))(e:args=y.map .d)(hk:∀ t,b=t->k (.d (.bool t)) H nx):P3 Pr G f (x.map .d++args++z.map .d) H nx k:=by
 subst e;rw[<- Oq];exact cc h hk
def dG{α:Type}(p:α->Bool)(l:List α):Int:=match l.findIdx? p with
 | some i=>i
 | none=>-1
theorem lD{α:Type}{p:α->Bool}{l:List α}{i:Nat}(h:i<l.length)(h1:p l[i]=true)(h2:∀ q,q∈l.take i->p q=false):dG p l=i:=by
 have:l.findIdx? p=some i:=by
  rw[List.findIdx?_eq_some_iff_getElem];refine⟨h,h1,fun j hj=>?_⟩;have:=h2 l[j] (QW.2 ⟨j,by omega,rfl⟩);simpa using this
 unfold dG;rw[this]
theorem th{α:Type}{p:α->Bool}{l:List α}(h:∀ q,q∈l->p q=false):dG p l = -1:=by
 have:l.findIdx? p=none:=by
  rw[List.findIdx?_eq_none_iff];exact h
 unfold dG;rw[this]
theorem vt{α:Type}{p:α->Bool}{l:List α}:decide (dG p l>=0)=l.any p:=by
 unfold dG;cases h:l.findIdx? p with
 | none =>
  have:=List.findIdx?_eq_none_iff.1 h;have e:l.any p=false:=BX.2 fun q hq=>by simp[this q hq]
  rw[e];rfl
 | some i =>
  obtain⟨h1,h2,_⟩:=List.findIdx?_eq_some_iff_getElem.1 h;have e:l.any p=true:=yF.2 ⟨l[i],ey h1,h2⟩;rw[e];simp
theorem KZ{α:Type}{p:α->Bool}{l:List α}{i:Nat}(h:i<l.length)(h1:p l[i]=false)(h2:∀ q,q∈l.take i->p q=false):∀ q,q∈l.take (i+1)->p q=false:=by
 intro q hq;rw[aC h]at hq;rcases ft.1 hq with h|h
 ·exact h2 q h
 ·rw[mb.1 h];exact h1
theorem Xn:aq Tryz.f180=true:=ar
theorem FY(l:List Ps)(t:Bool)(f:FuncId)(first cap:List D)(p:Ps->Bool)(hn:l.length<=1000)(hf:∀ q,q∈l->PC Pr G f (first++[q.d]++cap) (.bool (p q))):PC Pr G 180 [az l t,.fn f first cap] (iD (dG p l)):=by
 refine ae pok Tryz.func180 Xn ?_;conv=>whnf
 skip;refine ax pok (fun i=>⟨[(0,.d (az l t)),(1,.d (.fn f first cap)),(7,.d (iD (l.map Ps.l).length)),(8,.d (iD i))],[],0⟩) (l.length) (fun i=>∀ q,q∈l.take i->p q=false) aR ?_ ar ?_ ?_
 ·exact nr
 ·intro i A_i h_i I_i N_i;have e_i:aD .i64 (i:Int) 1=((i+1:Nat):Int):=ak eH;have hq:=hf l[i] (ey h_i);conv=>whnf
  repeat' first|((first|refine O6.mk _ TJ ?_|refine aJ ci ?_|rw[bI]|refine cK hq rfl ?_);conv=>whnf)|(intro t ht;cases t<;>conv=>whnf)
  ·exact lQ
  ·exact qjd
  ·refine fin ?_;rw[lD h_i ht I_i]
 ·exact qh9
theorem Xz:aq Tryz.f196=true:=ar
theorem NX(l:List Ps)(t:Bool)(f:FuncId)(first cap:List D)(p:Ps->Bool)(hn:l.length<=1000)(hf:∀ q,q∈l->PC Pr G f (first++[q.d]++cap) (.bool (p q))):PC Pr G 196 [az l t,.fn f first cap] (.bool (l.any p)):=by
 have hi:=FY l t f first cap p hn hf
 rw[<- vt];generalize dG p l=i at hi⊢;refine ae pok Tryz.func196 Xz ?_;conv=>whnf
 repeat' first|(refine aa hi ?_;conv=>whnf)|(intro t ht;cases t<;>conv=>whnf)
 all_goals rw[ht];exact fin rfl
theorem XA:aq Tryz.f197=true:=ar
theorem ev197(q:Ps)(f:FuncId)(first cap:List D)(b:Bool)(hf:PC Pr G f (first++[q.d]++cap) (.bool b)):PC Pr G 197 [q.d,.rop [.fn f first cap] 0] (.bool (!b)):=by
 refine ae pok Tryz.func197 XA ?_;conv=>whnf
 repeat' first|((first|refine O6.mk _ rfl ?_|rw[bI]|refine cK hf rfl ?_);conv=>whnf)|(intro t ht;cases t<;>conv=>whnf)
 all_goals rw[ht];exact fin rfl
theorem WM:aq Tryz.f112=true:=ar
theorem CT(l:List Ps)(t:Bool)(f:FuncId)(first cap:List D)(p:Ps->Bool)(hn:l.length<=1000)(hf:∀ q,q∈l->PC Pr G f (first++[q.d]++cap) (.bool (p q))):PC Pr G 112 [az l t,.fn f first cap] (.bool (l.all p)):=by
 have hi:=NX (G:=G) l t 197 [] [.rop [.fn f first cap] 0] (fun q=>!p q) hn fun q hq=>ev197 q f first cap (p q) (hf q hq)
 refine ae pok Tryz.func112 WM ?_;conv=>whnf
 have e:l.all p = !l.any (fun q=>!p q):=by
  rw[I3]
 rw[e];repeat' first|(refine eV hi rfl ?_)|(intro t ht;cases t<;>conv=>whnf)
 all_goals rw[ht];exact fin rfl
end Go.Tz
namespace Go.Tz
open Go Go.AL Go.Proofs
variable{G:Nat->Option (List D)}
abbrev Rw:=Int×Int
def Rw.l(r:Rw):List D:=[iD r.1,iD r.2]
def oi(l:List Ps):List Rw:=l.mapIdx fun n q=>(Cg .i64 q.x (cU .i64 q.z 12),cU .i64 1 n)
theorem rT(l:List Ps):(oi l).length=l.length:=by simp[oi]
theorem KR{l:List Ps}{i:Nat}(h:i<l.length):(oi l).take (i+1)=(oi l).take i++[(Cg .i64 l[i].x (cU .i64 l[i].z 12),cU .i64 1 i)]:=by
 have h':i<(oi l).length:=by rw[rT];exact h
 rw[aC h'];simp[oi]
theorem fg{H:AHeap}{nm sz n:Nat}{l:List (List D)}(hg:H.get nm=some (ap sz l))(hn:n=l.length):AsD H (.sl nm sz 0 n n false) (.sl l false):=by
 subst hn;have:=dt (lo:=0) (len:=l.length) (room:=l.length) (t:=false) hg aR;simpa using this
theorem dc{sz:Nat}{m:List (List D)}{x:List D}{ys:List (List AV)}(h:ys=[x.map AV.d]):Blk.arr sz (m.map (fun el=>el.map AV.d)++ys)=ap sz (m++[x]):=by
 subst h;unfold ap;rw[nh];rfl
theorem MI:aq Tryz.f200=true:=ar
theorem JH(l:List Ps)(t:Bool)(hn:l.length<=1000):PC Pr G 200 [az l t] (.sl ((oi l).map Rw.l) false):=by
 refine de (bg Tryz.func200 MI) (bi pok Tryz.func200 MI ?_);conv=>whnf
 skip;refine ax pok (fun i=>⟨[(3,.sl 0 2 0 i i false),(6,.d (az l t)),(7,.d (iD (l.map Ps.l).length)),(8,.d (iD i))],[(0,some (ap 2 (((oi l).take i).map Rw.l)))],1⟩) (l.length) (fun _=>True) (trivial) ?_ ar ?_ ?_
 ·refine Sub.trans (fB (t:=3) (S:=2) (dW _) rfl) ?_;refine ah cW ?_ ?_ trivial
  ·exact gn
  ·exact lZ
 ·intro i A_i h_i I_i N_i;have e_i:aD .i64 (i:Int) 1=((i+1:Nat):Int):=ak eH;have hsn:=KR h_i;have hm:(((oi l).take i).map Rw.l).length=i:=by rw[ef,BZ,rT];omega
  have hs2:(((oi l).take (i+1)).map Rw.l)=((oi l).take i).map Rw.l++[[iD (Cg .i64 l[i].x (cU .i64 l[i].z 12)),iD (cU .i64 1 i)]]:=by rw[hsn,nh];rfl
  generalize ((oi l).take i).map Rw.l=m at hm hs2;conv=>whnf
  repeat' first|((first|refine O6.mk _ TJ ?_|refine O8.mk _ aK ?_|(refine aJ (by first|exact cF _|exact⟨by rw[ef];exact hm,by decide,by show(2*(i+1)+192)*16<=281474976710656;omega⟩|assumption|exact⟨by kernel_rfl,rfl⟩|decide|omega) ?_)|rw[hJ]|refine HpP.force ?_);conv=>whnf)|(intro t ht;cases t<;>conv=>whnf)
  ·exact lQ
  ·refine N_i _ ?_ ?_
   ·exact cY
   ·first|refine aO [(0,3)] ?_ ?_ ?_ trivial|refine aI [(0,3)] rfl rfl ?_ ?_ ?_ trivial
    ·exact Ch
    ·repeat' first|exact trivial|refine⟨⟨di rfl,_,rfl,by first|rfl|assumption|exact aw rfl (by first|rfl|assumption|exact aw rfl qgw)|exact aw rfl qgw,by first|exact ay rfl|exact aj _ _ _|exact au rfl⟩,?_⟩
    ·exact iI
 ·intro A_last I_last;conv=>whnf
  repeat' first|((first|refine aJ ci ?_|fail);conv=>whnf)|(intro t ht;cases t<;>conv=>whnf)
  ·refine fin (fg ?_ (by simp[rT]));rw[pT (by rw[rT];exact cF _)];rfl
  ·exact Fl
end Go.Tz
namespace Go.Tz
open Go Go.AL Go.Proofs
variable{G:Nat->Option (List D)}
theorem Te{n t m:Nat}(h:n=2^t*(2*m+1))(ht:t<24)(hn:n<2^24):n &&& (2^64-n)=2^t:=by
 have hpos:0<n:=qee;have hp:0<2^t:=sk t;have h1:n-1=2^t*(2*m)+(2^t-1):=by rw[h,Nat.mul_add,UA];omega
 have h2:n=2^t*(2*m+1)+0:=by rw[h];rfl
 refine Fs fun j=>?_;have e:2^64-n=2^64-((n-1)+1):=qad;rw[Fo,e,Nat.testBit_two_pow_sub_succ qad,ll];have b1:=wc4 (2*m+1) (show 0<2^t from hp) j;have b2:=wc4 (2*m) (show 2^t-1<2^t by omega) j;rw[<- h2]at b1;rw[<- h1]at b2;rw[b1,b2];by_cases c:j<t
 ·rw[if_pos c,Cj];have:¬ t=j:=qad;simp[this]
 ·rw[if_neg c,if_neg c];by_cases d:j=t
  ·subst d;rw[Wc];have e1:(2*m+1).testBit 0=true:=aR;have e2:(2*m).testBit 0=false:=aR;have:decide (j<64)=true:=fF;rw[e1,e2,this];simp
  ·have e1:(2*m+1).testBit (j-t)=(2*m).testBit (j-t):=by
    obtain⟨k,hk⟩:∃ k,j-t=k+1:=⟨j-t-1,by omega⟩
    rw[hk,Nat.testBit_succ,Nat.testBit_succ];congr 1;omega
   have:¬ t=j:=qad;rw[e1];cases (2*m).testBit (j-t)<;>simp[this]
theorem Wg{n:Int}:IntKind.u64.wrap n=n%18446744073709551616:=qg3
theorem Tf{n t m:Nat}(h:n=2^t*(2*m+1))(ht:t<24)(hn:n<2^24):dI .u64 (n:Int) (FZ .u64 (n:Int))=((2^t:Nat):Int):=by
 have hpos:0<n:=qee;have e:FZ .u64 (n:Int)=((2^64-n:Nat):Int):=by
  unfold FZ;rw[Wg];omega
 rw[e];unfold dI;show IntKind.u64.wrap ((BitVec.ofInt 64 n &&& BitVec.ofInt 64 ((2^64-n:Nat):Int)).toNat:Int)=_;have e1:(BitVec.ofInt 64 (n:Int)).toNat=n:=by rw[BitVec.toNat_ofInt];omega
 have e2:(BitVec.ofInt 64 ((2^64-n:Nat):Int)).toNat=2^64-n:=by rw[BitVec.toNat_ofInt];omega
 rw[BitVec.toNat_and,e1,e2,Te h ht hn,Wg];have hlt:2^t<2^24:=Fq qaj ht
 revert hlt
 generalize 2^t=p;intro hlt;omega
theorem D4:((List.range 24).all fun t=>match iX .u64 (fH .u64 ((2^t:Nat):Int) 285870213051353865) 58 with
  | .ofNat i=>decide (i<64)&&(match xL[i]? with
   | some (.int .u8 k)=>decide (k=(t:Int))
   | _=>false)
  | _=>false)=true:=by kernel_rfl
theorem Uq{t:Nat}(ht:t<24):∃ i:Nat,iX .u64 (fH .u64 ((2^t:Nat):Int) 285870213051353865) 58=i/\i<64/\xL[i]?=some (.int .u8 t):=by
 have:=lh.1 D4 t (cJ.2 ht);split at this
 ·rename_i i hi;rw[li]at this;obtain⟨h1,h2⟩:=this;refine⟨i,hi,by simpa using h1,?_⟩;split at h2
  ·rename_i k hk;rw[hk];simp at h2;rw[h2]
  ·cases h2
 ·cases this
theorem MP:aq Tryz.f271=true:=ar
theorem Lc{v:Int}{i:Nat}{d:Int}(hpos:v≠0)(h1:iX .u64 (fH .u64 (dI .u64 v (FZ .u64 v)) 285870213051353865) 58=i)(h2:i<64)(h3:xL[i]?=some (.int .u8 d)):PC Pr GG 271 [.int .u64 v] (iD (IntKind.i64.wrap d)):=by
 refine ae pok Tryz.func271 MP ?_;conv=>whnf
 have key:∀ a b,a=1->b=1->List.take a (List.drop (0+(i:Int).toNat*b) xL)=[.int .u8 d]:=by
  rintro a b rfl rfl;rw[gx,jj,UA];have hi:i<xL.length:=(nt.1 h3).1;rw[wc9 hi];have:=(nt.1 h3).2;rw[this];rfl
 intro t ht;cases t<;>conv=>whnf
 ·refine aJ qaj ?_;conv=>whnf
  rw[h1];repeat' first|((first|refine aJ ci ?_|rw[key _ _ rfl rfl]);conv=>whnf)
  exact fin rfl
 ·exact lQ
theorem Ql{n t m:Nat}(h:n=2^t*(2*m+1))(ht:t<24)(hn:n<2^24):PC Pr GG 271 [.int .u64 n] (iD t):=by
 have hl:=Tf h ht hn;obtain⟨i,h1,h2,h3⟩:=Uq ht;rw[<- hl]at h1;have hpos:(n:Int)≠0:=by
  have:0<n:=qee;omega
 have hw:IntKind.i64.wrap (t:Int)=t:=eK qad qad;have:=Lc hpos h1 h2 h3
 rwa [hw]at this
theorem Ld:PC Pr GG 271 [.int .u64 0] (iD 64):=by
 refine ae pok Tryz.func271 MP ?_;conv=>whnf
 repeat' first|((first|refine aJ ci ?_|fail);conv=>whnf)|(intro t ht;cases t<;>conv=>whnf)
 ·exact xt
 ·exact GL
theorem MO:aq Tryz.f251=true:=ar
theorem Qk{n t m:Nat}(h:n=2^t*(2*m+1))(ht:t<24)(hn:n<2^24):PC Pr GG 251 [.int .u64 n] (iD t):=by
 have hc:=Ql h ht hn;refine ae pok Tryz.func251 MO ?_;conv=>whnf
 repeat' first|(refine aa hc ?_;conv=>whnf)
 exact fin rfl
theorem Lb:PC Pr GG 251 [.int .u64 0] (iD 64):=by
 have hc:=Ld;refine ae pok Tryz.func251 MO ?_;conv=>whnf
 repeat' first|(refine aa hc ?_;conv=>whnf)
 exact fin rfl
end Go.Tz
namespace Go.Tz
open Go Go.AL Go.Proofs
variable{G:Nat->Option (List D)}
abbrev Rn:=Nat×Nat
def Rn.l(r:Rn):List D:=[iD r.1,iD r.2]
abbrev LJ(l:List Rn)(t:Bool):D:=.sl (l.map Rn.l) t
theorem B8(l:List Rn):∀ el,el∈l.map Rn.l->el.length=2:=by
 intro el h;obtain⟨q,_,rfl⟩:=bm.1 h;rfl
theorem rn_sc(l:List Rn):(((l.map Rn.l).map (·.map AV.d)).all fun el=>el.all AV.scalar)=true:=by
 simp[Rn.l,AV.scalar,D.scalar]
theorem OQ{α:Type}{N:Nat}{z:α}{ys:List α}(h:ys.length=N):bU (List.replicate N z) 0 (ys.take N)=ys:=by
 have e:ys.take N=ys:=pT qad;unfold bU;rw[e];simp[h]
def I2(N:Nat)(f:Nat->List D):Blk:=ap 2 ((List.range N).map f)
theorem PK(l:List Rn):Blk.arr 2 ((l.map Rn.l).map fun x=>x.map AV.d)=I2 l.length fun j=>Rn.l (l.getD j (0,0)):=by
 unfold I2 ap;congr 2;apply Hx
 ·exact aR
 ·exact qjo
theorem fj{N k:Nat}{f:Nat->List D}(h:k<N):(((List.range N).map f).map fun el=>el.map AV.d)[0+(k:Int).toNat]?=some ((f k).map AV.d):=GJ
theorem dh{N k:Nat}{f:Nat->List D}{x:List D}(h:k<N)(e:f k=x):(((List.range N).map f).map fun el=>el.map AV.d)[0+(k:Int).toNat]?=some (x.map AV.d):=by rw[fj h,e]
theorem KS{N:Nat}{f g:Nat->List D}(h:∀ j,f j=g j):Blk.arr 2 (((List.range N).map f).map fun el=>el.map AV.d)=I2 N g:=qgh
theorem fr{N k:Nat}{f:Nat->List D}{x:List D}(h:k<N):(((List.range N).map f).map fun el=>el.map AV.d).set (0+(k:Int).toNat) (x.map AV.d)=((List.range N).map fun j=>if j=k then x else f j).map fun el=>el.map AV.d:=by
 rw[gx,jj];apply Hx
 ·exact aR
 ·intro i h1 h2;rw[List.getElem_set];by_cases e:k=i
  ·subst e;simp
  ·rw[if_neg e];simp[Ne.symm e]
def kz(rf:Nat->Rn)(n b i:Nat):Nat->Rn:=fun k=>if k<i/\k≠n/\(rf k).1.testBit b=true then((rf k).1^^^(rf n).1,(rf k).2^^^(rf n).2) else rf k
theorem Ym(rf:Nat->Rn)(n b:Nat):kz rf n b 0=rf:=by funext k;simp[kz]
theorem Yn(rf:Nat->Rn)(n b i:Nat):kz rf n b i n=rf n:=by simp[kz]
theorem RC(rf:Nat->Rn)(n b i:Nat):kz rf n b i i=rf i:=by simp[kz]
theorem Kh{rf:Nat->Rn}{n b i:Nat}(h:¬(i≠n/\(rf i).1.testBit b=true)):kz rf n b (i+1)=kz rf n b i:=by
 funext j;unfold kz;by_cases e:j=i
 ·exact qjj
 ·exact qju
theorem MX{rf:Nat->Rn}{n b i:Nat}(hin:i≠n)(hb:(rf i).1.testBit b=true):kz rf n b (i+1)=fun j=>if j=i then((rf i).1^^^(rf n).1,(rf i).2^^^(rf n).2) else kz rf n b i j:=by
 funext j;unfold kz;by_cases e:j=i
 ·subst e;rw[if_pos ⟨Ck _,hin,hb⟩,if_pos rfl]
 ·have:(j<i+1) ↔ (j<i):=by omega
  simp only[this,if_neg e]
def rB(n:Nat):Nat:=((List.range 24).find? fun j=>n.testBit j).getD 0
theorem lI{n:Nat}(h0:n≠0)(hn:n<2^24):rB n<24/\n.testBit (rB n)=true /\ ∃ m,n=2^rB n*(2*m+1):=by
 obtain⟨c,hc⟩:=Nat.exists_testBit_of_ne_zero h0;have hc24:c<24:=by
  rcases wa1 c 24 with q|q
  ·exact q
  ·rw[LM (uU hn (js qaj q))]at hc;cases hc
 cases hf:(List.range 24).find? fun j=>n.testBit j with
 | none =>
  have:=QG.1 hf c (cJ.2 hc24);rw[hc]at this;simp at this
 | some t =>
  have ht:rB n=t:=by unfold rB;rw[hf];rfl
  rw[ht];rw[wdh]at hf;obtain⟨h1,h2,h3⟩:=hf;refine⟨cJ.1 h2,h1,n / 2^t / 2,?_⟩;have hz:n%2^t=0:=by
   refine Fs fun j=>?_;rw[QX,Cj];by_cases e:j<t
   ·have:=h3 j e;simp at this;simp[this]
   ·simp[e]
  have hodd:n / 2^t%2=1:=by
   rw[Uu]at h1;simpa using h1
  have e1:2*(n / 2^t / 2)+1=n / 2^t:=qad;rw[e1,Nat.mul_div_cancel' (Nat.dvd_of_mod_eq_zero hz)]
def iA(l:List Rn):Nat->Nat->Rn
 | 0=>fun j=>l.getD j (0,0)
 | n+1=>if(iA l n n).1≠0 then kz (iA l n) n (rB (iA l n n).1) l.length else iA l n
theorem mM{l:List Rn}(h:∀ r,r∈l->r.1<2^24/\r.2<2^24):∀ n j,(iA l n j).1<2^24/\(iA l n j).2<2^24
 | 0,j=>by
  show(l.getD j (0,0)).1<2^24/\(l.getD j (0,0)).2<2^24;rw[jI];cases hj:l[j]? with
  | none=>exact⟨by decide,by decide⟩
  | some r=>exact h r (ye hj)
 | n+1,j=>by
  have ih:=mM h n;simp only[iA];split
  ·unfold kz;split
   ·exact⟨pn (ih j).1 (ih n).1,pn (ih j).2 (ih n).2⟩
   ·exact ih j
  ·exact ih j
theorem Tg{n m:Nat}(h0:n≠0)(hn:n<2^24)(h:n=2^rB n*(2*m+1)):PC Pr GG 251 [.int .u64 (IntKind.u64.wrap (n:Int))] (iD (rB n)):=by
 have hl:=(lI h0 hn).1
 revert h hl
 generalize rB n=t;intro h hl;rw[Fd qad];exact Qk h hl hn
def LK(n:Nat):Nat:=if n=0 then 64 else rB n
theorem tz_c{n:Nat}(hn:n<2^24):PC Pr GG 251 [.int .u64 (IntKind.u64.wrap (n:Int))] (iD (LK n)):=by
 unfold LK;split
 ·rename_i h;subst h;exact Lb
 ·rename_i h;obtain⟨_,_,m,hm⟩:=lI h hn;exact Tg h hn hm
def kH(rf:Nat->Rn)(i:Nat):List Rn:=((List.range i).map rf).filter fun r=>decide (r.1≠0)
def tf(rf:Nat->Rn)(i:Nat):List Rn:=((List.range i).map rf).filter fun r=>decide (r.1=0)
theorem Td(rf:Nat->Rn)(i:Nat):kH rf (i+1)=kH rf i++(if(rf i).1≠0 then [rf i] else []):=by
 simp only[kH,Fa,nh,wd7,nB,QF,List.filter_cons,List.filter_nil,decide_eq_true_eq]
theorem Sl(rf:Nat->Rn)(i:Nat):tf rf (i+1)=tf rf i++(if(rf i).1=0 then [rf i] else []):=by
 simp only[tf,Fa,nh,wd7,nB,QF,List.filter_cons,List.filter_nil,decide_eq_true_eq]
theorem CA{H:AHeap}{v1 v2:AV}{d1 d2:D}(h1:AsD H v1 d1)(h2:AsD H v2 d2):AsD H (.tup [v1,v2]) (.tup [d1,d2]):=by
 refine .tup _ _ rfl fun j v d hv hd=>?_
 match j,hv,hd with
 | 0,hv,hd=>simp at hv hd;subst hv hd;exact h1
 | 1,hv,hd=>simp at hv hd;subst hv hd;exact h2
 | j+2,hv,_=>simp at hv
theorem XW:aq Tryz.f250=true:=ar
theorem MH:aq Tryz.f199=true:=ar
theorem B5(l:List Rn)(t:Bool)(hn:l.length<=1000)(hb:∀ r,r∈l->r.1<2^24/\r.2<2^24):PC Pr GG 199 [LJ l t] (.tup [LJ (kH (iA l l.length) l.length) false,LJ (tf (iA l l.length) l.length) false]):=by
 refine de (bg Tryz.func199 MH) (bi pok Tryz.func199 MH ?_);conv=>whnf
 repeat' first|((first|refine O6.mk _ rfl ?_|refine O8.mk _ qc8 ?_|(refine aJ (by first|exact⟨mf _,rfl,by show 16*(((l.map Rn.l).length:Nat):Int).toNat<=281474976710656;rw[gx,ef];omega,by decide,by decide⟩|exact B8 _|exact qe5|assumption|exact⟨by kernel_rfl,rfl⟩|decide|omega) ?_)|rw[rn_sc]|refine HpP.force ?_);conv=>whnf)
 have eN:(((l.map Rn.l).length:Nat):Int).toNat=l.length:=aR;refine ax pok (fun n=>⟨[(2,.d (.sl [] true)),(3,.d (.sl [] true)),(4,.ptr 1 1 0 0),(5,.fn 250 [] [.ptr 1 1 0 0]),(18,.d (iD l.length)),(19,.d (iD n))],[(0,some (I2 l.length fun j=>(iA l n j).l)),(1,some (.arr 1 [[.sl 0 2 0 l.length l.length true]]))],2⟩) (l.length) (fun _=>True) (trivial) ?_ ar ?_ ?_
 ·refine ah cW ?_ ?_ trivial
  ·repeat' first|exact trivial|refine⟨⟨by first|rfl|assumption|(show AV.d (D.int .i64 ((((l.map Rn.l).length:Nat):Int).toNat:Int))=_;rw[eN]),rfl⟩,?_⟩
  ·repeat' first|exact trivial|refine⟨⟨di rfl,_,rfl,by first|rfl|assumption|exact congrArg some (PK l)|(show some (Blk.arr 1 [[AV.sl 0 2 0 (((l.map Rn.l).length:Nat):Int).toNat (((l.map Rn.l).length:Nat):Int).toNat true]])=_;rw[eN]),by first|exact ay rfl|exact aj _ _ _|exact au rfl|exact aj _ _ _⟩,?_⟩
 ·intro n A_n h_n I_n N_n;have e_n:aD .i64 (n:Int) 1=((n+1:Nat):Int):=ak eH;have hlt:=mM hb n n;have hlt3:=mM hb n;generalize hg:iA l n=rf at hlt hlt3;have htz:=tz_c hlt.1;have hlt2:(rf n).1<2^63:=qad;generalize hb1:(rf n).1=b1 at hlt htz hlt2;conv=>whnf
  repeat' first|((first|refine O6.mk _ (by first|rfl|exact fj h_n) ?_|refine aJ ci ?_|rw[hb1]|refine aa htz ?_);conv=>whnf)|(intro t ht;cases t<;>conv=>whnf)
  ·exact lQ
  ·have h0:b1=0:=by simp at ht;omega
   have hnx:iA l (n+1)=rf:=by simp only[iA,hg,hb1,h0];simp
   refine N_n _ ?_ ?_
   ·exact cY
   ·refine ah cW ?_ ?_ trivial
    ·exact F7
    ·exact qcm
  ·have h0:b1≠0:=by simp at ht;omega
   have hnx:iA l (n+1)=kz rf n (LK b1) l.length:=by
    simp only[iA,hg,hb1];rw[if_pos h0];unfold LK;rw[if_neg h0]
   have ht64:LK b1<=64:=by
    unfold LK;split
    ·exact qad
    ·rename_i h;have:=(lI h hlt.1).1;omega
   generalize LK b1=b at hnx ht64;clear htz;refine aB pok Tryz.func250 XW ?_;conv=>whnf
   repeat' first|(refine O6.mk _ rfl ?_;conv=>whnf)
   refine ax pok (fun k=>⟨[(0,.d (iD n)),(1,.d (iD b)),(2,.ptr 1 1 0 0),(7,.d (iD l.length)),(8,.d (iD k))],[(0,some (I2 l.length fun j=>(kz rf n b k j).l)),(1,some (.arr 1 [[.sl 0 2 0 l.length l.length true]]))],2⟩) (l.length) (fun _=>True) (trivial) ?_ ar ?_ ?_
   ·refine ah cW ?_ ?_ trivial
    ·exact gn
    ·repeat' first|exact trivial|refine⟨⟨di rfl,_,rfl,by first|rfl|assumption|(rw[Ym];rfl),by first|exact ay rfl|exact aj _ _ _|exact au rfl|exact aj _ _ _⟩,?_⟩
   ·intro k A_k h_k I_k N_k;have e_k:aD .i64 (k:Int) 1=((k+1:Nat):Int):=ak eH;have hn':=Yn rf n b k;have hk':=RC rf n b k;have hs:=@MX rf n b k;have hs2:=@Kh rf n b k;generalize hgk:kz rf n b k=g at hn' hk' hs;conv=>whnf
    repeat' first|((first|refine O6.mk _ (by first|rfl|exact fj (f:=fun j=>Rn.l (g j)) h_k|exact fj (f:=fun j=>Rn.l (g j)) h_n) ?_|refine O8.mk _ (by first|exact fr (x:=[_,_]) h_k|rfl) ?_|refine aJ ci ?_|refine HpP.force ?_);conv=>whnf)|(intro t ht;cases t<;>conv=>whnf)
    ·exact lQ
    ·have hkn:k=n:=by simp at ht;omega
     have e:kz rf n b (k+1)=g:=by rw[<- hgk];exact hs2 fun q=>q.1 hkn
     refine N_k _ ?_ ?_
     ·exact cY
     ·refine ah cW ?_ ?_ trivial
      ·exact Jz
      ·exact qcp
    ·have hkn:k≠n:=by intro e;subst e;simp at *
     have e:kz rf n b (k+1)=g:=by
      rw[<- hgk];refine hs2 fun q=>?_;rw[hk',dX ht64 (by have:=(hlt3 k).1;omega),q.2]at ht;simp at ht
     refine N_k _ ?_ ?_
     ·exact cY
     ·refine ah cW ?_ ?_ trivial
      ·exact Jz
      ·exact qcp
    ·have hkn:k≠n:=by intro e;subst e;simp at *
     have hnk:n≠k:=Ne.symm hkn;have hbk:(rf k).1.testBit b=true:=by
      rw[hk',dX ht64 (by have:=(hlt3 k).1;omega)]at ht;cases e:(rf k).1.testBit b with
      | true=>rfl
      | false=>rw[e]at ht;simp at ht
     repeat' first|((first|refine O6.mk _ (by first|rfl|exact dh h_k (if_pos rfl)|exact dh h_n (if_neg hnk)) ?_|refine O8.mk _ (by first|exact fr (x:=[_,_]) h_k|rfl) ?_|refine aJ ci ?_|refine HpP.force ?_);conv=>whnf)
     have hblk:∀ j,(if j=k then [iD (uK .i64 (g k).1 (g n).1),iD (uK .i64 (g k).2 (g n).2)] else if j=k then [iD (uK .i64 (g k).1 (g n).1),iD (g k).2] else Rn.l (g j))=Rn.l (kz rf n b (k+1) j):=by
      intro j;rw[hs hkn hbk];dsimp only;by_cases e:j=k
      ·rw[if_pos e,if_pos e,hk',hn'];have q1:=hlt3 k;have q2:=hlt3 n;rw[ke qad qad,ke qad qad];rfl
      ·rw[if_neg e,if_neg e,if_neg e]
     refine N_k _ ?_ ?_
     ·exact cY
     ·refine ah cW ?_ ?_ trivial
      ·exact Jz
      ·repeat' first|exact trivial|refine⟨⟨di rfl,_,rfl,by first|rfl|assumption|exact congrArg some (KS hblk),by first|exact ay rfl|exact aj _ _ _|exact au rfl|exact aj _ _ _⟩,?_⟩
   ·intro A_last I_last;conv=>whnf
    repeat (refine O6.mk _ rfl ?_;conv=>whnf)
    intro t ht;cases t;rotate_left
    ·exact bu
    conv=>whnf
    skip;refine N_n _ ?_ ?_
    ·exact cY
    ·refine ah cW ?_ ?_ trivial
     ·exact F7
     ·exact qcm
 ·intro A_last I_last;generalize iA l l.length=rf;conv=>whnf
  repeat (refine O6.mk _ rfl ?_;conv=>whnf)
  intro t ht;cases t;rotate_left
  ·exact bu
  conv=>whnf
  repeat' first|(refine O6.mk _ rfl ?_;conv=>whnf)
  refine ax pok (fun i=>⟨[(2,.sl 1 2 0 (kH rf i).length (kH rf i).length false),(3,.sl 2 2 0 (tf rf i).length (tf rf i).length false),(40,.sl 0 2 0 l.length l.length true),(41,.d (iD l.length)),(42,.d (iD i))],[(0,some (I2 l.length fun j=>(rf j).l)),(1,some (ap 2 ((kH rf i).map Rn.l))),(2,some (ap 2 ((tf rf i).map Rn.l)))],3⟩) (l.length) (fun _=>True) (trivial) ?_ ar ?_ ?_
  ·refine Sub.trans ((fB (t:=2) (S:=2) (dW _) rfl).trans (fB (t:=3) (S:=2) (dW _) rfl)) ?_;first|refine aO [(1,2),(2,3)] ?_ ?_ ?_ trivial|refine aI [(1,2),(2,3)] rfl rfl ?_ ?_ ?_ trivial
   ·exact gn
   ·exact qau
   ·exact iI
  ·intro i A_i h_i I_i N_i;have e_i:aD .i64 (i:Int) 1=((i+1:Nat):Int):=ak eH;have h1:=Td rf i;have h2:=Sl rf i;have hle1:(kH rf i).length<=i:=by have:=I5 (fun r:Rn=>decide (r.1≠0)) ((List.range i).map rf);simpa[kH] using this
   have hle2:(tf rf i).length<=i:=by have:=I5 (fun r:Rn=>decide (r.1=0)) ((List.range i).map rf);simpa[tf] using this
   generalize kH rf i=L at h1 hle1;generalize tf rf i=K at h2 hle2;conv=>whnf
   repeat (refine O6.mk _ rfl ?_;conv=>whnf)
   intro t ht;cases t
   ·exact bu
   conv=>whnf
   repeat' first|((first|refine O6.mk _ (by first|rfl|exact fj (f:=fun j=>Rn.l (rf j)) h_i) ?_|refine O8.mk _ aK ?_|(refine aJ (by first|exact cF _|exact⟨by simp,by decide,by show(2*(L.length+1)+192)*16<=281474976710656;omega⟩|exact⟨by simp,by decide,by show(2*(K.length+1)+192)*16<=281474976710656;omega⟩|assumption|exact⟨by kernel_rfl,rfl⟩|decide|omega) ?_)|rw[hJ]|refine HpP.force ?_);conv=>whnf)|(intro t ht;cases t<;>conv=>whnf)
   ·have hz:(rf i).1=0:=by simp at ht;omega
    have e1:kH rf (i+1)=L:=by rw[h1,if_neg (by simp[hz])];simp
    have e2:tf rf (i+1)=K++[rf i]:=by rw[h2,if_pos hz]
    refine N_i _ ?_ ?_
    ·exact cY
    ·first|refine aO [(2,5)] ?_ ?_ ?_ trivial|refine aI [(2,5)] rfl rfl ?_ ?_ ?_ trivial
     ·repeat' first|exact trivial|refine⟨⟨by first|rfl|assumption|exact congrArg (fun n=>AV.d (iD n)) e_i|(rw[e2,LN];rfl)|(rw[e1];rfl),rfl⟩,?_⟩
     ·repeat' first|exact trivial|refine⟨⟨di rfl,_,rfl,by first|rfl|assumption|exact aw rfl (by first|rfl|assumption|exact aw rfl (by rw[e1];rfl)|exact aw rfl qe8)|exact aw rfl (by rw[e1];rfl)|exact aw rfl qe8,by first|exact ay rfl|exact aj _ _ _|exact au rfl|exact aj _ _ _⟩,?_⟩
     ·exact iI
   ·have hz:(rf i).1≠0:=by simp at ht;omega
    have e1:kH rf (i+1)=L++[rf i]:=by rw[h1,if_pos hz]
    have e2:tf rf (i+1)=K:=by rw[h2,if_neg hz];simp
    refine N_i _ ?_ ?_
    ·exact cY
    ·first|refine aO [(1,5)] ?_ ?_ ?_ trivial|refine aI [(1,5)] rfl rfl ?_ ?_ ?_ trivial
     ·repeat' first|exact trivial|refine⟨⟨by first|rfl|assumption|exact congrArg (fun n=>AV.d (iD n)) e_i|(rw[e1,LN];rfl)|(rw[e2];rfl),rfl⟩,?_⟩
     ·repeat' first|exact trivial|refine⟨⟨di rfl,_,rfl,by first|rfl|assumption|exact aw rfl (by first|rfl|assumption|exact aw rfl (by rw[e2];rfl)|exact aw rfl qe7)|exact aw rfl (by rw[e2];rfl)|exact aw rfl qe7,by first|exact ay rfl|exact aj _ _ _|exact au rfl|exact aj _ _ _⟩,?_⟩
     ·exact iI
  ·intro A_last I_last;conv=>whnf
   repeat (refine O6.mk _ rfl ?_;conv=>whnf)
   intro t ht;cases t;rotate_left
   ·exact bu
   conv=>whnf
   skip;exact fin (CA (fg rfl aR) (fg rfl aR))
end Go.Tz
namespace Go.Tz
open Go Go.AL Go.Proofs Go.Ma
variable{G:Nat->Option (List D)}
theorem Ye:aq Tryz.f269=true:=ar
theorem ev269(q:Ps)(f:FuncId)(first cap:List D)(b:Bool)(hf:PC Pr G f (first++[q.d]++cap) (.bool b)):PC Pr G 269 [q.d,.rop [.fn f first cap] 0] (.bool (!b)):=by
 refine ae pok Tryz.func269 Ye ?_;conv=>whnf
 repeat' first|((first|refine O6.mk _ rfl ?_|rw[bI]|refine cK hf rfl ?_);conv=>whnf)|(intro t ht;cases t<;>conv=>whnf)
 all_goals rw[ht];exact fin rfl
theorem XU:aq Tryz.f248=true:=ar
theorem Nw(l:List Ps)(t:Bool)(f:FuncId)(first cap:List D)(p:Ps->Bool)(hn:l.length<=1000)(hf:∀ q,q∈l->PC Pr G f (first++[q.d]++cap) (.bool (p q))):PC Pr G 248 [az l t,.fn f first cap] (.bool (l.all p)):=by
 have hi:=NX (G:=G) l t 269 [] [.rop [.fn f first cap] 0] (fun q=>!p q) hn fun q hq=>ev269 q f first cap (p q) (hf q hq)
 have e:l.all p = !l.any (fun q=>!p q):=by
  rw[I3]
 rw[e];refine ae pok Tryz.func248 XU ?_;conv=>whnf
 repeat' first|(refine eV hi rfl ?_)|(intro t ht;cases t<;>conv=>whnf)
 all_goals rw[ht];exact fin rfl
theorem XV:aq Tryz.f249=true:=ar
theorem RA(q r:Ps)(l:List Ps)(t:Bool):PC Pr G 249 [q.d,.rop [az (r::l) t] 0] (.bool (decide (q.w=r.w))):=by
 refine ae pok Tryz.func249 XV ?_;conv=>whnf
 repeat' first|((first|refine O6.mk _ rfl ?_|refine aJ ci ?_|refine HpP.force ?_);conv=>whnf)|(intro t ht;cases t<;>conv=>whnf)
 all_goals
  refine fin ?_;have e:(q.w==r.w)=decide (q.w=r.w):=qgm;rw[<- e,ht]
theorem XB:aq Tryz.f198=true:=ar
theorem yS{w:Nat}(hw:1<=w/\w<=12)(r:Ps)(l:List Ps)(t:Bool)(hn:(r::l).length<=24)(hv:∀ q,q∈r::l->Vl w q):PC Pr G 198 [az (r::l) t] (iD 0):=by
 have hev:=Nw (G:=G) (r::l) t 249 [] [.rop [az (r::l) t] 0] (fun q=>decide (q.w=r.w)) qad fun q _=>RA q r l t;have hall:(r::l).all (fun q=>decide (q.w=r.w))=true:=lh.2 fun q hq=>by simp[dr (hv q hq),dr (hv r aR)]
 rw[hall]at hev;generalize hm:r::l=m at hn hv hev;refine ae pok Tryz.func198 XB ?_;conv=>whnf
 repeat' first|(refine O6.mk _ rfl ?_;conv=>whnf)|(intro t ht;cases t<;>conv=>whnf)
 rotate_left
 ·exact lQ
 ·exfalso;have:1<=m.length:=by rw[<- hm];simp
  simp at ht;omega
 refine ax pok (fun i=>⟨[(1,.ptr 0 1 0 0),(14,.d (az m t)),(15,.d (iD (m.map Ps.l).length)),(16,.d (iD i))],[(0,some (.arr 1 [[.d (az m t)]]))],1⟩) (m.length) (fun _=>True) (trivial) ?_ ar ?_ ?_
 ·exact nr
 ·intro i A_i h_i I_i N_i;have e_i:aD .i64 (i:Int) 1=((i+1:Nat):Int):=ak eH;have hc:=iR (G:=G) m[i];rw[qm hw (hv _ (ey h_i))]at hc;conv=>whnf
  repeat (refine O6.mk _ rfl ?_;conv=>whnf)
  intro t ht;cases t
  ·exact bu
  conv=>whnf
  repeat' first|((first|refine O6.mk _ TJ ?_|refine O8.mk _ aK ?_|refine aJ ci ?_|refine aa hc ?_|refine HpP.force ?_);conv=>whnf)|(intro t ht;cases t<;>conv=>whnf)
  ·refine N_i _ ?_ ?_
   ·exact cY
   ·exact yv
  ·exact xt
 ·intro A_last I_last;conv=>whnf
  repeat (refine O6.mk _ rfl ?_;conv=>whnf)
  intro t ht;cases t;rotate_left
  ·exact bu
  conv=>whnf
  repeat' first|(refine O6.mk _ rfl ?_;conv=>whnf)|(refine eV hev rfl ?_)|(intro t ht;cases t<;>conv=>whnf)
  ·exfalso;cases ht
  ·exact GL
theorem PG{w:Nat}(hw:w<=12){l:List Ps}(hv:∀ q,q∈l->Vl w q)(hn:l.length<=24):(oi l).map Rw.l=(l.mapIdx fun n q=>((nf q).2,2^n)).map Rn.l:=by
 unfold oi;apply Hx
 ·exact aR
 ·intro i h1 h2;have hi:i<l.length:=A6;simp only[Rb,List.getElem_mapIdx];obtain⟨X,Z,P,he,g1,g2,g3⟩:=hv l[i] (ey hi);have hp:(2:Nat)^w<=2^12:=js qaj hw;rw[he,df];show [iD (Cg .i64 (X:Int) (cU .i64 (Z:Int) (12:Nat))),iD (cU .i64 1 i)]=[iD ((X+4096*Z:Nat):Int),iD ((2^i:Nat):Int)];rw[cq qad,rx qaj qad,wec,jF qad qad];have e:X ||| Z*2^12=X+4096*Z:=by
   have:=VU (show X<2^12 by omega) Z;rw[Nat.or_comm,Wd Z,<- this];omega
  rw[e]
def lf(l:List Ps):List Rn:=l.mapIdx fun n q=>((nf q).2,2^n)
def bW(l:List Ps):Nat->Rn:=iA (lf l) l.length
theorem rX{w:Nat}(hw:w<=12){l:List Ps}(hv:∀ q,q∈l->Vl w q)(hn:l.length<=24):∀ r,r∈lf l->r.1<2^24/\r.2<2^24:=by
 intro r hr;obtain⟨i,hi,rfl⟩:=List.mem_mapIdx.1 hr;obtain⟨X,Z,P,he,g1,g2,g3⟩:=hv l[i] (ey hi);have hp:(2:Nat)^w<=2^12:=js qaj hw;rw[he,df];refine⟨by show X+4096*Z<2^24;omega,Fq qaj qad⟩
theorem rU(l:List Ps):(lf l).length=l.length:=by simp[lf]
theorem JB{w:Nat}(hw:w<=12){l:List Ps}(hv:∀ q,q∈l->Vl w q)(hn:l.length<=24):PC Pr GG 199 [.sl ((oi l).map Rw.l) false] (.tup [LJ (kH (bW l) l.length) false,LJ (tf (bW l) l.length) false]):=by
 rw[PG hw hv hn];have:=B5 (lf l) false (by rw[rU];omega) (rX hw hv hn);rw[rU]at this;exact this
theorem WP:aq Tryz.f115=true:=ar
theorem YL{w:Nat}(hw:1<=w/\w<=12)(l:List Ps)(t:Bool)(hpos:0<l.length)(hn:l.length<=24)(hv:∀ q,q∈l->Vl w q):PC Pr GG 115 [az l t] (.tup [.bool (decide ((tf (bW l) l.length).length=0)),iD 0]):=by
 have h1:PC Pr GG 198 [az l t] (iD 0):=by
  cases l with
  | nil=>simp at hpos
  | cons r l=>exact yS hw r l t hn hv
 have h2:=JH (G:=GG) l t qad;have h3:=JB hw.2 hv hn;generalize tf (bW l) l.length=K at h3⊢;generalize kH (bW l) l.length=L at h3;generalize (oi l).map Rw.l=R at h2 h3;refine ae pok Tryz.func115 WP ?_;conv=>whnf
 repeat' first|((first|refine aa h1 ?_|refine aa h2 ?_|refine aa h3 ?_);conv=>whnf)|(intro t ht;cases t<;>conv=>whnf)
 ·have e:K.length≠0:=by intro h;simp[h]at ht
  rw[decide_eq_false e];exact fin rfl
 ·have e:K.length=0:=by simp at ht;simp[ht]
  rw[decide_eq_true e];exact fin rfl
 ·exact xt
end Go.Tz
namespace Go.Tz
open Go Go.AL Go.Proofs Go.Ma
variable{G:Nat->Option (List D)}
theorem Yz{l:List Rn}{k:Nat}(h:k<l.length):(l.map Rn.l)[(k:Int).toNat]?=some (l[k]).l:=GJ
theorem Bq(q r:Rn):([(q.1:Int),(q.2:Int)]==[(r.1:Int),(r.2:Int)])=decide (q=r):=by
 obtain⟨a,b⟩:=q;obtain⟨a',b'⟩:=r;rw[tV];simp;omega
def oth(r:Rn)(l:List Rn):Nat:=l.foldl (fun o x=>if x=r then o else o ||| x.1) 0
theorem OK{r:Rn}{l:List Rn}{i:Nat}(h:i<l.length):oth r (l.take (i+1))=if l[i]=r then oth r (l.take i) else oth r (l.take i) ||| l[i].1:=by
 unfold oth;rw[aC h,Lm];rfl
theorem OJ{r:Rn}:∀{l:List Rn},(∀ x,x∈l->x.1<2^24)->oth r l<2^24:=by
 intro l h;have key:∀(l:List Rn) (o:Nat),o<2^24->(∀ x,x∈l->x.1<2^24)->l.foldl (fun o x=>if x=r then o else o ||| x.1) o<2^24:=by
  intro l
  induction l with
  | nil=>exact fun o h _=>h
  | cons x l ih =>
   intro o ho hl;refine ih _ ?_ fun y hy=>hl y (eJ _ hy);show(if x=r then o else o ||| x.1)<2^24;split
   ·exact ho
   ·exact Nat.or_lt_two_pow ho (hl x aR)
 exact key l 0 qaj h
def yh(a b:Nat):Nat:=a^^^(a &&& b)
theorem qI(a b j:Nat):(yh a b).testBit j=(a.testBit j && !b.testBit j):=by
 unfold yh;rw[gy,Fo];cases a.testBit j<;>cases b.testBit j<;>rfl
theorem uY{a b k:Nat}(h:a<2^k):yh a b<2^k:=pn h (JS Rc h)
theorem Di{a b:Nat}(ha:a<2^63)(hb:b<2^63):rl .i64 a b=((yh a b:Nat):Int):=by
 unfold rl;show IntKind.i64.wrap ((BitVec.ofInt 64 a &&& ~~~ BitVec.ofInt 64 b).toNat:Int)=_;have e:(BitVec.ofInt 64 (a:Int) &&& ~~~ BitVec.ofInt 64 (b:Int)).toNat=yh a b:=by
  refine Fs fun j=>?_;rw[qI,BitVec.toNat_and,Fo,gj ha];rw[BitVec.toNat_not,gj hb];by_cases hj:j<64
  ·have:2^64-1-b=2^64-(b+1):=by omega
   rw[this,Nat.testBit_two_pow_sub_succ qad];simp[hj]
  ·rw[LM (uU ha (js qaj qad))];simp
 rw[e];have:=uY (b:=b) ha;exact eK qad qad
def uN(l:List Rn)(r:Rn):Nat:=LK (yh r.1 (oth r l))
theorem tz_le(n:Nat)(h:n<2^24):LK n<=64:=by
 unfold LK;split
 ·exact qad
 ·rename_i h0;have:=(lI h0 h).1;omega
theorem XT:aq Tryz.f246=true:=ar
theorem ZQ(l:List Rn)(t:Bool)(r:Rn)(hn:l.length<=1000)(hr:r.1<2^24)(hl:∀ x,x∈l->x.1<2^24):PC Pr GG 246 [LJ l t,.agg r.l] (iD (uN l r)):=by
 refine ae pok Tryz.func246 XT ?_;conv=>whnf
 skip;refine ax pok (fun i=>⟨[(3,.ptr 0 2 0 0),(5,.d (iD (oth r (l.take i)))),(8,.d (LJ l t)),(9,.d (iD (l.map Rn.l).length)),(10,.d (iD i))],[(0,some (.arr 2 [r.l.map AV.d]))],1⟩) (l.length) (fun _=>True) (trivial) ?_ ar ?_ ?_
 ·exact nr
 ·intro i A_i h_i I_i N_i;have e_i:aD .i64 (i:Int) 1=((i+1:Nat):Int):=ak eH;have hs:=OK (r:=r) h_i;have ho:oth r (l.take i)<2^24:=OJ fun x hx=>hl x (Ci hx);have hx:=hl _ (ey h_i);generalize oth r (l.take i)=o at hs ho⊢;conv=>whnf
  repeat (refine O6.mk _ rfl ?_;conv=>whnf)
  intro t ht;cases t
  ·exact bu
  conv=>whnf
  repeat' first|((first|refine O6.mk _ qem ?_|refine O8.mk _ aK ?_|refine aJ ci ?_|refine HpP.force ?_);conv=>whnf)|(intro t ht;cases t<;>conv=>whnf)
  ·have e:l[i]=r:=by
    have q:=Bq l[i] r;cases c:([(l[i].1:Int),(l[i].2:Int)]==[(r.1:Int),(r.2:Int)]) with
    | true=>rw[c]at q;simpa using q.symm
    | false=>rw[c]at ht;cases ht
   rw[if_pos e]at hs;refine N_i _ ?_ ?_
   ·exact cY
   ·exact qis
  ·have e:l[i]≠r:=by
    intro e;have q:=Bq l[i] r;rw[e]at q;rw[e,q]at ht;simp at ht
   rw[if_neg e]at hs;rw[jF qad qad];refine N_i _ ?_ ?_
   ·exact cY
   ·exact qis
 ·intro A_last I_last;rw[pS];have ho:oth r l<2^24:=OJ hl;have htz:=tz_c (uY (b:=oth r l) hr);rw[<- Di qad qad]at htz;unfold uN;generalize LK (yh r.1 (oth r l))=z at htz⊢;generalize oth r l=o at htz⊢;conv=>whnf
  repeat (refine O6.mk _ rfl ?_;conv=>whnf)
  intro t ht;cases t;rotate_left
  ·exact bu
  conv=>whnf
  repeat' first|((first|refine O6.mk _ rfl ?_|refine aa htz ?_);conv=>whnf)
  exact fin rfl
def FQ(L:List Rn)(a:Nat×Nat)(r:Rn):Nat×Nat:=if a.1.testBit (uN L r)=true then(a.1^^^r.1,a.2^^^r.2) else a
def mr(L:List Rn)(v i:Nat):Nat×Nat:=(L.take i).foldl (FQ L) (v,0)
theorem Db{L:List Rn}{v i:Nat}(h:i<L.length):mr L v (i+1)=FQ L (mr L v i) L[i]:=by
 unfold mr;rw[aC h,Lm];rfl
theorem NJ{L:List Rn}{v:Nat}(hv:v<2^24)(hL:∀ x,x∈L->x.1<2^24/\x.2<2^24)(i:Nat):(mr L v i).1<2^24/\(mr L v i).2<2^24:=by
 have key:∀(l:List Rn) (a:Nat×Nat),(∀ x,x∈l->x.1<2^24/\x.2<2^24)->a.1<2^24/\a.2<2^24->(l.foldl (FQ L) a).1<2^24/\(l.foldl (FQ L) a).2<2^24:=by
  intro l
  induction l with
  | nil=>exact fun a _ h=>h
  | cons x l ih =>
   intro a hl ha;refine ih _ (fun y hy=>hl y (eJ _ hy)) ?_;unfold FQ;have hx:=hl x aR;split
   ·exact⟨pn ha.1 hx.1,pn ha.2 hx.2⟩
   ·exact ha
 exact key _ _ (fun x hx=>hL x (Ci hx)) ⟨hv,sk 24⟩
def ni(w:Int)(l:List Ps)(m:Nat):Nat->Ps
 | 0=>⟨w,0,0,0⟩
 | i+1=>if m.testBit i=true then gw (ni w l m i) (l.getD i Ps.z0) else ni w l m i
theorem Fw(w:Int)(l:List Ps)(m:Nat):∀ i,(ni w l m i).w=w
 | 0=>rfl
 | i+1=>by
  simp only[ni];split
  ·exact Fw w l m i
  ·exact Fw w l m i
def yp(m i:Nat):List (List D):=((List.range i).filter fun n=>m.testBit n).map fun n:Nat=>[iD (n:Int)]
theorem KE(m i:Nat):yp m (i+1)=if m.testBit i=true then yp m i++[[iD i]] else yp m i:=by
 unfold yp;rw[Fa,wd7,nh];by_cases h:m.testBit i=true
 ·rw[if_pos h];simp[h]
 ·rw[if_neg h];simp[h]
theorem Tt(m i:Nat):(yp m i).length<=i:=by
 have:=I5 (fun n=>m.testBit n) (List.range i);simpa[yp] using this
theorem vm(a b c:D):DW (.tup [a,b,c]) (.tup [.any,b,c]):=by
 intro w RO x h;cases h with
 | tup _ cs hs h =>
  refine .tup _ cs hs fun i d hd=>?_
  match i,hd with
  | 0,hd=>simp at hd;subst hd;exact .any _
  | 1,hd=>exact h 1 d hd
  | 2,hd=>exact h 2 d hd
  | i+3,hd=>simp at hd
theorem Md{H:AHeap}{v1 v2 v3:AV}{d1 d2 d3:D}(h1:AsD H v1 d1)(h2:AsD H v2 d2)(h3:AsD H v3 d3):AsD H (.tup [v1,v2,v3]) (.tup [d1,d2,d3]):=by
 refine .tup _ _ rfl fun j v d hv hd=>?_
 match j,hv,hd with
 | 0,hv,hd=>simp at hv hd;subst hv hd;exact h1
 | 1,hv,hd=>simp at hv hd;subst hv hd;exact h2
 | 2,hv,hd=>simp at hv hd;subst hv hd;exact h3
 | j+3,hv,_=>simp at hv
def Yr(l:List Ps)(L:List Rn)(p:Ps):D:=if(mr L (nf p).2 L.length).1=0 then .tup [.any,iD ((aD .i64 (cO .i64 p.p (ni p.w l (mr L (nf p).2 L.length).2 l.length).p) 4).tmod 4),iD 0] else .tup [.any,iD 0,iD 6]
theorem lf_lt{rf:Nat->Rn}{n:Nat}(h:∀ j,(rf j).1<2^24/\(rf j).2<2^24):∀ x,x∈kH rf n->x.1<2^24/\x.2<2^24:=by
 intro x hx;obtain⟨j,_,rfl⟩:=bm.1 (VY.1 hx).1;exact h j
theorem MG:aq Tryz.f194=true:=ar
theorem RV{w:Nat}(hw:1<=w/\w<=12)(l:List Ps)(t:Bool)(p:Ps)(hpos:0<l.length)(hn:l.length<=24)(hv:∀ q,q∈l->Vl w q)(hp:Vl w p)(hg:tf (bW l) l.length=[]) :
  PC Pr GG 194 [az l t,p.d] (Yr l (kH (bW l) l.length) p):=by
 have h1:PC Pr GG 198 [az l t] (iD 0):=by
  cases l with
  | nil=>simp at hpos
  | cons r l=>exact yS hw r l t hn hv
 have h2:=JH (G:=GG) l t qad;have h3:=JB hw.2 hv hn;have h4:=iR (G:=GG) p;rw[qm hw hp]at h4;rw[hg]at h3;have hL:=lf_lt (rf:=bW l) (n:=l.length) (mM (rX hw.2 hv hn) l.length);have hlen:(kH (bW l) l.length).length<=l.length:=by
  have:=I5 (fun r:Rn=>decide (r.1≠0)) ((List.range l.length).map (bW l));simpa[kH] using this
 have hvp:(nf p).2<2^24:=by
  obtain⟨X,Z,P,rfl,g1,g2,g3⟩:=hp;have hp:(2:Nat)^w<=2^12:=js qaj hw.2;rw[df];show X+4096*Z<2^24;omega
 have hbits:Cg .i64 p.x (cU .i64 p.z 12)=(((nf p).2:Nat):Int):=by
  obtain⟨X,Z,P,rfl,g1,g2,g3⟩:=hp;have hp:(2:Nat)^w<=2^12:=js qaj hw.2;rw[df];show Cg .i64 (X:Int) (cU .i64 (Z:Int) (12:Nat))=((X+4096*Z:Nat):Int);rw[rx qaj qad,wec,jF qad qad];have e:X ||| Z*2^12=X+4096*Z:=by
   have:=VU (show X<2^12 by omega) Z;rw[Nat.or_comm,Wd Z,<- this];omega
  rw[e]
 generalize hL0:kH (bW l) l.length=L at h3 hL hlen;clear hL0 hg;generalize (oi l).map Rw.l=R at h2 h3;unfold Yr;generalize (nf p).2=v at hvp hbits⊢;have hl0:∃ r,r∈l/\l[0]?=some r:=⟨l[0],ey hpos,by rw[ew hpos]⟩
 have hg0:(l.map Ps.l)[(0:Int).toNat]?=some (l[0]).l:=AC hpos;have hwp:p.w=(l[0]).w:=by rw[dr hp,dr (hv _ (ey hpos))]
 have hdw:∀ v:AV,∀ H:AHeap,True:=fun _ _=>trivial;refine mG (bg Tryz.func194 MG) (bi pok Tryz.func194 MG ?_);conv=>whnf
 repeat' first|((first|refine O6.mk _ qhg ?_|refine aJ ci ?_|refine aa h1 ?_|refine aa h2 ?_|refine aa h3 ?_|refine aa h4 ?_|refine HpP.force ?_);conv=>whnf)|(intro t ht;cases t<;>conv=>whnf)
 rotate_left
 ·exact xt
 ·exfalso;simp at ht;exact ht hwp
 ·exact xt
 ·exact xt
 refine ax pok (fun i=>⟨[(0,.d (az l t)),(3,.ptr 0 4 0 0),(9,.d (LJ L false)),(11,.d (iD (mr L v i).1)),(12,.d (iD (mr L v i).2)),(52,.d (LJ L false)),(53,.d (iD (L.map Rn.l).length)),(54,.d (iD i))],[(0,some (.arr 4 [p.l.map AV.d]))],1⟩) (L.length) (fun _=>True) (trivial) ?_ ar ?_ ?_
 ·refine ah cW ?_ ?_ trivial
  ·repeat' first|exact trivial|refine⟨⟨by first|rfl|assumption|exact congrArg (fun n=>AV.d (iD n)) hbits,rfl⟩,?_⟩
  ·exact lZ
 ·intro i A_i h_i I_i N_i;have e_i:aD .i64 (i:Int) 1=((i+1:Nat):Int):=ak eH;have hs:=Db (v:=v) h_i;have hb:=NJ hvp hL i;have hr:=hL _ (ey h_i);have ho:=ZQ L false L[i] qad hr.1 fun x hx=>(hL x hx).1;have hle:uN L L[i]<=64:=tz_le _ (uY hr.1);unfold FQ at hs;generalize mr L v i=a at hs hb⊢;generalize uN L L[i]=b at hs ho hle;conv=>whnf
  repeat (refine O6.mk _ rfl ?_;conv=>whnf)
  intro t ht;cases t
  ·exact bu
  conv=>whnf
  repeat' first|((first|refine O6.mk _ qem ?_|refine O8.mk _ aK ?_|refine aJ ci ?_|refine aa ho ?_|refine HpP.force ?_);conv=>whnf)|(intro t ht;cases t<;>conv=>whnf)
  ·rw[dX hle qad]at ht;have e:a.1.testBit b=false:=by
    cases c:a.1.testBit b with
    | false=>rfl
    | true=>rw[c]at ht;simp at ht
   rw[e,if_neg aR]at hs;refine N_i _ ?_ ?_
   ·exact cY
   ·exact qis
  ·rw[dX hle qad]at ht;have e:a.1.testBit b=true:=by
    cases c:a.1.testBit b with
    | true=>rfl
    | false=>rw[c]at ht;simp at ht
   rw[e,if_pos rfl]at hs;rw[ke qad qad,ke qad qad];refine N_i _ ?_ ?_
   ·exact cY
   ·exact qis
 ·intro A_last I_last;have hlt:=NJ hvp hL L.length;generalize mr L v L.length=a at hlt⊢;have ha:∀ i:Nat,i<=64->dI .i64 (iX .i64 (a.2:Int) (i:Int)) 1=if a.2.testBit i=true then 1 else 0:=fun i hi=>dX hi (uU hlt.2 (js qaj qaj))
  conv=>whnf
  repeat (refine O6.mk _ rfl ?_;conv=>whnf)
  intro t ht;cases t;rotate_left
  ·exact bu
  conv=>whnf
  repeat' first|((first|refine O6.mk _ rfl ?_|refine O8.mk _ aK ?_|refine HpP.force ?_);conv=>whnf)|(intro t ht;cases t<;>conv=>whnf)
  rotate_left
  ·have e:a.1≠0:=by simp at ht;omega
   refine fin ⟨_,.d _,?_⟩;rw[if_neg e];exact vm _ _ _
  have e:a.1=0:=G7;rw[if_pos e];refine ax pok (fun i=>⟨[(3,.ptr 0 4 0 0),(12,.d (iD a.2)),(16,.sl 2 1 0 (yp a.2 i).length (yp a.2 i).length false),(17,.ptr 1 4 0 0),(80,.d (az l t)),(81,.d (iD (l.map Ps.l).length)),(82,.d (iD i))],[(0,some (.arr 4 [p.l.map AV.d])),(1,some (.arr 4 [(ni p.w l a.2 i).l.map AV.d])),(2,some (ap 1 (yp a.2 i)))],3⟩) (l.length) (fun _=>True) (trivial) ?_ ar ?_ ?_
  ·refine Sub.trans (fB (t:=16) (S:=1) (dW _) rfl) ?_;refine ah cW ?_ ?_ trivial
   ·exact gn
   ·exact lZ
  ·intro i A_i h_i I_i N_i;have e_i:aD .i64 (i:Int) 1=((i+1:Nat):Int):=ak eH;have hs:=KE a.2 i;have hle:=Tt a.2 i;have hs2:ni p.w l a.2 (i+1)=if a.2.testBit i=true then gw (ni p.w l a.2 i) l[i] else ni p.w l a.2 i:=by
    simp only[ni,jI,ew h_i,Hw]
   have hgw:=Fw p.w l a.2 i;generalize yp a.2 i=O at hs hle;generalize ni p.w l a.2 i=g at hs2 hgw;have hb:=ha i qad;have hgb:0<=g.w/\g.w<=24:=by rw[hgw,dr hp];omega
   conv=>whnf
   repeat (refine O6.mk _ rfl ?_;conv=>whnf)
   intro t ht;cases t
   ·exact bu
   conv=>whnf
   repeat' first|((first|refine O6.mk _ TJ ?_|refine O8.mk _ aK ?_|(refine aJ (by first|exact cF _|exact⟨by simp,by decide,by show(2*(O.length+1)+192)*8<=281474976710656;omega⟩|assumption|exact⟨by kernel_rfl,rfl⟩|decide|omega) ?_)|rw[hJ]|refine jd (tL g [l[i]] true hgb aR) rfl ?_|refine HpP.force ?_);conv=>whnf)|(intro t ht;cases t<;>conv=>whnf)
   ·have e:a.2.testBit i=false:=by
     rw[hb]at ht;cases c:a.2.testBit i with
     | false=>rfl
     | true=>rw[c]at ht;simp at ht
    rw[e,if_neg aR]at hs hs2;refine N_i _ ?_ ?_
    ·exact cY
    ·refine ah cW ?_ ?_ trivial
     ·exact qay
     ·repeat' first|exact trivial|refine⟨⟨di rfl,_,rfl,by first|rfl|assumption|(rw[hs];rfl)|(rw[hs2];rfl),by first|exact ay rfl|exact aj _ _ _|exact au rfl|exact aj _ _ _⟩,?_⟩
   ·have e:a.2.testBit i=true:=by
     rw[hb]at ht;cases c:a.2.testBit i with
     | true=>rfl
     | false=>rw[c]at ht;simp at ht
    rw[e,if_pos rfl]at hs hs2;refine N_i _ ?_ ?_
    ·exact cY
    ·first|refine aO [(2,5)] ?_ ?_ ?_ trivial|refine aI [(2,5)] rfl rfl ?_ ?_ ?_ trivial
     ·exact qb6
     ·repeat' first|exact trivial|refine⟨⟨di rfl,_,rfl,by first|rfl|assumption|exact aw rfl (by first|rfl|assumption|exact aw rfl qg2|(rw[hs2];rfl))|exact aw rfl qg2|(rw[hs2];rfl),by first|exact ay rfl|exact aj _ _ _|exact au rfl|exact aj _ _ _⟩,?_⟩
     ·exact iI
  ·intro A_last I_last;conv=>whnf
   repeat (refine O6.mk _ rfl ?_;conv=>whnf)
   intro t ht;cases t;rotate_left
   ·exact bu
   conv=>whnf
   repeat' first|((first|refine O6.mk _ rfl ?_|refine aJ ci ?_|refine HpP.force ?_);conv=>whnf)
   refine fin ⟨_,Md (fg rfl rfl) (.d _) (.d _),?_⟩;exact vm _ _ _
end Go.Tz
namespace Go.Tz
open Go Go.AL Go.Proofs Go.Ma
variable{G:Nat->Option (List D)}
theorem Xx:aq Tryz.f192=true:=ar
theorem NV(c:Nat)(q:Ps):PC Pr G 192 [.agg [iD (c%2:Nat),iD (c / 2:Nat)],q.d] (iD (gY (if(c:Int)%2=0 then q.x else q.z) ((c:Int) / 2))):=by
 have h:c%2=0\/c%2=1:=qad;have e2:(c:Int) / 2=((c / 2:Nat):Int):=qad;have e1:(if(c:Int)%2=0 then q.x else q.z)=if c%2=0 then q.x else q.z:=by
  by_cases e:c%2=0
  ·rw[if_pos e,if_pos qad]
  ·rw[if_neg e,if_neg qad]
 rw[e1,e2];generalize c / 2=d;refine ae pok Tryz.func192 Xx ?_;rcases h with h|h
 ·rw[h,if_pos rfl];conv=>whnf
  repeat' first|((first|refine O6.mk _ rfl ?_|refine O8.mk _ aK ?_|refine aJ ci ?_|refine HpP.force ?_);conv=>whnf)
  exact fin rfl
 ·rw[h,if_neg qaj];conv=>whnf
  repeat' first|((first|refine O6.mk _ rfl ?_|refine O8.mk _ aK ?_|refine aJ ci ?_|refine HpP.force ?_);conv=>whnf)
  exact fin rfl
theorem Xy:aq Tryz.f193=true:=ar
theorem YC(c:Nat)(q:Ps):PC Pr G 193 [q.d,.rop [iD (c%2:Nat),iD (c / 2:Nat)] 0] (.bool (da q c)):=by
 have hh:=NV (G:=G) c q;have e:da q c=(gY (if(c:Int)%2=0 then q.x else q.z) ((c:Int) / 2)==1):=by
  unfold da;rw[tV];simp
 rw[e];generalize gY (if(c:Int)%2=0 then q.x else q.z) ((c:Int) / 2)=b at hh⊢;refine ae pok Tryz.func193 Xy ?_;conv=>whnf
 repeat' first|((first|refine O6.mk _ rfl ?_|refine aa hh ?_);conv=>whnf)|(intro t ht;cases t<;>conv=>whnf)
 all_goals rw[ht];exact fin rfl
theorem xn(l:List Ps):Blk.arr 4 ((l.map Ps.l).map fun x=>x.map AV.d)=ap 4 ((List.range l.length).map fun j=>Ps.l (l.getD j Ps.z0)):=by
 unfold ap;congr 2;apply Hx
 ·exact aR
 ·exact qjo
theorem pk{w n a f:Nat}{rf:Nat->Ps}(h:∀ j,j<n->Vl w (rf j))(ha:a<n)(hf:f<n):∀ j,j<n->Vl w (bn rf a f j):=by
 intro j hj;unfold bn;split
 ·exact h f hf
 ·split
  ·exact h a ha
  ·exact h j hj
theorem MZ{w n a c i:Nat}{rf:Nat->Ps}(hw:w<=12)(h:∀ j,j<n->Vl w (rf j))(ha:a<n):∀ j,j<n->Vl w (bO rf a c i j):=by
 intro j hj;unfold bO;split
 ·exact dy hw (h j hj) (h a ha)
 ·exact h j hj
theorem fv{rf:Nat->Ps}{n c a f:Nat}(h:kS rf n c a=some f):a<=f/\f<n/\da (rf f) c=true /\ ∀ j,a<=j->j<f->da (rf j) c=false:=by
 unfold kS at h;rw[wdh]at h;obtain⟨p1,p2,p3⟩:=h;simp at p1;refine⟨p1.1,cJ.1 p2,p1.2,fun j hj hlt=>?_⟩;have:=p3 j hlt;simp at this;rcases this with h|h
 ·exact qad
 ·exact h
theorem oX{rf:Nat->Ps}{n c a:Nat}(h:kS rf n c a=none):∀ j,a<=j->j<n->da (rf j) c=false:=by
 intro j hj hlt;unfold kS at h;have:=QG.1 h j (cJ.2 hlt);simpa[hj] using this
theorem fp{w:Nat}(hw:w<=12){l:List Ps}(hv:∀ q,q∈l->Vl w q):∀ c,(∀ j,j<l.length->Vl w ((aG l c).1 j))/\(aG l c).2.2<=l.length
 | 0=>⟨fun j hj=>by simp only[aG,jI,ew hj,Hw];exact hv _ (ey hj),dW _⟩
 | c+1=>by
  obtain⟨q1,q2⟩:=fp hw hv c;simp only[aG,wj];split
  ·exact⟨q1,q2⟩
  ·rename_i f hf;obtain⟨p3,p2,_⟩:=fv hf;have p4:(aG l c).2.2<l.length:=qad;exact⟨MZ hw (pk q1 p4 p2) p4,p4⟩
theorem IU{rf:Nat->Ps}{n c a:Nat}(ha:a<=n):dG (fun q=>da q c) (((List.range n).map rf).drop a)=match kS rf n c a with
  | some f=>((f-a:Nat):Int)
  | none=>-1:=by
 cases h:kS rf n c a with
 | none =>
  have h0:=oX h;refine th fun q hq=>?_;obtain⟨i,hi,rfl⟩:=Uy hq;have hi':i<n-a:=B3;simp only[wd9,Rb,wd5];exact h0 _ qad qad
 | some f =>
  obtain⟨h1,h2,h3,h4⟩:=fv h;have hl:f-a<(((List.range n).map rf).drop a).length:=fF;refine lD hl ?_ fun q hq=>?_
  ·simp only[wd9,Rb,wd5];rw[show a+(f-a)=f by omega];exact h3
  ·obtain⟨i,hi,rfl⟩:=QW.1 hq;have hi':i<f-a:=qad;simp only[wd9,Rb,wd5];exact h4 _ qad qad
theorem Cy{H:AHeap}{nm N a:Nat}{g:Nat->Ps}{t:Bool}(hg:H.get nm=some (ap 4 ((List.range N).map fun j=>(g j).l)))(ha:a<=N):AsD H (.sl nm 4 (0+(a:Int).toNat) (N-(a:Int).toNat) (N-(a:Int).toNat) t) (az (((List.range N).map g).drop a) t):=by
 rw[gx,jj];have:=dt (lo:=a) (len:=N-a) (room:=N-a) (t:=t) hg fF;have e:(((List.range N).map fun j=>(g j).l).drop a).take (N-a)=(((List.range N).map g).drop a).map Ps.l:=by
  rw[pT aR,List.map_drop,pU];rfl
 rw[e]at this;have et:(t&&decide (N-a=N-a))=t:=aR;rw[et]at this;exact this
theorem ee{N:Nat}{f g:Nat->List D}(h:∀ j,f j=g j):Blk.arr 4 (((List.range N).map f).map fun el=>el.map AV.d)=ap 4 ((List.range N).map g):=qgh
theorem qK{H:AHeap}{v1 v2:AV}{d1 d2:D}(h1:AsD H v1 d1)(h2:AsD H v2 d2):AsD H (.agg [v1,v2]) (.agg [d1,d2]):=by
 refine .agg _ _ rfl fun j v d hv hd=>?_
 match j,hv,hd with
 | 0,hv,hd=>simp at hv hd;subst hv hd;exact h1
 | 1,hv,hd=>simp at hv hd;subst hv hd;exact h2
 | j+2,hv,_=>simp at hv
theorem qL{H:AHeap}{f:FuncId}{v:AV}{d:D}(h:AsD H v d):AsD H (.fn f [] [v]) (.fn f [] [d]):=by
 refine .fn f _ _ _ _ rfl rfl (fun j v d h1=>by simp at h1) fun j v' d' h1 h2=>?_
 match j,h1,h2 with
 | 0,h1,h2=>simp at h1 h2;subst h1 h2;exact h
 | j+1,h1,_=>simp at h1
theorem qM{H:AHeap}{nm sz:Nat}{ds:List D}(hg:H.get nm=some (.arr sz [ds.map AV.d])):AsD H (.ptr nm sz 0 0) (.rop ds 0):=by
 refine .ptr nm sz 0 0 _ _ ds hg rfl aR fun j v d h1 h2=>?_;rw[mV,h2]at h1;simp at h1;subst h1;exact .d d
theorem gP{f:FuncId}{v1 v2:AV}{d1 d2 d:D}{H:AHeap}{nx:Nat}{k:AV->AHeap->Nat->Prop}(h:PC Pr G f [d1,d2] d)(h1:AsD H v1 d1)(h2:AsD H v2 d2)(hf:d.flat=true)(hk:k (.d d) H nx):P3 Pr G f [v1,v2] H nx k:=by
 refine Bf h rfl (fun i v d a1 a2=>?_) hf hk
 match i,a1,a2 with
 | 0,a1,a2=>simp at a1 a2;subst a1 a2;exact h1
 | 1,a1,a2=>simp at a1 a2;subst a1 a2;exact h2
 | i+2,a1,_=>simp at a1
theorem Xw:aq Tryz.f191=true:=ar
theorem FD:aq Tryz.f105=true:=ar
theorem yQ{w:Nat}(hw:1<=w/\w<=12)(l:List Ps)(t:Bool)(hn:l.length<=1000)(hv:∀ q,q∈l->Vl w q):bq Pr G 105 [.d (cf w l t)] [] 0 fun v H _=>v = .agg [.d (iD w),.sl 2 4 0 l.length l.length true]/\H.get 2=some (ap 4 ((af l (2*w)).map Ps.l)):=by
 refine bi pok Tryz.func105 FD ?_;conv=>whnf
 repeat' first|((first|refine O6.mk _ rfl ?_|refine O8.mk _ qc8 ?_|(refine aJ (by first|exact⟨mf _,rfl,by show 32*(((l.map Ps.l).length:Nat):Int).toNat<=281474976710656;rw[gx,ef];omega,by decide,by decide⟩|exact ko _|exact qe5|assumption|exact⟨by kernel_rfl,rfl⟩|decide|omega) ?_)|rw[rY]|refine HpP.force ?_);conv=>whnf)
 have eN:(((l.map Ps.l).length:Nat):Int).toNat=l.length:=aR;have hrv:=fp hw.2 hv;have e2:fH .i64 2 (w:Int)=((2*w:Nat):Int):=fk (a:=2) qad;refine ax pok (fun c=>⟨[(1,.ptr 0 2 0 0),(2,.ptr 1 2 0 0),(3,.ptr 3 1 0 0),(4,.d (iD (aG l c).2.2)),(5,.fn 191 [] [.ptr 3 1 0 0]),(20,.d (iD (2*w:Nat))),(21,.d (iD c))],[(0,some (.arr 2 [[.d (iD w),.d (az l t)]])),(1,some (.arr 2 [[.d (iD 0),.d (.sl [] true)]])),(2,some (ap 4 ((List.range l.length).map fun j=>((aG l c).1 j).l))),(3,some (.arr 1 [[.sl 2 4 0 l.length l.length true]]))],4⟩) ((2*w)) (fun _=>True) (trivial) ?_ ar ?_ ?_
 ·refine ah cW ?_ ?_ trivial
  ·repeat' first|exact trivial|refine⟨⟨by first|rfl|assumption|exact congrArg (fun n=>AV.d (iD n)) e2,rfl⟩,?_⟩
  ·repeat' first|exact trivial|refine⟨⟨di rfl,_,rfl,by first|rfl|assumption|exact congrArg some (xn l)|(show some (Blk.arr 1 [[AV.sl 2 4 0 (((l.map Ps.l).length:Nat):Int).toNat (((l.map Ps.l).length:Nat):Int).toNat true]])=_;rw[eN]),by first|exact ay rfl|exact aj _ _ _|exact au rfl⟩,?_⟩
 ·intro c A_c h_c I_c N_c;have e_c:aD .i64 (c:Int) 1=((c+1:Nat):Int):=ak eH;obtain⟨hvr,han⟩:=hrv c;have hnx:aG l (c+1)=wj l.length c (aG l c):=rfl;unfold wj at hnx;generalize hR:aG l c=s at hvr han hnx⊢;obtain⟨rf,wb,a⟩:=s;dsimp only at hvr han hnx⊢;conv=>whnf
  repeat (refine O6.mk _ rfl ?_;conv=>whnf)
  intro t ht;cases t
  ·exact bu
  conv=>whnf
  repeat' first|((first|refine O6.mk _ rfl ?_|refine O8.mk _ aK ?_|refine aJ yd ?_|refine HpP.force ?_);conv=>whnf)
  have e3:(c:Int).tmod 2=((c%2:Nat):Int):=qer;have e4:AF .i64 (c:Int) 2=((c / 2:Nat):Int):=by
   have:=IZ (c:=(c:Int)) (d:=2) qad qad qaj qaj;rw[this];rfl
  rw[e3,e4];have hidx:=FY (G:=G) (((List.range l.length).map rf).drop a) true 193 [] [.rop [iD (c%2:Nat),iD (c / 2:Nat)] 0] (fun q=>da q c) fF fun q _=>YC c q;rw[IU han]at hidx;cases hf:kS rf l.length c a with
  | none =>
   rw[hf]at hidx hnx;dsimp only at hidx hnx;refine gP hidx (Cy rfl han) (qL (qM rfl)) rfl ?_;conv=>whnf
   repeat' first|(refine O6.mk _ rfl ?_;conv=>whnf)|(intro t ht;cases t<;>conv=>whnf)
   ·exact xt
   ·refine N_c _ ?_ ?_
    ·exact cY
    ·refine ah cW ?_ ?_ trivial
     ·repeat' first|exact trivial|refine⟨⟨by first|rfl|assumption|exact congrArg (fun n=>AV.d (iD n)) e_c|(rw[hnx];rfl),rfl⟩,?_⟩
     ·exact VC
  | some f =>
   rw[hf]at hidx hnx;dsimp only at hidx hnx;obtain⟨hf1,hf2,_,_⟩:=fv hf;have haN:a<l.length:=qad;have e6:aD .i64 (a:Int) 1=((a+1:Nat):Int):=ak (b:=1) qad;have e5:aD .i64 (a:Int) ((f-a:Nat):Int)=(f:Int):=by rw[ak qad];congr 1;omega
   refine gP hidx (Cy rfl han) (qL (qM rfl)) rfl ?_;conv=>whnf
   repeat' first|((first|(refine O6.mk _ qc9 ?_)|refine O8.mk _ (by first|exact fr (x:=[_,_,_,_]) haN|exact fr (x:=[_,_,_,_]) hf2|rfl) ?_|refine aJ (by first|(rw[e5];exact⟨mf _,by omega⟩)|exact⟨mf _,by omega⟩|assumption|exact⟨by kernel_rfl,rfl⟩|decide|omega) ?_|rw[e5]|refine HpP.force ?_);conv=>whnf)|(intro t ht;cases t<;>conv=>whnf)
   rotate_left
   ·exact qfa
   have hgv:=pk hvr haN hf2;have hsw:∀ j,(if j=f then [iD (rf a).w,iD (rf a).x,iD (rf a).z,iD (rf a).p] else if j=a then [iD (rf f).w,iD (rf f).x,iD (rf f).z,iD (rf f).p] else Ps.l (rf j))=Ps.l (bO (bn rf a f) a c 0 j):=by
    intro j;have e:bO (bn rf a f) a c 0 j=bn rf a f j:=by simp[bO]
    rw[e];unfold bn;by_cases j1:j=f<;>by_cases j2:j=a
    ·subst j1 j2;rw[if_pos rfl,if_pos rfl];rfl
    ·rw[if_pos j1,if_neg j2,if_pos j1];rfl
    ·rw[if_neg j1,if_pos j2,if_pos j2];rfl
    ·rw[if_neg j1,if_neg j2,if_neg j2,if_neg j1]
   generalize bn rf a f=g at hnx hgv hsw;refine aB pok Tryz.func191 Xw ?_;conv=>whnf
   repeat' first|(refine O6.mk _ rfl ?_;conv=>whnf)
   refine ax pok (fun k=>⟨[(1,.d (iD a)),(2,.ptr 3 1 0 0),(3,.ptr 5 2 0 0),(7,.d (iD l.length)),(8,.d (iD k))],[(0,some (.arr 2 [[.d (iD w),.d (az l t)]])),(1,some (.arr 2 [[.d (iD 0),.d (.sl [] true)]])),(2,some (ap 4 ((List.range l.length).map fun j=>(bO g a c k j).l))),(3,some (.arr 1 [[.sl 2 4 0 l.length l.length true]])),(5,some (.arr 2 [[.d (iD (c%2:Nat)),.d (iD (c / 2:Nat))]]))],6⟩) (l.length) (fun _=>True) (trivial) ?_ ar ?_ ?_
   ·refine ah cW ?_ ?_ trivial
    ·exact gn
    ·exact qcq
   ·intro k A_k h_k I_k N_k;have e_k:aD .i64 (k:Int) 1=((k+1:Nat):Int):=ak eH;have hra:=vZ g a c k;have hrk:=vf g a c k k (cF _);have hset:=@wc g a c k;have hsame:=@oT g a c k;have hh:=NV (G:=G) c (g k);have hb:da (g k) c=(gY (if(c:Int)%2=0 then(g k).x else(g k).z) ((c:Int) / 2)==1):=by
     unfold da;rw[tV];simp
    have ht2:=jN (G:=G) hw (g k) [g a] true aR (hgv k h_k) (by intro r hr;rw[mb.1 hr];exact hgv a haN);rw[<- hrk]at hh hb;rw[<- hra,<- hrk]at ht2;generalize hr:bO g a c k=r at hra hrk hset hsame hh hb ht2;generalize gY (if(c:Int)%2=0 then(r k).x else(r k).z) ((c:Int) / 2)=b at hh hb;have hm:([r a].foldl bc (r k))=bc (r k) (r a):=rfl;rw[hm]at ht2;rw[<- hra,<- hrk]at hset;generalize bc (r k) (r a)=m at ht2 hset;conv=>whnf
    repeat (refine O6.mk _ rfl ?_;conv=>whnf)
    intro t ht;cases t
    ·exact bu
    conv=>whnf
    repeat' first|((first|refine O6.mk _ qef ?_|refine O8.mk _ qc1 ?_|refine aJ yd ?_|refine ab hh ?_|refine ab ht2 ?_|refine HpP.force ?_);conv=>whnf)|(intro t ht;cases t<;>conv=>whnf)
    ·have hka:k=a:=by simp at ht;omega
     have e:bO g a c (k+1)=r:=hsame fun q=>q.1 hka;refine N_k _ ?_ ?_
     ·exact cY
     ·exact qit
    ·have e:bO g a c (k+1)=r:=by
      refine hsame fun q=>?_;rw[<- hrk,hb]at q;rw[q.2]at ht;cases ht
     refine N_k _ ?_ ?_
     ·exact cY
     ·exact qit
    ·have hka:k≠a:=by intro e;subst e;simp at *
     have e:=hset hka (by rw[hb];exact ht);have hblk:∀ j,(if j=k then [iD m.w,iD m.x,iD m.z,iD m.p] else Ps.l (r j))=Ps.l (bO g a c (k+1) j):=by
      intro j;rw[e];dsimp only;split<;>rfl
     refine N_k _ ?_ ?_
     ·exact cY
     ·refine ah cW ?_ ?_ trivial
      ·exact Jz
      ·exact qcn
   ·intro A_last I_last;conv=>whnf
    repeat (refine O6.mk _ rfl ?_;conv=>whnf)
    intro t ht;cases t;rotate_left
    ·exact bu
    conv=>whnf
    skip;refine N_c _ ?_ ?_
    ·exact cY
    ·refine ah cW ?_ ?_ trivial
     ·repeat' first|exact trivial|refine⟨⟨by first|rfl|assumption|exact congrArg (fun n=>AV.d (iD n)) e_c|(rw[hnx];exact congrArg (fun n=>AV.d (iD n)) e6)|(rw[hnx];rfl),rfl⟩,?_⟩
     ·exact VC
 ·intro A_last I_last;conv=>whnf
  repeat (refine O6.mk _ rfl ?_;conv=>whnf)
  intro t ht;cases t;rotate_left
  ·exact bu
  conv=>whnf
  repeat' first|((first|refine O6.mk _ rfl ?_|refine O8.mk _ aK ?_|refine HpP.force ?_);conv=>whnf)
  refine fin ⟨rfl,?_⟩;have e:(af l (2*w)).map Ps.l=(List.range l.length).map fun j=>Ps.l ((aG l (2*w)).1 j):=by
   unfold af;rw[pU];rfl
  rw[e];rfl
theorem qS{w:Nat}(hw:1<=w/\w<=12)(l:List Ps)(t:Bool)(hn:l.length<=1000)(hv:∀ q,q∈l->Vl w q):PC Pr G 105 [cf w l t] (cf w (af l (2*w)) true):=by
 refine de (bg Tryz.func105 FD) (cu (yQ hw l t hn hv) ?_);rintro v H _ ⟨rfl,hg⟩;refine qK (.d _) ?_;have:=dt (nm:=2) (lo:=0) (len:=l.length) (room:=l.length) (t:=true) hg qfu;have e:(((af l (2*w)).map Ps.l).drop 0).take l.length=(af l (2*w)).map Ps.l:=by
  rw[LQ,pT qfu]
 rw[e]at this;have et:(true&&decide (l.length=l.length))=true:=aR;rw[et]at this;exact this
theorem lx{w:Nat}(hw:1<=w/\w<=12)(l:List Ps)(t:Bool)(hn:l.length<=1000)(hv:∀ q,q∈l->Vl w q):PO Pr G 105 [cf w l t] (.agg [.d (iD w),.sl 0 4 0 l.length l.length true]) [(0,some (ap 4 ((af l (2*w)).map Ps.l)))] 1:=by
 refine⟨bg Tryz.func105 FD,bk (yQ hw l t hn hv) ?_⟩;rintro v H n ⟨rfl,hg⟩;refine⟨_,_,1,?_,rfl,rfl,rfl⟩;first|refine aO [(0,2)] ?_ ?_ ?_ trivial|refine aI [(0,2)] rfl rfl ?_ ?_ ?_ trivial
 ·exact gn
 ·exact qaw
 ·exact iI
end Go.Tz
namespace Go.Tz
open Go Go.AL Go.Ma
def ji(q:Ps):Nat:=(nf q).2
theorem tR{w:Nat}(hw:w<=12){q:Ps}(h:Vl w q):sE w (ji q):=by
 obtain⟨X,Z,P,rfl,h1,h2,h3⟩:=h;have hp:(2:Nat)^w<=2^12:=js qaj hw;unfold ji;rw[df];refine wP _ fun j hj=>?_;dsimp only;rw[gX qad];split
 ·exact qe0
 ·exact qe1
theorem xT{w:Nat}(hw:w<=12){q:Ps}(h:Vl w q):ji q<2^24:=pQ _ (Fu hw) _ (tR hw h)
theorem sj{w:Nat}(hw:w<=12){q r:Ps}(hq:Vl w q)(hr:Vl w r):ji (bc q r)=ji q^^^ji r:=by
 unfold ji;rw[dT hw hq hr];rfl
theorem jz{w c:Nat}(hw:w<=12)(hc:c<2*w){q:Ps}(h:Vl w q):da q c=cb (ji q) c:=by
 obtain⟨X,Z,P,rfl,h1,h2,h3⟩:=h;have hp:(2:Nat)^w<=2^12:=js qaj hw;unfold da cb pos ji gY mk;rw[show nf ⟨(w:Int),(X:Int),(Z:Int),(P:Int)⟩=_ from df w X Z P];dsimp only;have e2:(c:Int) / 2=((c / 2:Nat):Int):=qad;rw[e2];by_cases e:c%2=0
 ·rw[if_pos (show(c:Int)%2=0 by omega),if_pos e,dX qad qad,gX qad,if_pos (show c / 2<12 by omega)];cases X.testBit (c / 2)<;>simp
 ·rw[if_neg (show ¬(c:Int)%2=0 by omega),if_neg e,dX qad qad,gX qad,if_neg (show ¬ 12+c / 2<12 by omega),show 12+c / 2-12=c / 2 by omega];cases Z.testBit (c / 2)<;>simp
theorem PJ{n c a:Nat}{R R' pc:Nat->Nat}(h:RR n c a R pc)(e:∀ j,j<n->R j=R' j):RR n c a R' pc:=by
 have ha:=h.an;refine⟨h.an,h.lt,h.mono,fun j hj=>?_,fun i j hi hj hij=>?_,fun j d hj hd=>?_,fun j d h1 h2 h3=>?_⟩
 ·rw[<- e j qad];exact h.own j hj
 ·rw[<- e i hi];exact h.other i j hi hj hij
 ·rw[<- e j qad];exact h.lead j d hj hd
 ·rw[<- e j h2];exact h.zero j d h1 h2 h3
def fJ(l:List Ps)(c j:Nat):Nat:=ji ((aG l c).1 j)
theorem xx{w:Nat}(hw:w<=12){l:List Ps}(hv:∀ q,q∈l->Vl w q){c:Nat}(hc:c<2*w) :
  (kS (aG l c).1 l.length c (aG l c).2.2=none/\aG l (c+1)=aG l c /\ ∀ j,(aG l c).2.2<=j->j<l.length->cb (fJ l c j) c=false) ∨
  ∃ f,(aG l c).2.2<=f/\f<l.length/\(aG l (c+1)).2.2=(aG l c).2.2+1/\(aG l (c+1)).2.1=gZ (bn (aG l c).1 (aG l c).2.2 f) (bn (aG l c).2.1 (aG l c).2.2 f) l.length (aG l c).2.2 c l.length/\cb (fJ l c f) c=true ∧
   ∀ j,j<l.length->fJ l (c+1) j=QQ (yx (fJ l c) (aG l c).2.2 f) (aG l c).2.2 c j:=by
 obtain⟨q1,q2⟩:=fp hw hv c;cases hf:kS (aG l c).1 l.length c (aG l c).2.2 with
 | none =>
  refine .inl ⟨rfl,by simp only[aG,wj,hf],fun j h1 h2=>?_⟩;have:=oX hf j h1 h2;rw[jz hw hc (q1 j h2)]at this;exact this
 | some f =>
  obtain⟨h1,h2,h3,h4⟩:=fv hf;have han:(aG l c).2.2<l.length:=qad;have e1:aG l (c+1)=(bO (bn (aG l c).1 (aG l c).2.2 f) (aG l c).2.2 c l.length,gZ (bn (aG l c).1 (aG l c).2.2 f) (bn (aG l c).2.1 (aG l c).2.2 f) l.length (aG l c).2.2 c l.length,(aG l c).2.2+1):=by simp only[aG,wj,hf]
  rw[jz hw hc (q1 f h2)]at h3;refine .inr ⟨f,h1,h2,by rw[e1],by rw[e1],h3,fun j hj=>?_⟩;have hs:=pk q1 han h2;have sw:∀ j,ji (bn (aG l c).1 (aG l c).2.2 f j)=yx (fJ l c) (aG l c).2.2 f j:=by
   intro j;unfold bn yx fJ;split
   ·rfl
   ·split<;>rfl
  show ji ((aG l (c+1)).1 j)=_;rw[e1];dsimp only;unfold bO QQ;rw[<- sw j,<- sw (aG l c).2.2,<- jz hw hc (hs j hj)];by_cases e:j≠(aG l c).2.2/\da (bn (aG l c).1 (aG l c).2.2 f j) c=true
  ·rw[if_pos ⟨hj,e⟩,if_pos e,sj hw (hs j hj) (hs _ han)]
  ·rw[if_neg (fun q=>e q.2),if_neg e]
theorem PA{w:Nat}(hw:w<=12){l:List Ps}(hv:∀ q,q∈l->Vl w q):∀{c:Nat},c<=2*w->∃ pc,RR l.length c (aG l c).2.2 (fJ l c) pc
 | 0,_=>⟨_,TY _ _⟩
 | c+1,hc=>by
  obtain⟨pc,h⟩:=PA hw hv (c:=c) qad;rcases xx hw hv (c:=c) qad with⟨_,h2,h3⟩|⟨f,f1,f2,f3,_,f4,f5⟩
  ·refine⟨pc,?_⟩;have e:fJ l (c+1)=fJ l c:=by funext j;unfold fJ;rw[h2]
   rw[e,h2];exact TV h h3
  ·refine⟨fun j=>if j=(aG l c).2.2 then c else pc j,?_⟩;rw[f3];refine PJ (C5 (TW h f1 f2) qad ?_) fun j hj=>(f5 j hj).symm;unfold yx;rw[if_pos rfl];exact f4
theorem Ey{n a:Nat}{R:Nat->Nat}(ha:a<n)(t:Nat->Bool)(v:Nat):bG (dH (fun j=>if j≠a/\t j=true then R j^^^R a else R j) n) v=bG (dH R n) v:=by
 have m1:∀ j,j<n->bG (dH R n) (R j)=true:=fun j hj=>bA _ _ (cQ.2 ⟨j,hj,rfl⟩);have m2:∀ j,j<n->bG (dH (fun j=>if j≠a/\t j=true then R j^^^R a else R j) n) (if j≠a/\t j=true then R j^^^R a else R j)=true:=fun j hj=>bA _ _ (cQ.2 ⟨j,hj,rfl⟩);have ma:=m2 a ha;rw[if_neg aR]at ma;refine kq (fun x hx=>?_) (fun x hx=>?_) v
 ·obtain⟨j,hj,rfl⟩:=cQ.1 hx;split
  ·exact dK _ _ _ (m1 j hj) (m1 a ha)
  ·exact m1 j hj
 ·obtain⟨j,hj,rfl⟩:=cQ.1 hx;have:=m2 j hj;split at this
  ·have h2:=dK _ _ _ this ma
   rwa [bL]at h2
  ·exact this
theorem PS{n a f:Nat}{R:Nat->Nat}(ha:a<n)(hf:f<n)(v:Nat):bG (dH (yx R a f) n) v=bG (dH R n) v:=by
 refine kq (fun x hx=>?_) (fun x hx=>?_) v
 ·obtain⟨j,hj,rfl⟩:=cQ.1 hx;obtain⟨i,hi,e,_⟩:=BC (f:=R) ha hf hj;rw[e];exact bA _ _ (cQ.2 ⟨i,hi,rfl⟩)
 ·obtain⟨j,hj,rfl⟩:=cQ.1 hx;by_cases e1:j=a
  ·refine bA _ _ (cQ.2 ⟨f,hf,?_⟩);unfold yx;by_cases e2:f=a
   ·rw[if_pos e2,e1,e2]
   ·rw[if_neg e2,if_pos rfl,e1]
  ·by_cases e2:j=f
   ·refine bA _ _ (cQ.2 ⟨a,ha,?_⟩);unfold yx;rw[if_pos rfl,e2]
   ·refine bA _ _ (cQ.2 ⟨j,hj,?_⟩);unfold yx;rw[if_neg e1,if_neg e2]
theorem mO{r r':Nat->Nat}:∀{n:Nat},(∀ j,j<n->r j=r' j)->dH r n=dH r' n
 | 0,_=>rfl
 | n+1,h=>by simp only[dH];rw[h n qad,mO fun j hj=>h j qad]
theorem lR{w:Nat}(hw:w<=12){l:List Ps}(hv:∀ q,q∈l->Vl w q)(v:Nat):∀{c:Nat},c<=2*w->bG (dH (fJ l c) l.length) v=bG (dH (fJ l 0) l.length) v
 | 0,_=>rfl
 | c+1,hc=>by
  rw[<- lR hw hv v (c:=c) qad];rcases xx hw hv (c:=c) qad with⟨_,h2,h3⟩|⟨f,f1,f2,f3,_,f4,f5⟩
  ·have e:fJ l (c+1)=fJ l c:=by funext j;unfold fJ;rw[h2]
   rw[e]
  ·have ha:(aG l c).2.2<l.length:=by omega
   rw[mO f5,<- PS (R:=fJ l c) ha f2 v];exact Ey (R:=yx (fJ l c) (aG l c).2.2 f) ha (fun j=>cb (yx (fJ l c) (aG l c).2.2 f j) c) v
theorem Bp{w:Nat}(hw:w<=12){l:List Ps}(hv:∀ q,q∈l->Vl w q):∃ pc,RR l.length (2*w) (aG l (2*w)).2.2 (fJ l (2*w)) pc/\Piv l.length (fJ l (2*w)) (fun i=>pos (pc i)) fun i=>decide (i<(aG l (2*w)).2.2):=by
 obtain⟨pc,h⟩:=PA hw hv (cF _);exact⟨pc,h,C6 h fun j hj hz=>Ia hw (tR hw ((fp hw hv _).1 j hj)) hz⟩
def nd(l:List Ps)(m j:Nat):Nat:=(iA (lf l) m j).1
theorem rwv_0(l:List Ps){j:Nat}(hj:j<l.length):nd l 0 j=fJ l 0 j:=by
 unfold nd fJ;have h2:j<(lf l).length:=qg9;simp only[iA,aG,jI,ew hj,ew h2,Hw];simp[lf,ji]
theorem Es(l:List Ps)(m:Nat):nd l (m+1)=if nd l m m≠0 then(fun k=>if k<(lf l).length/\k≠m/\(nd l m k).testBit (rB (nd l m m))=true then nd l m k^^^nd l m m else nd l m k) else nd l m:=by
 funext k;unfold nd;simp only[iA];split
 ·unfold kz;dsimp only;split<;>rfl
 ·rfl
theorem xC{w:Nat}(hw:w<=12){l:List Ps}(hv:∀ q,q∈l->Vl w q)(hn:l.length<=24)(v:Nat):∀{m:Nat},m<=l.length->bG (dH (nd l m) l.length) v=bG (dH (fJ l 0) l.length) v
 | 0,_=>by rw[mO fun j hj=>rwv_0 l hj]
 | m+1,hm=>by
  rw[<- xC hw hv hn v (m:=m) qad,Es];split
  ·rw[<- Ey (R:=nd l m) (a:=m) qad (fun k=>(nd l m k).testBit (rB (nd l m m))) v];congr 1;refine mO fun j hj=>?_;have:j<(lf l).length:=qg9;simp only[this,true_and]
  ·rfl
theorem JJ{w:Nat}(hw:w<=12){l:List Ps}(hv:∀ q,q∈l->Vl w q)(hn:l.length<=24):∀{m:Nat},m<=l.length->∃ p:Nat->Nat,(∀ j,j<m->nd l m j≠0->(nd l m j).testBit (p j)=true) /\ ∀ i j,i<l.length->j<m->i≠j->nd l m j≠0->(nd l m i).testBit (p j)=false
 | 0,_=>⟨fun _=>0,by omega,by omega⟩
 | m+1,hm=>by
  obtain⟨p,h1,h2⟩:=JJ hw hv hn (m:=m) qad;have hlt:=mM (rX hw hv hn) m;rw[Es];by_cases h0:nd l m m≠0
  ·rw[if_pos h0];obtain⟨hl,hb,_⟩:=lI h0 (hlt m).1;generalize rB (nd l m m)=b at hl hb;have hmj:∀ j,j<m->nd l m j≠0->(nd l m m).testBit (p j)=false:=fun j hj hz=>h2 m j qad hj qad hz;have nz:∀ j,j<m->(if j<(lf l).length/\j≠m/\(nd l m j).testBit b=true then nd l m j^^^nd l m m else nd l m j)≠0->nd l m j≠0:=by
    intro j hj h e;rw[e]at h;simp at h
   refine⟨fun j=>if j=m then b else p j,fun j hj hz=>?_,fun i j hi hj hij hz=>?_⟩
   ·dsimp only at hz⊢;by_cases e:j=m
    ·subst e;rw[if_pos rfl,if_neg aR];exact hb
    ·rw[if_neg e];have hj':j<m:=qad;have hz':=nz j hj' hz;split
     ·rw[gy,h1 j hj' hz',hmj j hj' hz'];rfl
     ·exact h1 j hj' hz'
   ·dsimp only at hz⊢;have hil:i<(lf l).length:=by rw[rU];exact hi
    by_cases e:j=m
    ·subst e;rw[if_pos rfl];by_cases c:(nd l j i).testBit b=true
     ·rw[if_pos ⟨hil,hij,c⟩,gy,c,hb];rfl
     ·rw[if_neg fun q=>c q.2.2];simpa using c
    ·rw[if_neg e];have hj':j<m:=qad;have hz':=nz j hj' hz;split
     ·rw[gy,h2 i j hi hj' hij hz',hmj j hj' hz'];rfl
     ·exact h2 i j hi hj' hij hz'
  ·rw[if_neg h0];simp only[ne_eq,Decidable.not_not]at h0;refine⟨p,fun j hj hz=>?_,fun i j hi hj hij hz=>?_⟩
   ·exact h1 j qeb hz
   ·exact h2 i j hi qeb hij hz
theorem JI{w:Nat}(hw:w<=12){l:List Ps}(hv:∀ q,q∈l->Vl w q)(hn:l.length<=24):∃ p,Piv l.length (nd l l.length) p fun i=>decide (nd l l.length i≠0):=by
 obtain⟨p,h1,h2⟩:=JJ hw hv hn (cF _);exact⟨p,fun i hi ha=>h1 i hi LG,fun i j hi hj hij ha=>h2 i j hi hj hij LG,fun i _ ha=>by simpa using ha⟩
theorem Je{w:Nat}(hw:w<=12){q:Ps}(h:Vl w q):0<=cX q ↔ ji q≠0:=by
 have hww:=dr h;have key:∀ f k,k+f=2*w->(0<=lG q f k ↔ ∃ d,k<=d/\d<2*w/\da q d=true):=by
  intro f
  induction f with
  | zero =>
   intro k hk;constructor
   ·intro h;simp[lG]at h
   ·rintro⟨d,h1,h2,_⟩;omega
  | succ f ih =>
   intro k hk;simp only[lG];by_cases hb:da q k=true
   ·rw[if_pos hb];exact⟨fun _=>⟨k,cF _,by omega,hb⟩,fun _=>by omega⟩
   ·rw[if_neg hb,ih (k+1) qad];constructor
    ·rintro⟨d,h1,h2,h3⟩;exact⟨d,by omega,h2,h3⟩
    ·rintro⟨d,h1,h2,h3⟩;refine⟨d,?_,h2,h3⟩;rcases wa1 k d with e|e
     ·exact qad
     ·have:d=k:=by omega
      subst this;exact absurd h3 hb
 unfold cX;rw[hww,gx,key _ 0 qad];constructor
 ·rintro⟨d,_,h2,h3⟩ e;rw[jz hw h2 h,e]at h3;simp[cb]at h3
 ·intro hz;refine Fp fun hn=>hz (Ia hw (tR hw h) fun d hd=>?_);rw[<- jz hw hd h];cases e:da q d with
  | false=>rfl
  | true=>exact absurd ⟨d,dW _,hd,e⟩ hn
theorem wg{act:Nat->Bool}:∀ n,Ma.cnt act n=(List.range n).countP act
 | 0=>rfl
 | n+1=>by
  rw[Fa,QY,<- wg n];simp only[Ma.cnt,wdo];cases act n<;>rfl
theorem vz{w:Nat}(hw:w<=12){l:List Ps}(hv:∀ q,q∈l->Vl w q):nc (af l (2*w))=rk (dH (fJ l 0) l.length):=by
 obtain⟨pc,h1,h2⟩:=Bp hw hv;have hb:∀ c,∀ a,a∈dH (fJ l c) l.length->a<2^24:=by
  intro c a ha;obtain⟨j,hj,rfl⟩:=cQ.1 ha;exact xT hw ((fp hw hv c).1 j hj)
 have e1:=pN (hb (2*w)) (hb 0) fun v=>lR hw hv v (cF _);rw[<- e1,GY h2];unfold nc af;rw[List.countP_map,wg];refine List.countP_congr fun j hj=>?_;have hjn:=cJ.1 hj;have hvl:=(fp hw hv (2*w)).1 j hjn;simp only[Function.comp,decide_eq_true_eq];rw[Je hw hvl];constructor
 ·intro hz;refine Fp fun hn=>hz (h2.zero j hjn TM)
 ·intro hlt e;have:=h2.own j hjn (by simpa using hlt);rw[show fJ l (2*w) j=0 from e]at this;simp at this
theorem Sm{w:Nat}(hw:w<=12){l:List Ps}(hv:∀ q,q∈l->Vl w q)(hn:l.length<=24):(tf (bW l) l.length).length=0 ↔ rk (dH (fJ l 0) l.length)=l.length:=by
 obtain⟨p,h2⟩:=JI hw hv hn;have hb:∀ a,a∈dH (fJ l 0) l.length->a<2^24:=by
  intro a ha;obtain⟨j,hj,rfl⟩:=cQ.1 ha;exact xT hw ((fp hw hv 0).1 j hj)
 have hb2:∀ a,a∈dH (nd l l.length) l.length->a<2^24:=by
  intro a ha;obtain⟨j,hj,rfl⟩:=cQ.1 ha;exact(mM (rX hw hv hn) _ j).1
 have e1:=pN hb2 hb fun v=>xC hw hv hn v (cF _);rw[<- e1,GY h2,Aa];unfold tf bW;rw[QE,List.filter_eq_nil_iff];constructor
 ·intro h i hi;have:=h _ (bm.2 ⟨i,cJ.2 hi,rfl⟩);exact decide_eq_true (by simpa[nd] using this)
 ·intro h r hr;obtain⟨i,hi,rfl⟩:=bm.1 hr;have:=of_decide_eq_true (h i (cJ.1 hi));simpa[nd] using this
theorem rq{w:Nat}(hw:w<=12){l:List Ps}(hv:∀ q,q∈l->Vl w q)(hn:l.length<=24):(tf (bW l) l.length).length=0 ↔ nc (af l (2*w))=l.length:=by
 rw[Sm hw hv hn,vz hw hv]
end Go.Tz
namespace Go.Tz
open Go Go.AL Go.Proofs
def dC(w:Nat):List Ps:=(List.range w).map fun i=>⟨w,0,((2^i:Nat):Int),0⟩
def zD(w:Nat):D:=.tup [cf w (dC w) false,iD 0]
noncomputable def E9(w:Nat):Bool:=match rn 30 [iD w] with
 | some d=>dB d (zD w)
 | none=>false
theorem UG{w:Nat}(h:E9 w=true):PC Pr GG 30 [iD w] (zD w):=by
 unfold E9 at h;split at h
 ·rename_i d hd;rw[<- Na _ _ h];exact kL hd
 ·cases h
theorem tY{w:Nat}(h1:1<=w)(h2:w<=12):PC Pr GG 30 [iD w] (zD w):=by
 have h:((List.range 12).all fun i=>E9 (i+1))=true:=ar;have:=lh.1 h (w-1) (cJ.2 qad);rw[show w-1+1=w by omega]at this;exact UG this
end Go.Tz
