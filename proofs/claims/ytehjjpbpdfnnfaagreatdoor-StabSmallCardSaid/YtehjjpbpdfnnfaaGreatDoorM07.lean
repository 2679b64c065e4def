import Derived.Test.YtehjjpbpdfnnfaaGreatDoorM00
import Derived.Test.YtehjjpbpdfnnfaaGreatDoorM06
namespace Go.Tz
open Go Go.AL Go.Ma
theorem SZ{w:Nat}(hw:w<=12){q:Ps}(h:Vl w q){d:Nat}(hd:d<2*w)(h1:cb (ji q) d=true)(h2:∀ e,e<d->cb (ji q) e=false):cX q=d:=by
 have key:∀ f k,k+f=2*w->k<=d->lG q f k=d:=by
  intro f
  induction f with
  | zero=>intro k e1 e2;omega
  | succ f ih =>
   intro k e1 e2;simp only[lG];rw[jz hw qad h];by_cases e:k=d
   ·subst e;rw[if_pos h1]
   ·rw[h2 k qad,if_neg aR];exact ih (k+1) qad qad
 unfold cX;rw[dr h,gx];exact key _ _ qad qad
theorem TS(l:List Ps){c i:Nat}(hi:i<l.length):(af l c).getD i Ps.z0=(aG l c).1 i:=by
 unfold af;simp[jI,hi]
theorem PP{w:Nat}(hw:w<=12){l:List Ps}(hv:∀ q,q∈l->Vl w q){p:Ps}(hp:Vl w p){pc:Nat->Nat}(h1:RR l.length (2*w) (aG l (2*w)).2.2 (fJ l (2*w)) pc)(h2:Piv l.length (fJ l (2*w)) (fun i=>pos (pc i)) fun i=>decide (i<(aG l (2*w)).2.2)) :
  ∀ i,i<=l.length->Vl w (jp (af l (2*w)) (aG l (2*w)).2.1 p i).1/\ji (jp (af l (2*w)) (aG l (2*w)).2.1 p i).1=zy (fJ l (2*w)) (fun i=>pos (pc i)) (fun i=>decide (i<(aG l (2*w)).2.2)) (ji p) i ∧
   ji (jp (af l (2*w)) (aG l (2*w)).2.1 p i).1=ji p^^^xr (fJ l 0) (jp (af l (2*w)) (aG l (2*w)).2.1 p i).2 l.length
 | 0,_=>⟨hp,rfl,by show ji p=ji p^^^xr (fJ l 0) (fun _=>false) l.length;rw[ss fun _ _=>rfl,zF]⟩
 | i+1,hi=>by
  obtain⟨g1,g2,g3⟩:=PP hw hv hp h1 h2 i qad;have hqv:=(fp hw hv (2*w)).1 i qad;have hsum:=Em hw hv (cF (2*w)) i qad;simp only[jp,xF,TS l (show i<l.length by omega),zy];have hr:fJ l (2*w) i=ji ((aG l (2*w)).1 i):=rfl;by_cases ha:i<(aG l (2*w)).2.2
  ·have hld:cX ((aG l (2*w)).1 i)=pc i:=SZ hw hqv (h1.lt i ha) (h1.own i ha) (fun e he=>h1.lead i e ha he);have hb:da (jp (af l (2*w)) (aG l (2*w)).2.1 p i).1 (cX ((aG l (2*w)).1 i))=(zy (fJ l (2*w)) (fun i=>pos (pc i)) (fun i=>decide (i<(aG l (2*w)).2.2)) (ji p) i).testBit (pos (pc i)):=by
    rw[hld,jz hw (h1.lt i ha) g1,g2];rfl
   by_cases e:(zy (fJ l (2*w)) (fun i=>pos (pc i)) (fun i=>decide (i<(aG l (2*w)).2.2)) (ji p) i).testBit (pos (pc i))=true
   ·rw[if_pos (show 0<=cX ((aG l (2*w)).1 i)/\da (jp (af l (2*w)) (aG l (2*w)).2.1 p i).1 (cX ((aG l (2*w)).1 i))=true from⟨by rw[hld];omega,hb.trans e⟩)];rw[if_pos (show(decide (i<(aG l (2*w)).2.2)&&(zy (fJ l (2*w)) (fun i=>pos (pc i)) (fun i=>decide (i<(aG l (2*w)).2.2)) (ji p) i).testBit (pos (pc i)))=true by rw[decide_eq_true ha,e];rfl)];refine⟨dy hw g1 hqv,?_,?_⟩
    ·rw[sj hw g1 hqv,g2];rfl
    ·rw[sj hw g1 hqv,g3,yc,py,<- hsum];rfl
   ·rw[if_neg (show ¬(0<=cX ((aG l (2*w)).1 i)/\da (jp (af l (2*w)) (aG l (2*w)).2.1 p i).1 (cX ((aG l (2*w)).1 i))=true) from fun h=>e (hb.symm.trans h.2))];rw[if_neg (show ¬(decide (i<(aG l (2*w)).2.2)&&(zy (fJ l (2*w)) (fun i=>pos (pc i)) (fun i=>decide (i<(aG l (2*w)).2.2)) (ji p) i).testBit (pos (pc i)))=true from fun h=>e (Bool.and_eq_true_iff.1 h).2)];exact⟨g1,g2,g3⟩
  ·have hz:ji ((aG l (2*w)).1 i)=0:=h2.zero i qad LG;have hn:¬ 0<=cX ((aG l (2*w)).1 i):=fun h=>(Je hw hqv).1 h hz;rw[if_neg (show ¬(0<=cX ((aG l (2*w)).1 i)/\da (jp (af l (2*w)) (aG l (2*w)).2.1 p i).1 (cX ((aG l (2*w)).1 i))=true) from fun h=>hn h.1)];rw[if_neg (show ¬(decide (i<(aG l (2*w)).2.2)&&(zy (fJ l (2*w)) (fun i=>pos (pc i)) (fun i=>decide (i<(aG l (2*w)).2.2)) (ji p) i).testBit (pos (pc i)))=true from fun h=>ha (by simpa using (Bool.and_eq_true_iff.1 h).1))];exact⟨g1,g2,g3⟩
theorem vec_z{w:Nat}{q:Ps}(h:Vl w q):(q.x≠0\/q.z≠0) ↔ ji q≠0:=by
 obtain⟨X,Z,P,rfl,h1,h2,h3⟩:=h;unfold ji;rw[df];show((X:Int)≠0\/(Z:Int)≠0) ↔ X+4096*Z≠0;omega
theorem BT(w:Nat):Vl w ⟨w,0,0,0⟩:=⟨0,0,0,rfl,sk w,sk w,by decide⟩
theorem Gl(w:Nat):nf ⟨w,0,0,0⟩=e1:=by
 show nf (mk w 0 0 0)=e1;rw[df];decide
theorem Bt{l:List Ps}{v:Nat}:bG (dH (fJ l 0) l.length) v=bG ((l.map nf).map (·.2)) v:=by
 rw[tB];have e:l.map ji=(l.map nf).map (·.2):=by rw[pU];rfl
 rw[e];exact kq (fun a ha=>bA _ _ (VT.1 ha)) (fun a ha=>bA _ _ (VT.2 ha)) v
theorem Pz(l:List Ps){i:Nat}(hi:i<l.length):fJ l 0 i=ji l[i]:=by
 unfold fJ;simp only[aG,jI,ew hi,Hw]
theorem Jv{w:Nat}(hw:w<=12){l:List Ps}(hv:∀ q,q∈l->Vl w q)(hG:Good (l.map nf))(f:Nat->Bool):∀ i,i<=l.length->Vl w (ii w ((BG f i).map fun n=>l.getD n Ps.z0))/\Gen (l.map nf) (nf (ii w ((BG f i).map fun n=>l.getD n Ps.z0)))/\ji (ii w ((BG f i).map fun n=>l.getD n Ps.z0))=xr (fJ l 0) f i
 | 0,_=>⟨BT w,by show Gen _ (nf ⟨w,0,0,0⟩);rw[Gl];exact .one,rfl⟩
 | i+1,hi=>by
  obtain⟨g1,g2,g3⟩:=Jv hw hv hG f i qad;rw[EO];simp only[xr];by_cases e:f i=true
  ·rw[if_pos e,if_pos e,nh,List.map_singleton,xl];have hq:l.getD i Ps.z0=l[i]:=qel;rw[hq];have hm:=ey (show i<l.length by omega);refine⟨dy hw g1 (hv _ hm),?_,?_⟩
   ·exact qet
   ·rw[sj hw g1 (hv _ hm),g3,Pz l qad]
  ·rw[if_neg e,if_neg e];exact⟨g1,g2,g3⟩
theorem p_eq{w:Nat}(hw:w<=12){q r:Ps}(hq:Vl w q)(hr:Vl w r)(hv:ji q=ji r):q.p=r.p ↔ nf q=nf r:=by
 obtain⟨X,Z,P,rfl,h1,h2,h3⟩:=hq;obtain⟨X',Z',P',rfl,h4,h5,h6⟩:=hr;unfold ji at hv;rw[df,df]at hv⊢;dsimp only at hv;have hp:(2:Nat)^w<=2^12:=js qaj hw;have e1:X=X':=qad;have e2:Z=Z':=qad;subst e1 e2;show(P:Int)=(P':Int) ↔ _;constructor
 ·intro h;have:P=P':=qad;rw[this]
 ·intro h;have:=congrArg Prod.fst h;dsimp only at this;omega
structure Q5 (L:List E) (g:E) (e:Int):Prop where
 pos:Gen L g->e=1
 neg:Gen L (dp g)->e = -1
 zero:¬ Gen L g->¬ Gen L (dp g)->e=0
theorem wu{L M:List E}(h:gz L M){g:E}{e e':Int}(h1:Q5 L g e)(h2:Q5 M g e'):e=e':=by
 by_cases a:Gen L g
 ·rw[h1.pos a,h2.pos ((h g).1 a)]
 ·by_cases b:Gen L (dp g)
  ·rw[h1.neg b,h2.neg ((h _).1 b)]
  ·rw[h1.zero a b,h2.zero (fun c=>a ((h g).2 c)) (fun c=>b ((h _).2 c))]
theorem kE{w:Nat}{l:List Ps}(h:SOk w l){p:Ps}(hp:Vl w p)(hk:tc (nf p)):Q5 (l.map nf) (nf p) (cI w l p):=by
 have hst:=cN h;obtain⟨pc,r1,r2⟩:=Bp h.hi h.vl;obtain⟨g1,g2,g3⟩:=PP h.hi h.vl hp r1 r2 l.length (cF _);have hz:=Ew r2 (ji p);rw[<- g2,lR h.hi h.vl _ (cF _),Bt]at hz;have hx:=vec_z g1;unfold cI phR tkP;have hsv:QU w l p=jp (af l (2*w)) (aG l (2*w)).2.1 p l.length:=rfl;rw[hsv];generalize jp (af l (2*w)) (aG l (2*w)).2.1 p l.length=s at g1 g2 g3 hz hx⊢;by_cases e:ji s.1=0
 ·rw[if_neg (fun q=>hx.1 q e)];rw[e]at g3;have hxr:xr (fJ l 0) s.2 l.length=ji p:=by
   have:=congrArg (· ^^^ xr (fJ l 0) s.2 l.length) g3;simpa only[bL,Lo] using this
  obtain⟨k1,k2,k3⟩:=Jv h.hi h.vl hst.good s.2 l.length (cF _);rw[hxr]at k3;generalize ii w ((BG s.2 l.length).map fun n=>l.getD n Ps.z0)=g at k1 k2 k3⊢;have hpe:=p_eq h.hi hp k1 k3.symm;have hph:(cO .i64 (aD .i64 4 p.p) g.p).tmod 4=0 ↔ p.p=g.p:=by
   obtain⟨X,Z,P,rfl,_,_,a3⟩:=hp;obtain⟨X',Z',P',rfl,_,_,b3⟩:=k1;show(cO .i64 (aD .i64 4 (P:Int)) (P':Int)).tmod 4=0 ↔ (P:Int)=P';have e1:aD .i64 4 (P:Int)=((4+P:Nat):Int):=ak (a:=4) qad;rw[e1,iY qad qad];have e2:(((4+P-P':Nat):Int)).tmod 4=(((4+P-P')%4:Nat):Int):=rfl;rw[e2];omega
  refine⟨fun q=>?_,fun q=>?_,fun a b=>?_⟩
  ·rw[if_pos (hph.2 (hpe.2 (nU hst.good hst.ind q k2 k3.symm)))]
  ·rw[if_neg fun c=>?_];have e1:=hpe.1 (hph.1 c);have e2:=nU hst.good hst.ind q k2 k3.symm;rw[<- e1]at e2;exact Ag hk.1 e2
  ·exact qiv
 ·rw[if_pos (hx.2 e)];refine⟨fun q=>absurd (hz.2 (eb q)) e,fun q=>absurd (hz.2 (eb (g:=dp (nf p)) q)) e,fun _ _=>rfl⟩
end Go.Tz
namespace Go.Tz
open Go Go.AL Go.Ma
theorem El(l:List Ps):∀ m,m<=l.length->∀ j,j<l.length->(iA (lf l) m j).1=xr (fJ l 0) (fun q=>(iA (lf l) m j).2.testBit q) l.length
 | 0,_,j,hj=>by
  have h0:iA (lf l) 0 j=(ji l[j],2^j):=by
   show(lf l).getD j (0,0)=_;rw[jI,ew qg9];simp[lf,ji]
  rw[h0];dsimp only;rw[pr (m':=fun q=>q==j) fun q _=>by rw[ll,tV];simp;exact eq_comm,Cc hj,Pz l hj]
 | m+1,hm,j,hj=>by
  have ih:=El l m qad;simp only[iA];by_cases e:(iA (lf l) m m).1≠0
  ·rw[if_pos e];unfold kz;by_cases c:j<(lf l).length/\j≠m/\(iA (lf l) m j).1.testBit (rB (iA (lf l) m m).1)=true
   ·rw[if_pos c];dsimp only;rw[ih j hj,ih m qad,<- yc];exact pr fun q _=>by rw[gy]
   ·rw[if_neg c];exact ih j hj
  ·rw[if_neg e];exact ih j hj
theorem Jo(r:Rn)(j:Nat):∀ l:List Rn,(oth r l).testBit j=l.any fun x=>decide (x≠r)&&x.1.testBit j:=by
 have key:∀(l:List Rn) (o:Nat),(l.foldl (fun o x=>if x=r then o else o ||| x.1) o).testBit j=(o.testBit j||l.any fun x=>decide (x≠r)&&x.1.testBit j):=by
  intro l
  induction l with
  | nil=>intro o;simp
  | cons x l ih =>
   intro o;rw[VZ,ih,List.any_cons];by_cases e:x=r
   ·rw[if_pos e];simp[e]
   ·rw[if_neg e,Nat.testBit_or];simp[e,Bool.or_assoc]
 intro l;unfold oth;rw[key,Cj,Bool.false_or]
theorem Gf{l:List Ps}(h:tf (bW l) l.length=[]):kH (bW l) l.length=(List.range l.length).map (bW l):=by
 unfold tf at h;unfold kH;rw[List.filter_eq_self];intro r hr;rw[List.filter_eq_nil_iff]at h;have:=h r hr;simpa using this
theorem TA{w:Nat}{l:List Ps}(h:SOk w l):Piv l.length (nd l l.length) (fun i=>uN (kH (bW l) l.length) (bW l i)) fun _=>true:=by
 have hg:tf (bW l) l.length=[]:=QE.1 ((rq h.hi h.vl qdn).2 h.rank);have hn:l.length<=24:=qdn;obtain⟨p,hp⟩:=JI h.hi h.vl hn;have hall:=Gf hg;have hlt:=mM (rX h.hi h.vl hn) l.length;have hnz:∀ i,i<l.length->nd l l.length i≠0:=fun i hi e=>by
  unfold tf at hg;rw[List.filter_eq_nil_iff]at hg;have:=hg (bW l i) (bm.2 ⟨i,cJ.2 hi,rfl⟩);simp at this;exact this e
 have hbit:∀ i,i<l.length->(yh (bW l i).1 (oth (bW l i) (kH (bW l) l.length))).testBit (uN (kH (bW l) l.length) (bW l i))=true:=by
  intro i hi;have h0:yh (bW l i).1 (oth (bW l i) (kH (bW l) l.length))≠0:=fun e=>by
   have h1:(yh (bW l i).1 (oth (bW l i) (kH (bW l) l.length))).testBit (p i)=true:=by
    rw[qI,Jo];have a1:(bW l i).1.testBit (p i)=true:=hp.own i hi (by simpa using hnz i hi);rw[a1,Bool.true_and,web,BX];intro x hx;rw[hall]at hx;obtain⟨j,hj,rfl⟩:=bm.1 hx;have hj:=cJ.1 hj;by_cases q:j=i
    ·subst q;simp
    ·have:=hp.other j i hj hi q (by simpa using hnz i hi);have t:(bW l j).1.testBit (p i)=false:=this;rw[t];simp
   rw[e,Cj]at h1;cases h1
  unfold uN LK;rw[if_neg h0];exact(lI h0 (uY (hlt i).1)).2.1
 refine⟨fun i hi _=>?_,fun i j hi hj hij _=>?_,fun i _ h=>by cases h⟩
 ·have:=hbit i hi;rw[qI]at this;exact(Bool.and_eq_true_iff.1 this).1
 ·have:=hbit j hj;rw[qI]at this;have h2:=(Bool.and_eq_true_iff.1 this).2;rw[web,Jo,BX]at h2;have h3:=h2 (bW l i) (by rw[hall];exact bm.2 ⟨i,cJ.2 hi,rfl⟩);have hne:bW l i≠bW l j:=fun e=>by
   have a1:(bW l j).1.testBit (p j)=true:=hp.own j hj (by simpa using hnz j hj);have a2:(bW l i).1.testBit (p j)=false:=hp.other i j hi hj hij (by simpa using hnz j hj);rw[e,a1]at a2;cases a2
  have:(bW l i).1.testBit (uN (kH (bW l) l.length) (bW l j))=false:=by simpa[hne] using h3
  exact this
theorem IH{w:Nat}{l:List Ps}(h:SOk w l)(v:Nat):∀ i,i<=l.length->(mr (kH (bW l) l.length) v i).1=zy (nd l l.length) (fun i=>uN (kH (bW l) l.length) (bW l i)) (fun _=>true) v i ∧
  (mr (kH (bW l) l.length) v i).1=v^^^xr (fJ l 0) (fun q=>(mr (kH (bW l) l.length) v i).2.testBit q) l.length
 | 0,_=>⟨rfl,by show v=v^^^xr (fJ l 0) (fun q=>(0:Nat).testBit q) l.length;rw[ss fun _ _=>Cj _,zF]⟩
 | i+1,hi=>by
  have hg:tf (bW l) l.length=[]:=QE.1 ((rq h.hi h.vl qdn).2 h.rank);have hall:=Gf hg;obtain⟨g1,g2⟩:=IH h v i qad;have hs:=El l l.length (cF _) i qad;have hil:i<(kH (bW l) l.length).length:=by rw[hall];simp;omega
  have hgi:(kH (bW l) l.length)[i]=bW l i:=by simp[hall]
  rw[Db hil,hgi];simp only[zy,FQ,Bool.true_and];rw[g1]at g2⊢;by_cases e:(zy (nd l l.length) (fun i=>uN (kH (bW l) l.length) (bW l i)) (fun _=>true) v i).testBit (uN (kH (bW l) l.length) (bW l i))=true
  ·rw[if_pos e,if_pos e];refine⟨rfl,?_⟩;dsimp only;rw[pr (m':=fun q=>(mr (kH (bW l) l.length) v i).2.testBit q != (bW l i).2.testBit q) fun q _=>by rw[gy],yc,<- py,<- g2];congr 1
  ·rw[if_neg e,if_neg e];exact⟨g1,by rw[g1];exact g2⟩
theorem LU{w:Nat}(hw:w<=12){l:List Ps}(hv:∀ q,q∈l->Vl w q)(hG:Good (l.map nf))(m:Nat):∀ i,i<=l.length->Vl w (ni w l m i)/\Gen (l.map nf) (nf (ni w l m i))/\ji (ni w l m i)=xr (fJ l 0) (fun q=>m.testBit q) i
 | 0,_=>⟨BT w,by show Gen _ (nf ⟨w,0,0,0⟩);rw[Gl];exact .one,rfl⟩
 | i+1,hi=>by
  obtain⟨g1,g2,g3⟩:=LU hw hv hG m i qad;simp only[xr,ni];by_cases e:m.testBit i=true
  ·rw[if_pos e,if_pos e];have hq:l.getD i Ps.z0=l[i]:=qel;have hm:=ey (show i<l.length by omega);rw[hq,BF hw g1 (hv _ hm)];refine⟨dy hw g1 (hv _ hm),?_,?_⟩
   ·exact qet
   ·rw[sj hw g1 (hv _ hm),g3,Pz l qad]
  ·rw[if_neg e,if_neg e];exact⟨g1,g2,g3⟩
theorem Ao{w:Nat}{l:List Ps}(h:SOk w l){p:Ps}(hp:Vl w p)(hk:tc (nf p)):Q5 (l.map nf) (nf p) (nk l p):=by
 have hst:=cN h;have hn:l.length<=24:=qdn;have hg:tf (bW l) l.length=[]:=QE.1 ((rq h.hi h.vl hn).2 h.rank);have hll:(kH (bW l) l.length).length=l.length:=by rw[Gf hg];simp
 obtain⟨g2,g3⟩:=IH h (nf p).2 l.length (cF _);have hz:=Ew (TA h) (nf p).2;rw[<- g2,xC h.hi h.vl hn _ (cF _),Bt]at hz;unfold nk;rw[hll,dr hp];generalize mr (kH (bW l) l.length) (nf p).2 l.length=s at g2 g3 hz⊢;by_cases e:s.1=0
 ·rw[if_pos e];rw[e]at g3;have hxr:xr (fJ l 0) (fun q=>s.2.testBit q) l.length=(nf p).2:=by
   have:=congrArg (· ^^^ xr (fJ l 0) (fun q=>s.2.testBit q) l.length) g3;simpa only[bL,Lo] using this
  obtain⟨k1,k2,k3⟩:=LU h.hi h.vl hst.good s.2 l.length (cF _);have hxr:xr (fJ l 0) (fun q=>s.2.testBit q) l.length=ji p:=hxr;rw[hxr]at k3;generalize ni w l s.2 l.length=g at k1 k2 k3⊢;have hpe:=p_eq h.hi hp k1 k3.symm;have hkp:=(qd h.hi hp).1 hk;have hkg:=(qd h.hi k1).1 (dv hst.good k2);have hph:(p.p=g.p->cO .i64 1 ((aD .i64 (cO .i64 p.p g.p) 4).tmod 4)=1)/\(p.p≠g.p->cO .i64 1 ((aD .i64 (cO .i64 p.p g.p) 4).tmod 4) = -1):=by
   obtain⟨X,Z,P,rfl,_,_,a3⟩:=hp;obtain⟨X',Z',P',rfl,_,_,b3⟩:=k1;have c1:P=0\/P=1\/P=2\/P=3:=qad;have c2:P'=0\/P'=1\/P'=2\/P'=3:=qad;have d1:((P:Int)).tmod 2=0:=hkp;have d2:((P':Int)).tmod 2=0:=hkg;show((P:Int)=P'->cO .i64 1 ((aD .i64 (cO .i64 (P:Int) (P':Int)) 4).tmod 4)=1)/\((P:Int)≠P'->cO .i64 1 ((aD .i64 (cO .i64 (P:Int) (P':Int)) 4).tmod 4) = -1);clear hpe k3 k2 hxr g3;rcases c1 with rfl|rfl|rfl|rfl<;>rcases c2 with rfl|rfl|rfl|rfl<;>revert d1 d2<;>decide
  refine⟨fun q=>hph.1 (hpe.2 (nU hst.good hst.ind q k2 k3.symm)),fun q=>hph.2 fun c=>?_,fun a b=>?_⟩
  ·have e1:=hpe.1 c;have e2:=nU hst.good hst.ind q k2 k3.symm;rw[<- e1]at e2;exact Ag hk.1 e2
  ·exact qiv
 ·rw[if_neg e];exact⟨fun q=>absurd (hz.2 (eb q)) e,fun q=>absurd (hz.2 (eb (g:=dp (nf p)) q)) e,fun _ _=>rfl⟩
end Go.Tz
namespace Go.Tz
open Go Go.AL Go.Ma
open Classical in
theorem DM(L:List E)(p:E)(P:List E)(n:Int):oc L (p::P) n=if Gen L p then oc L P n else if Gen L (dp p) then -1 else oc (dJ p L) P (n+1):=rfl
open Classical in
theorem OP{w:Nat}(hw:w<=12)(P L:List E)(S:Nat->List E×Nat)(ex:Nat->Int)(hL:Sta w L)(hP:∀ p,p∈P->sE w p.2/\tc p)(h0:S 0=(L,0))
  (he:∀ k (h:k<P.length),Sta w (S k).1->Q5 (S k).1 P[k] (ex k)) (h1:∀ k (_:k<P.length),ex k=1->S (k+1)=S k)
  (h2:∀ k (h:k<P.length),Sta w (S k).1->ex k=0->(∃ q,q∈(S k).1 /\ ¬ bw q P[k])->S (k+1)=(dJ P[k] (S k).1,(S k).2+1)) :
  (∀ k,k<=P.length->(∀ j,j<k->ex j ≠ -1)->Sta w (S k).1/\oc L P 0=oc (S k).1 (P.drop k) ((S k).2:Nat))/\oc L P 0=if(List.range P.length).any (fun k=>decide (ex k = -1)) then(-1:Int) else((S P.length).2:Nat):=by
 have key:∀ k,k<=P.length->(∀ j,j<k->ex j ≠ -1)->Sta w (S k).1/\oc L P 0=oc (S k).1 (P.drop k) ((S k).2:Nat):=by
  intro k
  induction k with
  | zero=>intro _ _;rw[h0];exact⟨hL,rfl⟩
  | succ k ih =>
   intro hk hj;obtain⟨a,b⟩:=ih qad fun j h=>hj j qad;have hx:=he k hk a;have hp:=hP P[k] (ey hk);rw[wc9 hk]at b;rw[DM]at b;by_cases c1:Gen (S k).1 P[k]
   ·rw[if_pos c1]at b;rw[h1 k hk (hx.pos c1)];exact⟨a,b⟩
   ·rw[if_neg c1]at b;by_cases c2:Gen (S k).1 (dp P[k])
    ·exact absurd (hx.neg c2) (hj k qad)
    ·rw[if_neg c2]at b;rw[h2 k hk a (hx.zero c1 c2) (jf hw a hp.1 hp.2 c1 c2)];refine⟨og hw a hp.1 hp.2 c1 c2,?_⟩;rw[b];rfl
 refine⟨key,?_⟩;by_cases hn:(List.range P.length).any (fun k=>decide (ex k = -1))=true
 ·rw[if_pos hn];obtain⟨k,hk,he1⟩:=yF.1 hn;have hk:=cJ.1 hk;have he1:ex k = -1:=by simpa using he1
  -- the first of them
  have hex:∃ k,k<P.length/\ex k = -1 /\ ∀ j,j<k->ex j ≠ -1:=by
   have:∀ m,(∃ k,k<m/\k<P.length/\ex k = -1)->∃ k,k<P.length/\ex k = -1 /\ ∀ j,j<k->ex j ≠ -1:=by
    intro m
    induction m with
    | zero=>rintro⟨k,h,_⟩;omega
    | succ m ih =>
     rintro⟨k,h,h2,h3⟩;by_cases q:∃ k,k<m/\k<P.length/\ex k = -1
     ·exact ih q
     ·refine⟨k,h2,h3,fun j hj e=>q ⟨j,by omega,by omega,e⟩⟩
   exact this (k+1) ⟨k,by omega,hk,he1⟩
  obtain⟨k,hk,he1,hf⟩:=hex;obtain⟨a,b⟩:=key k qad hf;have hx:=he k hk a;rw[wc9 hk]at b;rw[DM]at b;by_cases c1:Gen (S k).1 P[k]
  ·have:=hx.pos c1;omega
  ·by_cases c2:Gen (S k).1 (dp P[k])
   ·rw[if_neg c1,if_pos c2]at b;exact b
   ·have:=hx.zero c1 c2;omega
 ·rw[if_neg hn];obtain⟨a,b⟩:=key P.length (cF _) fun j hj e=>hn (yF.2 ⟨j,cJ.2 hj,by simpa using e⟩);rw[b,List.drop_length];rfl
theorem ip{q r:Ps}:bS q r=true ↔ bw (nf q) (nf r):=by
 unfold bS;rw[jA];cases cm (nf q).2 (nf r).2<;>simp
theorem vy{w:Nat}(hw:w<=12){p:Ps}(hp:Vl w p):∀{l:List Ps},(∀ q,q∈l->Vl w q)->∀ q,q∈dz p l->Vl w q
 | [],_,q,hq=>by cases hq
 | a::l,hv,q,hq=>by
  unfold dz at hq;split at hq
  ·rcases jJ.1 hq with e|e
   ·subst e;exact hv _ aR
   ·exact vy hw hp (fun q h=>hv q (eJ _ h)) q e
  ·rcases jJ.1 hq with e|e
   ·subst e;exact hp
   ·obtain⟨r,hr,rfl⟩:=bm.1 e;have hr:=hv r (eJ _ hr);split
    ·exact hr
    ·exact dy hw (hv a aR) hr
theorem mI{w:Nat}(hw:w<=12){p:Ps}:∀{l:List Ps},(∀ q,q∈l->Vl w q)->Good (l.map nf)->(dz p l).map nf=dJ (nf p) (l.map nf)
 | [],_,_=>rfl
 | a::l,hv,hG=>by
  have ih:=mI hw (p:=p) (l:=l) (fun q h=>hv q (eJ _ h)) (vq hG);simp only[nB,dz,dJ];by_cases e:bS a p=true
  ·rw[if_pos e,if_pos (ip.1 e),nB,ih]
  ·rw[if_neg e,if_neg (fun h=>e (ip.2 h)),nB,pM,pU,pU];congr 1;refine xX fun r hr=>?_;show nf (if bS r p=true then r else bc a r)=if bw (nf r) (nf p) then nf r else aU (nf r) (nf a)
   by_cases c:bS r p=true
   ·rw[if_pos c,if_pos (ip.1 c)]
   ·rw[if_neg c,if_neg (fun h=>c (ip.2 h)),dT hw (hv a aR) (hv r (eJ _ hr))];exact dL (hG.com _ _ aR (by simp;right;exact⟨r,hr,rfl⟩))
theorem Jn{w:Nat}(hw:w<=12){l' P:List Ps}(hv:∀ q,q∈l'->Vl w q)(hP:∀ q,q∈P->Vl w q):∀ k,k<=P.length->∀ q,q∈(gv w l' P k).1->Vl w q
 | 0,_,q,hq=>hv q hq
 | k+1,hk,q,hq=>by
  have ih:=Jn hw hv hP k qad;simp only[gv]at hq;have hg:P.getD k Ps.z0=P[k]:=qe3;rw[hg]at hq;split at hq
  ·exact ih q hq
  ·exact vy hw (hP _ (ey hk)) ih q hq
theorem Jp{w:Nat}{l l':List Ps}(h:SOk w l)(h':SOk w l'):(∀ k,k<=l.length->(∀ j,j<k->uM w l' l j ≠ -1)->SOk w (gv w l' l k).1)/\Vu w l' l=oc (l'.map nf) (l.map nf) 0:=by
 have hs:=cN h;have hs':=cN h';have hvl:=Jn h.hi h'.vl h.vl;have hsok:∀ k,k<=l.length->Sta w ((gv w l' l k).1.map nf)->SOk w (gv w l' l k).1:=fun k hk hS=>mT ⟨h.lo,h.hi⟩ (hvl k hk) hS;have hgd:∀ k (_:k<l.length),l.getD k Ps.z0=l[k]:=fun k hk=>by rw[jI,ew hk];rfl
 have hlen:(l.map nf).length=l.length:=ef _;obtain⟨r1,r2⟩:=OP h.hi (l.map nf) (l'.map nf) (fun k=>((gv w l' l k).1.map nf,(gv w l' l k).2)) (uM w l' l) hs'
  (fun p hp=>⟨hs.inv p hp,hs.good.ok p hp⟩) rfl
  (fun k hk hS=>by
   have hk':k<l.length:=qad;have hv:=h.vl l[k] (ey hk');rw[Rb];unfold uM;rw[hgd k hk'];exact kE (hsok k qad hS) hv (hs.good.ok _ (bm.2 ⟨_,ey hk',rfl⟩)))
  (fun k hk e=>by
   unfold uM at e;simp only[gv];rw[if_pos e])
  (fun k hk hS e hx=>by
   have hk':k<l.length:=qad;unfold uM at e;simp only[gv];rw[if_neg Pv,Rb,hgd k hk'];dsimp only;rw[mI h.hi (hvl k qad) hS.good])
 rw[hlen]at r1 r2;exact⟨fun k hk hj=>hsok k hk (r1 k hk hj).1,r2.symm⟩
end Go.Tz
namespace Go.Tz
open Go Go.AL Go.Ma
theorem DZ{p:E}:∀(L:List E) (a:Nat) (ha:a<L.length),(∀ j (_:j<a),bw (L[j]'qad) p)->¬ bw L[a] p->∀ j,(dJ p L)[j]?=L[j]?.map fun q=>if j<a then q else if j=a then p else if bw q p then q else aU q L[a]
 | [],a,ha,_,_,_=>by simp at ha
 | b::L,0,ha,h1,h2,j=>by
  have h2:¬ bw b p:=h2;simp only[dJ,if_neg h2];cases j with
  | zero=>simp
  | succ j =>
   simp only[List.getElem?_cons_succ,pM,mV];simp
 | b::L,a+1,ha,h1,h2,j=>by
  have h0:bw b p:=h1 0 qad;simp only[dJ,if_pos h0];cases j with
  | zero=>simp
  | succ j =>
   have ih:=DZ L a LG (fun j hj=>h1 (j+1) qad) h2 j;simp only[List.getElem?_cons_succ,ih];simp
theorem jQ{p:Ps}{rf:Nat->Ps}{N a0:Nat}{R:List Nat}(h:fG p rf N=a0::R):a0<N/\bS p (rf a0)=false/\(∀ j,j<a0->bS p (rf j)=true) /\ ∀ j,j<N->a0<j->(j∈R ↔ bS p (rf j)=false)/\(∀ j,j∈R->a0<j):=by
 have hm:∀ j,j∈a0::R ↔ j<N/\bS p (rf j)=false:=fun j=>by
  rw[<- h];unfold fG;rw[VY,cJ];simp
 have hs:(a0::R).Pairwise (· < ·):=by
  rw[<- h];exact List.Pairwise.filter _ List.pairwise_lt_range
 have hlt:=(J2.1 hs).1;obtain⟨q1,q2⟩:=(hm a0).1 aR;refine⟨q1,q2,fun j hj=>?_,fun j hj hlj=>⟨?_,hlt⟩⟩
 ·cases hc:bS p (rf j) with
  | true=>rfl
  | false =>
   rcases jJ.1 ((hm j).2 ⟨by omega,hc⟩) with e|e
   ·exact qad
   ·have:=hlt j e;omega
 ·constructor
  ·intro hR;exact((hm j).1 (eJ _ hR)).2
  ·intro hc;rcases jJ.1 ((hm j).2 ⟨hj,hc⟩) with e|e
   ·exact qad
   ·exact e
theorem qb{q r:Ps}:bS q r=false ↔ ¬ bw (nf q) (nf r):=by rw[<- ip];simp
theorem Ju{w:Nat}(hw:w<=12){p:Ps}{rf:Nat->Ps}{N a0:Nat}{R:List Nat}(hv:∀ j,j<N->Vl w (rf j))(h:fG p rf N=a0::R):(bM N (eT rf p a0 R)).map nf=dJ (nf p) ((bM N rf).map nf):=by
 obtain⟨h1,h2,h3,h4⟩:=jQ h;have hg:∀ j (hj:j<((bM N rf).map nf).length),((bM N rf).map nf)[j]=nf (rf j):=fun j hj=>by simp[bM]
 have hl:((bM N rf).map nf).length=N:=by simp[bM]
 apply wea;intro j;rw[DZ ((bM N rf).map nf) a0 qad (fun j hj=>by rw[hg];exact bT (ip.1 (h3 j hj))) (by rw[hg];exact fun e=>qb.1 h2 (bT e)),hg];simp only[bM,mV];by_cases hj:j<N
 ·rw[List.getElem?_range hj];simp only[LP];congr 1;unfold eT kC;rcases Ra j a0 with e|e|e
  ·have hR:j ∉ R:=fun hR=>by
    have hs:(a0::R).Pairwise (· < ·):=by
     rw[<- h];exact List.Pairwise.filter _ List.pairwise_lt_range
    have:=(J2.1 hs).1 j hR;omega
   rw[if_neg (show ¬ j=a0 by omega),if_neg hR,if_pos e]
  ·rw[if_pos e,if_neg (show ¬ j<a0 by omega),if_pos e]
  ·rw[if_neg (show ¬ j=a0 by omega),if_neg (show ¬ j<a0 by omega),if_neg (show ¬ j=a0 by omega)];have hiff:=(h4 j hj e).1;by_cases hR:j∈R
   ·rw[if_pos hR,if_neg (show ¬ bw (nf (rf j)) (nf p) from fun c=>qb.1 (hiff.1 hR) (bT c)),dT hw (hv j hj) (hv a0 h1)]
   ·have hc:bw (nf (rf j)) (nf p):=by
     refine bT (ip.1 ?_);cases hc:bS p (rf j) with
     | true=>rfl
     | false=>exact absurd (hiff.2 hc) hR
    rw[if_neg hR,if_pos hc]
 ·rw[wdn H9];rfl
theorem Jq{w:Nat}(hw:w<=12){N:Nat}{rf0:Nat->Ps}{P:List Ps}(hv:∀ j,j<N->Vl w (rf0 j))(hP:∀ q,q∈P->Vl w q):∀ k,k<=P.length->∀ j,j<N->Vl w ((fW N rf0 P k).1 j)
 | 0,_,j,hj=>hv j hj
 | k+1,hk,j,hj=>by
  have ih:=Jq hw hv hP k qad;have hg:P.getD k Ps.z0=P[k]:=qe3;have hp:=hP _ (ey hk);simp only[fW,hg,ob];split
  ·cases hA:fG P[k] (fW N rf0 P k).1 N with
   | cons a0 R =>
    have ha:=(jQ hA).1;dsimp only;unfold eT kC;split
    ·exact hp
    ·split
     ·exact dy hw (ih j hj) (ih a0 ha)
     ·exact ih j hj
   | nil=>exact ih j hj
  ·exact ih j hj
theorem Fx{p:Ps}{rf:Nat->Ps}{N:Nat}(h:∃ q,q∈(bM N rf).map nf /\ ¬ bw q (nf p)):fG p rf N≠[]:=by
 obtain⟨q,hq,hc⟩:=h;obtain⟨r,hr,rfl⟩:=bm.1 hq;obtain⟨j,hj,rfl⟩:=bm.1 hr;intro e;have:j∈fG p rf N:=by
  unfold fG;rw[VY];refine⟨hj,?_⟩;have:=qb.2 (fun c=>hc (bT c));rw[this];rfl
 rw[e]at this;cases this
theorem Tw{w N:Nat}{P:List Ps}{rf0:Nat->Ps}(h:SOk w P)(h':SOk w (bM N rf0)) :
  (∀ k,k<=P.length->(∀ j,j<k->oa N rf0 P j ≠ -1)->SOk w (bM N (fW N rf0 P k).1))/\(∀ k,k<P.length->(∀ j,j<k->oa N rf0 P j ≠ -1)->oa N rf0 P k=0->fG (P.getD k Ps.z0) (fW N rf0 P k).1 N≠[])/\ZM N rf0 P=oc ((bM N rf0).map nf) (P.map nf) 0:=by
 have hs:=cN h;have hs':=cN h';have hv0:∀ j,j<N->Vl w (rf0 j):=fun j hj=>h'.vl _ (bm.2 ⟨j,cJ.2 hj,rfl⟩);have hvl:=Jq h.hi hv0 h.vl;have hsok:∀ k,k<=P.length->Sta w ((bM N (fW N rf0 P k).1).map nf)->SOk w (bM N (fW N rf0 P k).1):=fun k hk hS=>mT ⟨h.lo,h.hi⟩ (fun q hq=>by
  obtain⟨j,hj,rfl⟩:=bm.1 hq;exact hvl k hk j (cJ.1 hj)) hS
 have hgd:∀ k (_:k<P.length),P.getD k Ps.z0=P[k]:=fun k hk=>by rw[jI,ew hk];rfl
 have hlen:(P.map nf).length=P.length:=ef _;have hexp:∀ k (hk:k<P.length),Sta w ((bM N (fW N rf0 P k).1).map nf)->Q5 ((bM N (fW N rf0 P k).1).map nf) (nf P[k]) (oa N rf0 P k):=fun k hk hS=>by
  unfold oa;rw[hgd k hk];exact Ao (hsok k qad hS) (h.vl _ (ey hk)) (hs.good.ok _ (bm.2 ⟨_,ey hk,rfl⟩))
 obtain⟨r1,r2⟩:=OP h.hi (P.map nf) ((bM N rf0).map nf) (fun k=>((bM N (fW N rf0 P k).1).map nf,(fW N rf0 P k).2)) (oa N rf0 P) hs'
  (fun p hp=>⟨hs.inv p hp,hs.good.ok p hp⟩) rfl
  (fun k hk hS=>by rw[Rb];exact hexp k qad hS)
  (fun k hk e=>by
   unfold oa at e;simp only[fW,ob];rw[if_neg Pv])
  (fun k hk hS e hx=>by
   have hk':k<P.length:=qad;rw[Rb]at hx⊢;have hne:=Fx hx;unfold oa at e;simp only[fW,ob];rw[if_pos e,hgd k hk'];cases hA:fG P[k] (fW N rf0 P k).1 N with
   | nil=>exact absurd hA hne
   | cons a0 R =>
    dsimp only;rw[Ju h.hi (hvl k qad) hA])
 rw[hlen]at r1 r2;refine⟨fun k hk hj=>hsok k hk (r1 k hk hj).1,fun k hk hj e=>?_,r2.symm⟩;have hS:=(r1 k qad hj).1;have hx:=hexp k hk hS;rw[hgd k hk];have hp:=hs.good.ok _ (bm.2 ⟨_,ey hk,rfl⟩);have hpi:=hs.inv _ (bm.2 ⟨_,ey hk,rfl⟩);refine Fx (jf h.hi hS hpi hp (fun c=>?_) fun c=>?_)
 ·have:=hx.pos c;omega
 ·have:=hx.neg c;omega
theorem pg(l:List Ps){n:Nat}(hn:l.length=n):bM n (fun j=>l.getD j Ps.z0)=l:=by
 subst hn;apply Hx
 ·simp[bM]
 ·intro i h1 h2;simp[bM,jI,ew h2]
theorem OT{w:Nat}{l l':List Ps}(h:SOk w l)(h':SOk w l'):OvOk w l l'/\ZM l'.length (fun j=>(af l' (2*w)).getD j Ps.z0) (af l (2*w))=Vu w l' l:=by
 obtain⟨a1,a2⟩:=bK h;obtain⟨b1,b2⟩:=bK h';have er:=pg (af l' (2*w)) (cZ l' (2*w));obtain⟨q1,q2,q3⟩:=Tw (N:=l'.length) (rf0:=fun j=>(af l' (2*w)).getD j Ps.z0) a1 (by rw[er];exact b1);rw[cZ]at q1 q2;refine⟨⟨q1,q2⟩,?_⟩;rw[q3,(Jp h h').2,er];exact ZP h.hi (cN b1) (cN h') (cN a1) (cN h) (fun g=>(b2 g).symm) fun g=>(a2 g).symm
end Go.Tz
namespace Go.Tz
open Go Go.AL Go.Ma
theorem Ti{b r p:Nat}(hr:r.testBit p=true)(hp:r<2^(p+1)):(min b (b^^^r)).testBit p=false:=by
 have hb:∀ a:Nat,(a.testBit p=true->a^^^r<a):=by
  intro a ha;have h1:a / 2^(p+1)=(a^^^r) / 2^(p+1):=by
   have:(a^^^r) >>> (p+1)=a >>> (p+1):=by
    rw[Nat.shiftRight_xor_distrib];have:r >>> (p+1)=0:=by rw[LL];exact Nat.div_eq_of_lt hp
    rw[this,zF]
   rw[LL,LL]at this;exact this.symm
  have h2:(a^^^r).testBit p=false:=by rw[gy,ha,hr];rfl
  have e1:a%2^(p+1)=a%2^p+2^p:=by
   rw[Rd,Nat.mod_mul];rw[Uu]at ha;have:a / 2^p%2=1:=LG;rw[this];omega
  have e2:(a^^^r)%2^(p+1)=(a^^^r)%2^p:=by
   rw[Rd,Nat.mod_mul];rw[Uu]at h2;have:(a^^^r) / 2^p%2=0:=by
    have:=Nat.mod_two_eq_zero_or_one ((a^^^r) / 2^p);rcases this with h|h
    ·exact h
    ·rw[h]at h2;simp at h2
   rw[this];omega
  have e3:(a^^^r)%2^p<2^p:=Cm _ (sk p);have e4:=Nat.div_add_mod a (2^(p+1));have e5:=Nat.div_add_mod (a^^^r) (2^(p+1));rw[<- h1]at e5;omega
 by_cases h:b.testBit p=true
 ·have:=hb b h;rw[Nat.min_eq_right qad,gy,h,hr];rfl
 ·have h':(b^^^r).testBit p=true:=by rw[gy,hr];simp[h]
  have:=hb (b^^^r) h';rw[bL]at this;rw[Uv qad];simpa using h
theorem JR{r:Nat}(h:r≠0):r.testBit (Nat.log2 r)=true/\r<2^(Nat.log2 r+1):=by
 have h1:=Nat.lt_log2_self (n:=r);refine⟨?_,h1⟩;have h2:=Nat.log2_self_le h;rw[Uu];have:r / 2^Nat.log2 r=1:=by
  rw[Rd]at h1;have a1:1<=r / 2^Nat.log2 r:=by rw[Nat.le_div_iff_mul_le (sk _)];omega
  have a2:r / 2^Nat.log2 r<2:=by rw[Nat.div_lt_iff_lt_mul (sk _)];omega
  omega
 rw[this];rfl
structure Bas (B:List Nat):Prop where
 nz:∀ r,r∈B->r≠0
 pw:B.Pairwise fun r r'=>r'.testBit (Nat.log2 r)=false
theorem HT:∀{B:List Nat},Bas B->ub B
 | [],_=>rfl
 | r::B,hB=>by
  have hB2:Bas B:=⟨fun x hx=>hB.nz x (eJ _ hx),(J2.1 hB.pw).2⟩
  refine kc.2 ⟨HT hB2,?_⟩;cases e:bG B r with
  | false=>rfl
  | true =>
   have:=jq (j:=Nat.log2 r) B (J2.1 hB.pw).1 _ e;rw[(JR (hB.nz r aR)).1]at this;cases this
theorem DC(b:Nat):∀(n:Nat) (B:List Nat),B.length=n->Bas B->(∀ r,r∈B->(ix B b).testBit (Nat.log2 r)=false)/\bG B (ix B b^^^b)=true
 | 0,B,hl,_=>by
  have:B=[]:=QE.1 hl;subst this;refine⟨fun r hr=>(by cases hr),?_⟩;show bG [] (b^^^b)=true;rw[yE];rfl
 | n+1,B,hl,hB=>by
  obtain⟨A,r,rfl⟩:∃ A r,B=A++[r]:=⟨B.dropLast,B.getLast (by intro e;subst e;cases hl),(List.dropLast_concat_getLast _).symm⟩
  have hA:Bas A:=⟨fun x hx=>hB.nz x (by simp[hx]),(I8.1 hB.pw).1⟩
  have hcross:=(I8.1 hB.pw).2.2;obtain⟨i1,i2⟩:=DC b n A yu hA;have hr:=JR (hB.nz r aR);have e:ix (A++[r]) b=min (ix A b) (ix A b^^^r):=by unfold ix;rw[Lm];rfl
  rw[e];have up:∀ v,bG A v=true->bG (A++[r]) v=true:=fY A _ fun a ha=>bA _ _ qha;refine⟨fun x hx=>?_,?_⟩
  ·rcases ft.1 hx with h|h
   ·have c1:=i1 x h;have c2:(ix A b^^^r).testBit (Nat.log2 x)=false:=by rw[gy,c1,hcross x h r aR];rfl
    rcases Nat.le_total (ix A b) (ix A b^^^r) with q|q
    ·rw[Uv q];exact c1
    ·rw[Nat.min_eq_right q];exact c2
   ·rw[mb.1 h];exact Ti hr.1 hr.2
  ·rcases Nat.le_total (ix A b) (ix A b^^^r) with q|q
   ·rw[Uv q];exact up _ i2
   ·rw[Nat.min_eq_right q];have e2:ix A b^^^r^^^b=ix A b^^^b^^^r:=by rw[py,Hy r,<- py]
    rw[e2];exact dK _ _ _ (up _ i2) (bA _ _ aR)
theorem JG(l:List Rn):∀ i,i<=l.length->Bas (lS l i).2/\(∀ v,bG (lS l i).2 v=bG ((l.take i).map fun p=>p.1+4096*p.2) v) /\ ∀ p,p∈(lS l i).1->p∈l.take i
 | 0,_=>⟨⟨fun _ h=>(by cases h),.nil⟩,fun _=>rfl,fun _ h=>(by cases h)⟩
 | i+1,hi=>by
  obtain⟨h1,h2,h3⟩:=JG l i qad;rw[tC qad,aC (show i<l.length by omega)];generalize lS l i=s at h1 h2 h3;generalize l[i]=p;have hsub:∀ v,bG s.2 v=true->bG ((l.take i++[p]).map fun p=>p.1+4096*p.2) v=true:=fun v hv=>by
   rw[h2]at hv;exact fY _ _ (fun a ha=>by
    obtain⟨q,hq,rfl⟩:=bm.1 ha;exact bA _ _ (bm.2 ⟨q,by simp[hq],rfl⟩)) v hv
  have hp:bG ((l.take i++[p]).map fun p=>p.1+4096*p.2) (p.1+4096*p.2)=true:=bA _ _ (bm.2 ⟨p,by simp,rfl⟩);have back:∀ B:List Nat,(∀ v,bG s.2 v=true->bG B v=true)->bG B (p.1+4096*p.2)=true->∀ a,a∈(l.take i++[p]).map (fun p=>p.1+4096*p.2)->bG B a=true:=fun B hB hv a ha=>by
   obtain⟨q,hq,rfl⟩:=bm.1 ha;rcases ft.1 hq with e|e
   ·exact hB _ (by rw[h2];exact bA _ _ (bm.2 ⟨q,e,rfl⟩))
   ·rw[mb.1 e];exact hv
  unfold xy;by_cases c:p∈s.1
  ·rw[if_pos c];have hv:bG s.2 (p.1+4096*p.2)=true:=by rw[h2];exact bA _ _ (bm.2 ⟨p,h3 p c,rfl⟩)
   exact⟨h1,kq (fun a ha=>hsub a (bA _ _ ha)) (back _ (fun _ h=>h) hv),fun q hq=>by simp[h3 q hq]⟩
  ·rw[if_neg c];obtain⟨m1,m2⟩:=DC (p.1+4096*p.2) _ s.2 rfl h1;have hm3:∀ q,q∈s.1++[p]->q∈l.take i++[p]:=fun q hq=>by
    rcases ft.1 hq with e|e
    ·simp[h3 q e]
    ·rw[mb.1 e];simp
   dsimp only;generalize ix s.2 (p.1+4096*p.2)=m at m1 m2⊢;by_cases z:m=0
   ·rw[if_pos z];rw[z,Lo]at m2;exact⟨h1,kq (fun a ha=>hsub a (bA _ _ ha)) (back _ (fun _ h=>h) m2),hm3⟩
   ·rw[if_neg z];refine⟨⟨fun r hr=>?_,I8.2 ⟨h1.pw,List.pairwise_singleton _ _,fun a ha b hb=>?_⟩⟩,kq (fun a ha=>?_) (back _ (fun v hv=>fY _ _ (fun a ha=>bA _ _ qha) v hv) ?_),hm3⟩
    ·rcases ft.1 hr with e|e
     ·exact h1.nz r e
     ·rw[mb.1 e];exact z
    ·rw[mb.1 hb];exact m1 a ha
    ·rcases ft.1 ha with e|e
     ·exact hsub a (bA _ _ e)
     ·rw[mb.1 e];have:=dK _ _ _ (hsub _ m2) hp
      rwa [bL]at this
    ·have a1:bG (s.2++[m]) (m^^^(p.1+4096*p.2))=true:=fY _ _ (fun a ha=>bA _ _ qha) _ m2;have a2:bG (s.2++[m]) m=true:=bA _ _ aR;have:=dK _ _ _ a1 a2;have e:m^^^(p.1+4096*p.2)^^^m=p.1+4096*p.2:=by rw[Hy m,bL]
     rwa [e]at this
theorem B7{l:List Rn}(h:∀ r,r∈l->r.1<4096/\r.2<4096):(lS l l.length).2.length=rk (l.map fun p=>p.1+4096*p.2):=by
 obtain⟨h1,h2,_⟩:=JG l l.length (cF _);rw[pS]at h2;have:=HT h1;unfold ub at this;rw[<- this];refine pN (k:=24) (fun a ha=>(GX h (cF _)).2 a ha) (fun a ha=>?_) h2;obtain⟨q,hq,rfl⟩:=bm.1 ha;have:=h q hq;omega
end Go.Tz
namespace Go.Tz
open Go Go.AL Go.Ma
theorem ZK{A V:Nat}(h:A.testBit V=false):A ||| 2^V=A+2^V:=by
 have h1:A / 2^V%2=0:=by
  rw[Uu]at h;have:=of_decide_eq_false h;omega
 have h2:=Nat.div_add_mod A (2^V);have hb:A%2^V<2^V:=Cm _ (sk V);generalize hq:A / 2^V=q at h1 h2;generalize A%2^V=b at h2 hb;have e1:2^V*q+b=2^V*q ||| b:=VU hb q
 have e2:2^V*(q+1)+b=2^V*(q+1) ||| b:=VU hb (q+1)
 have e3:2^V*(q+1)=2^V*q ||| 2^V:=by
  have h3:q=2*(q / 2):=qad;have h4:2^V<2^(V+1):=by rw[Rd];have:=sk V;omega
  have:=VU h4 (q / 2);have h5:2^(V+1)*(q / 2)=2^V*q:=by
   rw[Rd,Nat.mul_assoc,<- h3]
  rw[h5]at this;rw[<- this,Nat.mul_add,UA]
 rw[<- h2,e1,Nat.or_assoc,Nat.or_comm b,<- Nat.or_assoc,<- e3,<- e2,Nat.mul_add,UA];omega
theorem qQ{X V:Nat}(hV:V<=64)(hX:X<2^63):gY (X:Int) (V:Int)=if X.testBit V then 1 else 0:=dX hV hX
theorem Cu{X m V:Nat}(hm:m.testBit V=false):X &&& (m ||| 2^V)=if X.testBit V then(X &&& m)+2^V else X &&& m:=by
 have h2:X &&& 2^V=if X.testBit V then 2^V else 0:=by
  refine Fs fun j=>?_;rw[Fo,ll];by_cases e:V=j
  ·subst e;cases q:X.testBit V with
   | true=>rw[if_pos rfl,ll];simp
   | false=>rw[if_neg aR];simp
  ·cases q:X.testBit V with
   | true=>rw[if_pos rfl,ll];simp[e]
   | false=>rw[if_neg aR];simp[e]
 rw[Nat.and_or_distrib_left,h2];cases e:X.testBit V with
 | true =>
  rw[if_pos rfl,if_pos rfl,<- ZK (by rw[Fo,hm,Uw])]
 | false=>simp
theorem Lr{w X' Z' X Z V:Nat}(hX:X<4096)(hZ:Z<4096)(hX':X'<4096)(hZ':Z'<4096)(hV:V<12)(b1:X'.testBit V=false)(b2:Z'.testBit V=false) :
  eg (mk w X' Z' 0) V (bj X Z V)=mk w (if X.testBit V then X'+2^V else X') (if Z.testBit V then Z'+2^V else Z') 0:=by
 have c1:gY (X':Int) (V:Int)=0:=by rw[qQ qad qad,b1];rfl
 have c2:gY (Z':Int) (V:Int)=0:=by rw[qQ qad qad,b2];rfl
 have hl:bj (X':Int) (Z':Int) (V:Int)=0:=by unfold bj;rw[c1,c2];rfl
 have hp:(2:Nat)^V<2^12:=Fq qaj hV;have a1:aD .i64 (X':Int) (cU .i64 1 (V:Int))=((X'+2^V:Nat):Int):=by rw[cq qad,ak qad]
 have a2:aD .i64 (Z':Int) (cU .i64 1 (V:Int))=((Z'+2^V:Nat):Int):=by rw[cq qad,ak qad]
 have hL:bj (X:Int) (Z:Int) (V:Int)=if X.testBit V&&Z.testBit V then 2 else if X.testBit V then 1 else if Z.testBit V then 3 else 0:=by
  unfold bj;rw[qQ qad qad,qQ qad qad];cases X.testBit V<;>cases Z.testBit V<;>rfl
 show(⟨(w:Int),(ik (X':Int) (Z':Int) (V:Int) (bj X Z V)).1,(ik (X':Int) (Z':Int) (V:Int) (bj X Z V)).2,0⟩:Ps)=_;unfold ik;rw[hl,c2];dsimp only;rw[if_neg (show ¬((0:Int)=1\/(0:Int)=2) by decide),if_neg (show ¬((0:Int)=1) by decide),a1,a2,hL];cases X.testBit V<;>cases Z.testBit V<;>rfl
theorem ta{w:Int}{ks:List Int}(h:pu w ks=0):∀ i,i<ks.length->gq w ks i=0:=by
 have:∀ m,(∃ i,i<m/\i<ks.length/\gq w ks i≠0)->False:=by
  intro m
  induction m with
  | zero=>rintro⟨i,h,_⟩;omega
  | succ m ih =>
   rintro⟨i,h1,h2,h3⟩;by_cases q:∃ i,i<m/\i<ks.length/\gq w ks i≠0
   ·exact ih q
   ·have:=Ah h2 (fun j hj=>Fp fun e=>q ⟨j,by omega,by omega,e⟩) h3;rw[h]at this;exact h3 this.symm
 exact fun i hi=>Fp fun e=>this (i+1) ⟨i,by omega,hi,e⟩
theorem JF{w X Z P:Nat}(hw:w<=12)(hX:X<2^w)(hZ:Z<2^w){ks:List Int}(h:pu w ks=0):∀ i,i<=ks.length->fq w (mk w X Z P) (ks.take i)=mk w (X &&& ep (ks.take i)) (Z &&& ep (ks.take i)) 0
 | 0,_=>by
  show mk w 0 0 0=mk w (X &&& 0) (Z &&& 0) 0;rw[Nat.and_zero,Nat.and_zero]
 | i+1,hi=>by
  have ih:=JF (P:=P) hw hX hZ h i qad;have hi':i<ks.length:=qad;have ha:=oV hi' (ta h i hi');have hp:(2:Nat)^w<=2^12:=js qaj hw;rw[aC hi',zx,ih];have hms:=zj hi';rw[aC hi']at hms;rw[hms];obtain⟨V,hV⟩:∃ V:Nat,ks[i]=V:=⟨ks[i].toNat,by omega⟩
  have hbit:(ep (ks.take i)).testBit V=false:=by
   rw[wU];refine BX.2 fun k hk=>?_;obtain⟨j,hj,rfl⟩:=QW.1 hk;have hj':j<ks.length:=qad;have hb:=oV hj' (ta h j hj');intro e;have e:=of_decide_eq_true e;have:ks[i]=ks[j]:=qad;exact ha.2.2 (by rw[this];exact hk)
  rw[hV,gx,Cu hbit,Cu hbit];have l1:X &&& ep (ks.take i)<=X:=Rc;have l2:Z &&& ep (ks.take i)<=Z:=Rc;exact Lr (w:=w) qad qad qad qad qad qhk qhk
theorem Nq{w:Nat}{l:List Ps}(hs:SOk w l){ks:List Int}(h:pu w ks=0):cO .i64 (lS (jc l (ep ks)) l.length).2.length ks.length=Kn w l ks:=by
 unfold Kn;congr 1;have hp:(2:Nat)^w<=2^12:=js qaj hs.hi;have hr:∀ q,q∈l->fq w q ks=mk w (q.x.toNat &&& ep ks) (q.z.toNat &&& ep ks) 0:=fun q hq=>by
  obtain⟨X,Z,P,rfl,h1,h2,h3⟩:=hs.vl q hq;have:=JF (P:=P) hs.hi h1 h2 h ks.length (cF _)
  rwa [pS]at this
 have hq:∀ q,q∈l->q.x.toNat<2^w/\q.z.toNat<2^w:=fun q hq=>by
  obtain⟨X,Z,P,rfl,h1,h2,h3⟩:=hs.vl q hq;exact⟨h1,h2⟩
 have hvl:∀ r,r∈l.map (fun q=>fq w q ks)->Vl w r:=fun r hr'=>by
  obtain⟨q,hq',rfl⟩:=bm.1 hr';rw[hr q hq'];exact⟨_,_,0,rfl,JS Rc (hq q hq').1,JS Rc (hq q hq').2,by decide⟩
 have e1:=vz hs.hi hvl;rw[tB,PD (fun a ha=>by obtain⟨q,hq',rfl⟩:=bm.1 ha;exact xT hs.hi (hvl q hq'))]at e1;have e2:=B7 (l:=jc l (ep ks)) (fun r hr'=>by
  obtain⟨q,hq',rfl⟩:=bm.1 hr';have:=hq q hq';exact⟨JS Rc qad,JS Rc qad⟩)
 have hml:(jc l (ep ks)).length=l.length:=by simp[jc]
 rw[hml]at e2;rw[e1,e2];congr 2;rw[pU,jc,pU];refine xX fun q hq'=>?_;show(q.x.toNat &&& ep ks)+4096*(q.z.toNat &&& ep ks)=ji (fq w q ks);rw[hr q hq'];unfold ji;rw[df]
end Go.Tz
namespace Go.Tz
open Go Go.AL Go.Proofs Go.Ma
theorem dj:aq Tryz.f37=true:=ar
theorem aX(e:Int):PC Pr GG 37 [cf 0 [] true,cf 0 [] true,iD e,iD e] (.bool true):=by
 have h1:=lW (G:=GG) 0 [] true aR;have h2:=bP (G:=GG) 0 0 [] [] false true aR;rw[decide_eq_true ⟨rfl,rfl⟩]at h2;refine ae pok Tryz.func37 dj ?_;conv=>whnf
 repeat' first|((first|refine O6.mk _ rfl ?_|refine ab h1 ?_|refine ab h2 ?_|refine HpP.force ?_);conv=>whnf)|(intro t ht;cases t<;>conv=>whnf)
 ·exact Fl
 ·exact GL
theorem kG{V:AHeap}{nm sz N:Nat}{t:Bool}{es:List (List D)}{a:D}(hg:V.get nm=some (ap sz es))(hN:N=es.length):fb (eY V 9 []) [.agg [.d a,.sl nm sz 0 N N t]]=some [.agg [a,.sl es t]]:=by
 have h:=uZ (q:=6) (vis:=[]) (t:=t) hg hN;have e1:eY V 8 [] (.d a)=some a:=rfl;have e3:eY V 9 [] (.agg [.d a,.sl nm sz 0 N N t])=some (.agg [a,.sl es t]):=by
  unfold eY;simp only[fb,e1,h]
 simp only[fb,e3]
theorem Kr(m:List Ps):Blk.flat (ap 4 (m.map Ps.l))=true:=by
 unfold ap Blk.flat;refine lh.2 fun el hel=>?_;obtain⟨x,hx,rfl⟩:=bm.1 hel;obtain⟨q,_,rfl⟩:=bm.1 hx;rfl
theorem aW(a:D)(n:Nat)(t:Bool)(m:List Ps):FO (.agg [.d a,.sl 0 4 0 n n t]) [(0,some (ap 4 (m.map Ps.l)))]=[(0,some (ap 4 (m.map Ps.l)))]:=by
 show AHeap.fl [(0,some (ap 4 (m.map Ps.l)))]=_;unfold AHeap.fl;rw[Kr];rfl
end Go.Tz
namespace Go.Tz
open Go Go.AL Go.Proofs Go.Ma
theorem yk{α:Type}[BEq α][ReflBEq α]{a:α}{k:Bool->Prop}(h:k true):∀ t,(a==a)=t->k t:=fun t e=>by
 have e2:true=t:=(beq_self_eq_true a).symm.trans e;exact e2 ▸ h
theorem uF{a b:Int}(hne:a≠b){k:Bool->Prop}(h:k false):∀ t,(a==b)=t->k t:=fun t e=>by
 have e2:false=t:=(beq_false_of_ne hne).symm.trans e;exact e2 ▸ h
theorem share{c:Code}{k:Exit->St->Prop}{P:Code->(Exit->St->Prop)->Prop}{R:Prop}(main:P c k->R)(tl:P c k):R:=main tl
theorem M2:aq Tryz.f4=true:=ar
def Cf(w:Int)(l:List Ps)(ks:List Int):Nat->Int
 | 0=>bD w l
 | i+1=>if Cf w l ks i≠0 then Cf w l ks i else gq w ks i
theorem RT{w:Int}{l:List Ps}(ks:List Int):Cf w l ks ks.length=if bD w l≠0 then bD w l else pu w ks:=by
 have key:bD w l=0->∀ i,i<=ks.length->((∀ j,j<i->gq w ks j=0)/\Cf w l ks i=0) \/ ∃ j,j<i/\(∀ j',j'<j->gq w ks j'=0)/\gq w ks j≠0/\Cf w l ks i=gq w ks j:=by
  intro h i
  induction i with
  | zero=>exact fun _=>.inl ⟨by omega,h⟩
  | succ i ih =>
   intro hi;simp only[Cf];rcases ih qad with⟨a,b⟩|⟨j,a,b,c,d⟩
   ·rw[b,if_neg aR];by_cases hz:gq w ks i=0
    ·refine .inl ⟨fun j hj=>?_,hz⟩;rcases wa1 j i with q|q
     ·exact a j q
     ·rw[show j=i by omega];exact hz
    ·exact .inr ⟨i,by omega,a,hz,rfl⟩
   ·rw[d,if_pos c];exact .inr ⟨j,by omega,b,c,rfl⟩
 by_cases h:bD w l=0
 ·rw[if_neg (fun q=>q h)];rcases key h ks.length (cF _) with⟨a,b⟩|⟨j,a,b,c,d⟩
  ·rw[b,yX a]
  ·rw[d,Ah a b c]
 ·rw[if_pos h];have:∀ i,Cf w l ks i=bD w l:=by
   intro i
   induction i with
   | zero=>rfl
   | succ i ih=>simp only[Cf];rw[ih,if_pos h]
  exact this _
set_option maxHeartbeats 4000000 in
theorem sc4(w:Int)(l:List Ps)(t:Bool)(w':Int)(l':List Ps)(t':Bool)(ks:List Int)(u:Bool)(n:Int)(h1:l.length<=20)(h2:l'.length<=20)(h3:ks.length<=20):PC Pr GG 4 [cf w l t,cf w' l' t',aP ks u,iD n] (.bool true):=by
 have hown:=DN (G:=GG) w l t qad;have hown':=DN (G:=GG) w' l' t' qad;have hcl:=zY (G:=GG) ks u qad;have hth:=lW (G:=GG) w l t qad;have hth':=lW (G:=GG) w' l' t' qad;have hck:=oq (G:=GG) w l false qad;have hck':=oq (G:=GG) w' l' false qad
 refine' share (P:=fun c k=>∀ b:Int,b=gC w l w' l'->P2 Pr GG Tryz.f4.ntmps 0 [] c ⟨[(2,.d (aP ks u)),(3,.d (iD n)),(4,.ptr 0 2 0 0),(5,.ptr 1 2 0 0),(9,.ptr 2 2 0 0),(10,.ptr 3 2 0 0),(11,.d (aP ks false)),(12,.d (iD (bD w l))),(13,.d (iD b)),(14,.d (iD (bD w l))),(74,.d (aP ks u)),(75,.d (iD (ks.map fun k=>[iD k]).length)),(76,.d (iD 0))],[(0,some (.arr 2 [[.d (iD w),.d (az l t)]])),(1,some (.arr 2 [[.d (iD w'),.d (az l' t')]])),(2,some (.arr 2 [[.d (iD w),.d (az l false)]])),(3,some (.arr 2 [[.d (iD w'),.d (az l' false)]]))],4⟩ k) (fun tail=>?_) ?_
 rotate_left 2
 ·refine ae pok Tryz.func4 M2 ?_;conv=>whnf
  repeat' first|((first|refine O6.mk _ rfl ?_|refine O8.mk _ aK ?_|refine aJ ny ?_|refine aa av ?_|refine ab av ?_|refine aa hown ?_|refine ab hown ?_|refine aa (hown') ?_|refine ab (hown') ?_|refine aa hcl ?_|refine ab hcl ?_|refine aa hth ?_|refine ab hth ?_|refine aa (hth') ?_|refine ab (hth') ?_|refine aa hck ?_|refine ab hck ?_|refine aa (hck') ?_|refine ab (hck') ?_|refine HpP.force ?_);conv=>whnf)|(intro t ht;cases t<;>conv=>whnf)
  ·refine iw ?_ (tail (bD w l) (by unfold gC;rw[if_pos nb]));refine ah cW ?_ ?_ trivial
   ·exact gn
   ·exact lZ
  ·rename_i hA;have hA:bD w l=0:=A9;have hB:bD w' l'≠0:=nb;refine iw ?_ (tail (bD w' l') (by unfold gC;rw[if_neg (fun h=>h hA),if_pos hB]));refine ah cW ?_ ?_ trivial
   ·exact gn
   ·exact lZ
  ·rename_i hA hB;have hA:bD w l=0:=A9;have hB:bD w' l'=0:=by simpa using hB
   have hW:w=w':=nb;refine iw ?_ (tail 0 (by unfold gC;rw[if_neg (fun h=>h hA),if_neg (fun h=>h hB),if_neg (fun h=>h hW)]));refine ah cW ?_ ?_ trivial
   ·repeat' first|exact trivial|refine⟨⟨by first|rfl|assumption|exact congrArg (fun n=>AV.d (iD n)) hB,rfl⟩,?_⟩
   ·exact lZ
  ·rename_i hA hB;have hA:bD w l=0:=A9;have hB:bD w' l'=0:=by simpa using hB
   have hW:w≠w':=nb;refine iw ?_ (tail 7 (by unfold gC;rw[if_neg (fun h=>h hA),if_neg (fun h=>h hB),if_pos hW]));refine ah cW ?_ ?_ trivial
   ·exact gn
   ·exact lZ
  all_goals exact fin rfl
 ·intro b hb;refine ax pok (fun i=>⟨[(2,.d (aP ks u)),(3,.d (iD n)),(4,.ptr 0 2 0 0),(5,.ptr 1 2 0 0),(9,.ptr 2 2 0 0),(10,.ptr 3 2 0 0),(11,.d (aP ks false)),(12,.d (iD (bD w l))),(13,.d (iD b)),(14,.d (iD (Cf w l ks i))),(74,.d (aP ks u)),(75,.d (iD (ks.map fun k=>[iD k]).length)),(76,.d (iD i))],[(0,some (.arr 2 [[.d (iD w),.d (az l t)]])),(1,some (.arr 2 [[.d (iD w'),.d (az l' t')]])),(2,some (.arr 2 [[.d (iD w),.d (az l false)]])),(3,some (.arr 2 [[.d (iD w'),.d (az l' false)]]))],4⟩) (ks.length) (fun _=>True) (trivial) ?_ ar ?_ ?_
  ·exact nr
  ·intro i A_i h_i I_i N_i;have e_i:aD .i64 (i:Int) 1=((i+1:Nat):Int):=ak eH;have hg:=zb h_i;have hEA:gq w ks i=if ks[i]<0\/ks[i]>=w then 1 else if ks[i]∈ks.take i then 5 else 0:=by
    unfold gq;rw[ew h_i]
   have hnx:Cf w l ks (i+1)=if Cf w l ks i≠0 then Cf w l ks i else gq w ks i:=rfl
   rw[hEA]at hnx;generalize Cf w l ks i=e at hnx⊢;have hm:∀ t,PC Pr GG 25 [.sl (List.take ((i:Int).toNat-0) (List.drop 0 (ks.map fun k=>[iD k]))) t,iD ks[i]] (.bool (decide (ks[i]∈ks.take i))):=by
    intro t;rw[Wb,LQ,gx,<- E0];exact Vn (G:=GG) (ks.take i) t ks[i] fF
   generalize ks[i]=v at hg hnx hm;conv=>whnf
   repeat (refine O6.mk _ rfl ?_;conv=>whnf)
   intro t ht;cases t
   ·exact bu
   conv=>whnf
   repeat' first|((first|refine O6.mk _ qeo ?_|refine O8.mk _ aK ?_|refine aJ (by first|exact⟨dW _,by simp;omega,by simp⟩|assumption|exact⟨by kernel_rfl,rfl⟩|decide|omega|exact⟨rfl,by decide,by simp only[ef,jj];omega⟩) ?_|fail);conv=>whnf)|(refine cc ((hm _)) ?_)|(refine od ((hm _)) ?_)|(refine HpP.force ?_;conv=>whnf)|(intro t ht;cases t<;>conv=>whnf)
   ·have q:Cf w l ks (i+1)=0:=by rename_i c1 c2 c3;rw[hnx,if_neg qfv,if_neg (by simp at c2 c3;omega),if_neg nb]
    rename_i c1 _ _;have c1:e=0:=qfv;refine N_i _ ?_ ?_
    ·exact cY
    ·refine ah cW ?_ ?_ trivial
     ·repeat' first|exact trivial|refine⟨⟨by first|rfl|assumption|exact congrArg (fun n=>AV.d (iD n)) e_i|exact congrArg (fun n=>AV.d (iD n)) (c1.trans q.symm),rfl⟩,?_⟩
     ·exact lZ
   ·have q:Cf w l ks (i+1)=5:=by rename_i c1 c2 c3;rw[hnx,if_neg qfv,if_neg (by simp at c2 c3;omega),if_pos nb]
    refine N_i _ ?_ ?_
    ·exact cY
    ·exact qir
   ·have q:Cf w l ks (i+1)=1:=by rename_i c1 c2;rw[hnx,if_neg qfv,if_pos (.inr nb)]
    refine N_i _ ?_ ?_
    ·exact cY
    ·exact qir
   ·have q:Cf w l ks (i+1)=1:=by rename_i c1;rw[hnx,if_neg qfv,if_pos (.inl nb)]
    refine N_i _ ?_ ?_
    ·exact cY
    ·exact qir
   ·have q:Cf w l ks (i+1)=e:=by rw[hnx,if_pos nb]
    refine N_i _ ?_ ?_
    ·exact cY
    ·exact qir
  ·intro A_last I_last;rw[RT];have hsm:=xE (G:=GG) w w l l false t qad;have hsm2:=xE (G:=GG) w' w' l' l' false t' qad;have heq:=jB (G:=GG) ks false u qad;rw[decide_eq_true ⟨rfl,rfl⟩]at hsm hsm2;have h36:=cT w l false qad;have h32:=C8 w l false w' l' false qad qad;have h33:=ZO w l false w' l' false qad qad (fun W _ a c=>(OT a c).1);have h34:=Ko w l false ks false qad qad;by_cases hA:bD w l=0
   ·have hA1:True:=trivial;obtain⟨W,rfl,hs⟩:=jT hA;have hpos:0<l.length:=by have:=hs.len;have:=hs.lo;omega
    have h26:=ve (G:=GG) W l false W qad hpos (fun q hq=>dr (hs.vl q hq)) (by have:=hs.lo;omega) qeq;have h31:=Mo hs false;have hks:pu W ks=0->∀ k,k∈ks->0<=k:=fun he k hk=>by
     obtain⟨j,hj,rfl⟩:=Uy hk;exact(oV hj (ta he j hj)).1
    rw[RP,if_neg (fun h=>h hA)]at h34;rw[if_neg (fun h=>h hA)];rw[hA]at h36⊢;rw[gx]at h26;have hRl:=cZ l (2*W);by_cases hB:gC W l w' l'=0
    ·have hb0:True:=trivial;obtain⟨W2,e2,e3,_,hs'⟩:=zU hB;obtain rfl:W2=W:=qad;subst e3;have h26b:=ve (G:=GG) W2 l' false W2 qad (by have:=hs'.len;have:=hs'.lo;omega) (fun q hq=>dr (hs'.vl q hq)) (by have:=hs'.lo;omega) (by have:=hs'.hi;omega);have h28:=ZN (G:=GG) ⟨hs.lo,hs.hi⟩ l false l' qad qad hs.vl (Jp hs hs').1;rw[Et,if_pos hB]at h32;rw[DL,if_pos hB]at h33;rw[gx]at h26b h32 h33;rw[(OT hs hs').2]at h33;have h27:=bP (G:=GG) W2 W2 (af l (2*W2)) (af l' (2*W2)) false false (by rw[hRl];omega);have hd:decide ((W2:Int)=W2/\af l (2*W2)=af l' (2*W2))=decide (af l (2*W2)=af l' (2*W2)):=aR;rw[hd]at h27;rw[hb,hB];generalize decide (af l (2*W2)=af l' (2*W2))=dd at h27 h32;generalize af l (2*W2)=R at *;generalize af l' (2*W2)=R' at *;generalize Vu W2 l' l=ov at h28 h33;have ht1:=bz (G:=GG) W2 R true qad qad;have h27R:=bP (G:=GG) W2 W2 R R false false qad;rw[decide_eq_true ⟨rfl,rfl⟩]at h27R;rw[hRl]at ht1;have hrR:∀ ρ:Nat->Nat,some (Blk.ren ρ (ap 4 (R.map Ps.l)))=some (ap 4 (R.map Ps.l)):=fun ρ=>by rw[aE]
     cases dd with
     | true =>
      by_cases hE:pu W2 ks=0
      ·exact qhw
      ·exact qhx
     | false =>
      by_cases hE:pu W2 ks=0
      ·exact qhw
      ·exact qhx
    ·have hb0:b≠0:=by rw[hb];exact hB
     rw[Et,<- hb,if_neg hb0]at h32;rw[DL,<- hb,if_neg hb0]at h33;generalize af l (2*W)=R at *;have ht1:=bz (G:=GG) W R true qad qad;have h27R:=bP (G:=GG) W W R R false false qad;rw[decide_eq_true ⟨rfl,rfl⟩]at h27R;rw[hRl]at ht1;have hrR:∀ ρ:Nat->Nat,some (Blk.ren ρ (ap 4 (R.map Ps.l)))=some (ap 4 (R.map Ps.l)):=fun ρ=>by rw[aE]
     by_cases hE:pu W ks=0
     ·have hE1:True:=trivial;have h29:=Vh (G:=GG) (w:=W) l false ks u qad qad qad (fun k hk=>hks hE k hk) hs.lo hs.hi;rw[if_neg (fun h=>h hE),Nq hs hE]at h34;rw[hE];generalize Kn W l ks=en at h29 h34;by_cases hz:n<1\/n>12
      ·have h30:=sy hz;have h35:=sA hz;have hZl:True:=trivial;conv=>whnf
       repeat (refine O6.mk _ rfl ?_;conv=>whnf)
       intro t ht;cases t;rotate_left
       ·exact bu
       conv=>whnf
       repeat' first|((first|refine O6.mk _ A5 ?_|refine O8.mk _ aK ?_|(refine aJ qA ?_)|refine yk ?_|refine uF hb0 ?_|refine aa h35 ?_|refine ab h35 ?_|refine aY h31 ?_|refine aa h30 ?_|refine ab h30 ?_|refine aa h32 ?_|refine ab h32 ?_|refine aa h33 ?_|refine ab h33 ?_|refine aa h34 ?_|refine ab h34 ?_|refine aa h36 ?_|refine ab h36 ?_|refine aa hsm ?_|refine ab hsm ?_|refine aa hsm2 ?_|refine ab hsm2 ?_|refine aa heq ?_|refine ab heq ?_|refine aa av ?_|refine ab av ?_|refine aa h26 ?_|refine ab h26 ?_|refine aa hth ?_|refine ab hth ?_|refine aa h29 ?_|refine ab h29 ?_|refine aa (aX _) ?_|refine ab (aX _) ?_|refine aH (aM rfl rfl (hrR _)) ?_|refine aZ ht1 ?_|refine aa h27R ?_|refine ab h27R ?_|rw[aW]|refine P5.mk _ rfl ?_|refine aB pok Tryz.func37 dj ?_|refine HpP.force ?_);conv=>whnf)|(intro t ht;cases t<;>conv=>whnf)
       all_goals first|exact fin rfl|(exfalso;simp at ht;done)
      ·obtain⟨N,rfl⟩:∃ N:Nat,n=N:=⟨n.toNat,by omega⟩
       have h30:=tY (w:=N) qad qad;have h35:=sC (w:=N) ⟨by omega,by omega⟩;have hZl:(dC N).length=N:=A7;unfold zD at h30;generalize dC N=Z at h30 h35 hZl;have ht2:=bz (G:=GG) N Z false qad qad;have h27Z:=bP (G:=GG) N N Z Z false false qad;rw[decide_eq_true ⟨rfl,rfl⟩]at h27Z;rw[hZl]at ht2;have hrZ:∀ ρ:Nat->Nat,some (Blk.ren ρ (ap 4 (Z.map Ps.l)))=some (ap 4 (Z.map Ps.l)):=fun ρ=>by rw[aE]
       conv=>whnf
       repeat (refine O6.mk _ rfl ?_;conv=>whnf)
       intro t ht;cases t;rotate_left
       ·exact bu
       conv=>whnf
       repeat' first|((first|refine O6.mk _ A0 ?_|refine O8.mk _ aK ?_|(refine aJ qA ?_)|refine yk ?_|refine uF hb0 ?_|refine aY h35 ?_|refine aY h31 ?_|refine aa h30 ?_|refine ab h30 ?_|refine aa h32 ?_|refine ab h32 ?_|refine aa h33 ?_|refine ab h33 ?_|refine aa h34 ?_|refine ab h34 ?_|refine aa h36 ?_|refine ab h36 ?_|refine aa hsm ?_|refine ab hsm ?_|refine aa hsm2 ?_|refine ab hsm2 ?_|refine aa heq ?_|refine ab heq ?_|refine aa av ?_|refine ab av ?_|refine aa h26 ?_|refine ab h26 ?_|refine aa hth ?_|refine ab hth ?_|refine aa h29 ?_|refine ab h29 ?_|refine aH (aM rfl rfl (hrR _)) ?_|refine aH (aM rfl rfl (hrZ _)) ?_|refine aZ ht1 ?_|refine aZ ht2 ?_|refine aa h27R ?_|refine ab h27R ?_|refine aa h27Z ?_|refine ab h27Z ?_|rw[aW]|refine P5.mk _ rfl ?_|refine aB pok Tryz.func37 dj ?_|refine HpP.force ?_);conv=>whnf)|(intro t ht;cases t<;>conv=>whnf)
       all_goals first|exact fin rfl|(exfalso;simp at ht;done)
     ·have hE1:=hE;rw[if_pos hE]at h34;generalize pu W ks=e14 at *;by_cases hz:n<1\/n>12
      ·have h30:=sy hz;have h35:=sA hz;have hZl:True:=trivial;conv=>whnf
       repeat (refine O6.mk _ rfl ?_;conv=>whnf)
       intro t ht;cases t;rotate_left
       ·exact bu
       conv=>whnf
       repeat' first|((first|refine O6.mk _ A5 ?_|refine O8.mk _ aK ?_|(refine aJ qA ?_)|refine yk ?_|refine uF hb0 ?_|refine uF hE1 ?_|refine aa h35 ?_|refine ab h35 ?_|refine aY h31 ?_|refine aa h30 ?_|refine ab h30 ?_|refine aa h32 ?_|refine ab h32 ?_|refine aa h33 ?_|refine ab h33 ?_|refine aa h34 ?_|refine ab h34 ?_|refine aa h36 ?_|refine ab h36 ?_|refine aa hsm ?_|refine ab hsm ?_|refine aa hsm2 ?_|refine ab hsm2 ?_|refine aa heq ?_|refine ab heq ?_|refine aa av ?_|refine ab av ?_|refine aa h26 ?_|refine ab h26 ?_|refine aa hth ?_|refine ab hth ?_|refine aa (aX _) ?_|refine ab (aX _) ?_|refine aH (aM rfl rfl (hrR _)) ?_|refine aZ ht1 ?_|refine aa h27R ?_|refine ab h27R ?_|rw[aW]|refine P5.mk _ rfl ?_|refine aB pok Tryz.func37 dj ?_|refine HpP.force ?_);conv=>whnf)|(intro t ht;cases t<;>conv=>whnf)
       all_goals first|exact fin rfl|(exfalso;simp at ht;done)
      ·obtain⟨N,rfl⟩:∃ N:Nat,n=N:=⟨n.toNat,by omega⟩
       have h30:=tY (w:=N) qad qad;have h35:=sC (w:=N) ⟨by omega,by omega⟩;have hZl:(dC N).length=N:=A7;unfold zD at h30;generalize dC N=Z at h30 h35 hZl;have ht2:=bz (G:=GG) N Z false qad qad;have h27Z:=bP (G:=GG) N N Z Z false false qad;rw[decide_eq_true ⟨rfl,rfl⟩]at h27Z;rw[hZl]at ht2;have hrZ:∀ ρ:Nat->Nat,some (Blk.ren ρ (ap 4 (Z.map Ps.l)))=some (ap 4 (Z.map Ps.l)):=fun ρ=>by rw[aE]
       conv=>whnf
       repeat (refine O6.mk _ rfl ?_;conv=>whnf)
       intro t ht;cases t;rotate_left
       ·exact bu
       conv=>whnf
       repeat' first|((first|refine O6.mk _ A0 ?_|refine O8.mk _ aK ?_|(refine aJ qA ?_)|refine yk ?_|refine uF hb0 ?_|refine uF hE1 ?_|refine aY h35 ?_|refine aY h31 ?_|refine aa h30 ?_|refine ab h30 ?_|refine aa h32 ?_|refine ab h32 ?_|refine aa h33 ?_|refine ab h33 ?_|refine aa h34 ?_|refine ab h34 ?_|refine aa h36 ?_|refine ab h36 ?_|refine aa hsm ?_|refine ab hsm ?_|refine aa hsm2 ?_|refine ab hsm2 ?_|refine aa heq ?_|refine ab heq ?_|refine aa av ?_|refine ab av ?_|refine aa h26 ?_|refine ab h26 ?_|refine aa hth ?_|refine ab hth ?_|refine aH (aM rfl rfl (hrR _)) ?_|refine aH (aM rfl rfl (hrZ _)) ?_|refine aZ ht1 ?_|refine aZ ht2 ?_|refine aa h27R ?_|refine ab h27R ?_|refine aa h27Z ?_|refine ab h27Z ?_|rw[aW]|refine P5.mk _ rfl ?_|refine aB pok Tryz.func37 dj ?_|refine HpP.force ?_);conv=>whnf)|(intro t ht;cases t<;>conv=>whnf)
       all_goals first|exact fin rfl|(exfalso;simp at ht;done)
   ·have hA1:=hA;have hE1:True:=trivial;have h31:=Rv w l false qad;have hb0:b≠0:=by rw[hb];unfold gC;rw[if_pos hA];exact hA
    rw[FA,if_neg hA]at h31;rw[Et,<- hb,if_neg hb0]at h32;rw[DL,<- hb,if_neg hb0]at h33;rw[RP,if_pos hA]at h34;rw[if_pos hA];generalize bD w l=e12 at *;have hRl:True:=trivial;by_cases hz:n<1\/n>12
    ·have h30:=sy hz;have h35:=sA hz;have hZl:True:=trivial;conv=>whnf
     repeat (refine O6.mk _ rfl ?_;conv=>whnf)
     intro t ht;cases t;rotate_left
     ·exact bu
     conv=>whnf
     repeat' first|((first|refine O6.mk _ rfl ?_|refine O8.mk _ aK ?_|(refine aJ qA ?_)|refine yk ?_|refine uF hA1 ?_|refine uF hb0 ?_|refine aa h35 ?_|refine ab h35 ?_|refine aa h31 ?_|refine ab h31 ?_|refine aa (aX _) ?_|refine ab (aX _) ?_|refine aa h30 ?_|refine ab h30 ?_|refine aa h32 ?_|refine ab h32 ?_|refine aa h33 ?_|refine ab h33 ?_|refine aa h34 ?_|refine ab h34 ?_|refine aa h36 ?_|refine ab h36 ?_|refine aa hsm ?_|refine ab hsm ?_|refine aa hsm2 ?_|refine ab hsm2 ?_|refine aa heq ?_|refine ab heq ?_|refine aa av ?_|refine ab av ?_|refine HpP.force ?_);conv=>whnf)|(intro t ht;cases t<;>conv=>whnf)
     all_goals first|exact fin rfl|(exfalso;simp at ht;done)
    ·obtain⟨N,rfl⟩:∃ N:Nat,n=N:=⟨n.toNat,by omega⟩
     have h30:=tY (w:=N) qad qad;have h35:=sC (w:=N) ⟨by omega,by omega⟩;have hZl:(dC N).length=N:=A7;unfold zD at h30;generalize dC N=Z at h30 h35 hZl;have ht2:=bz (G:=GG) N Z false qad qad;have h27Z:=bP (G:=GG) N N Z Z false false qad;rw[decide_eq_true ⟨rfl,rfl⟩]at h27Z;rw[hZl]at ht2;have hrZ:∀ ρ:Nat->Nat,some (Blk.ren ρ (ap 4 (Z.map Ps.l)))=some (ap 4 (Z.map Ps.l)):=fun ρ=>by rw[aE]
     conv=>whnf
     repeat (refine O6.mk _ rfl ?_;conv=>whnf)
     intro t ht;cases t;rotate_left
     ·exact bu
     conv=>whnf
     repeat' first|((first|refine O6.mk _ VA ?_|refine O8.mk _ aK ?_|(refine aJ qA ?_)|refine yk ?_|refine uF hA1 ?_|refine uF hb0 ?_|refine aY h35 ?_|refine aa h31 ?_|refine ab h31 ?_|refine aa (aX _) ?_|refine ab (aX _) ?_|refine aa h30 ?_|refine ab h30 ?_|refine aa h32 ?_|refine ab h32 ?_|refine aa h33 ?_|refine ab h33 ?_|refine aa h34 ?_|refine ab h34 ?_|refine aa h36 ?_|refine ab h36 ?_|refine aa hsm ?_|refine ab hsm ?_|refine aa hsm2 ?_|refine ab hsm2 ?_|refine aa heq ?_|refine ab heq ?_|refine aa av ?_|refine ab av ?_|refine aH (aM rfl rfl (hrZ _)) ?_|refine aZ ht2 ?_|refine aa h27Z ?_|refine ab h27Z ?_|rw[aW]|refine P5.mk _ rfl ?_|refine aB pok Tryz.func37 dj ?_|refine HpP.force ?_);conv=>whnf)|(intro t ht;cases t<;>conv=>whnf)
     all_goals first|exact fin rfl|(exfalso;simp at ht;done)
end Go.Tz
namespace Go.Tz
open Go Go.AL Go.Proofs Go.Ma
theorem Ry(w:Int)(l:List Ps)(t:Bool)(w':Int)(l':List Ps)(t':Bool)(ks:List Int)(u:Bool)(n:Int):PC Pr GG 4 [cf w l t,cf w' l' t',aP ks u,iD n] (.bool true):=by
 by_cases h:l.length<=20/\l'.length<=20/\ks.length<=20
 ·exact sc4 w l t w' l' t' ks u n h.1 h.2.1 h.2.2
 ·refine ae pok Tryz.func4 M2 ?_;conv=>whnf
  repeat' first|((first|refine O6.mk _ rfl ?_|refine O8.mk _ aK ?_|refine aJ ny ?_|refine aa av ?_|refine ab av ?_|refine HpP.force ?_);conv=>whnf)|(intro t ht;cases t<;>conv=>whnf)
  all_goals first|exact fin rfl|skip
  all_goals (exfalso;rename_i c1 c2;simp at ht c1 c2;omega)
end Go.Tz
namespace Go.Tz
open Go Go.AL Go.Ma
theorem Vx(N a:Nat):∀ k,ig k (N^^^2^a)+(if a<k then(N.testBit a).toNat else 0)=ig k N+(if a<k then(!N.testBit a).toNat else 0)
 | 0=>by simp[ig]
 | k+1=>by
  have ih:=Vx N a k;simp only[ig,gy,ll];by_cases h:a=k
  ·subst h;rw[if_neg qad,if_neg qad]at ih;rw[if_pos qad,if_pos qad];cases N.testBit a<;>simp<;>omega
  ·rw[decide_eq_false h,Bool.xor_false];by_cases h2:a<k
   ·rw[if_pos h2,if_pos h2]at ih;rw[if_pos qad,if_pos qad];omega
   ·rw[if_neg h2,if_neg h2]at ih;rw[if_neg qad,if_neg qad];omega
theorem pB{Y a:Nat}(h:Y.testBit a=false):Y+2^a=Y^^^2^a:=by
 have hd:Y=2^(a+1)*(Y / 2^(a+1))+Y%2^(a+1):=(Nat.div_add_mod _ _).symm;have hm:Y%2^(a+1)=Y%2^a:=by rw[wZ,h];simp
 have hlt:Y%2^a<2^a:=Cm _ (sk a);rw[hm]at hd;generalize Y%2^a=lo at *;generalize Y / 2^(a+1)=hi at *;have hlt2:lo+2^a<2^(a+1):=G9;have hlt3:lo<2^(a+1):=qad;have hx:lo^^^2^a=lo+2^a:=by
  have:=VU hlt 1;rw[UA]at this;rw[Nat.add_comm,this];refine Fs fun j=>?_;rw[gy,Nat.testBit_or,ll];by_cases e:a=j
  ·subst e;rw[LM hlt];simp
  ·rw[decide_eq_false e];simp
 have hx2:lo^^^2^a<2^(a+1):=by rw[hx];exact hlt2
 rw[hd,Wa,<- hx];refine Fs fun j=>?_;rw[wc4 _ hx2,gy (2^(a+1)*hi+lo),wc4 _ hlt3,gy lo,ll];by_cases e:j<a+1
 ·rw[if_pos e,if_pos e]
 ·rw[if_neg e,if_neg e,decide_eq_false qad];simp
theorem EG{Y a:Nat}(h:Y.testBit a=true):Y-2^a=Y^^^2^a:=by
 have h2:(Y^^^2^a).testBit a=false:=by rw[gy,h,wd3];rfl
 have:=pB h2;rw[py,yE,zF]at this;omega
theorem FT{Y a:Nat}(h:Y.testBit a=true):2^a<=Y:=Nat.ge_two_pow_of_testBit h
theorem Fc{X Z a l:Nat}(hX:X<4096)(hZ:Z<4096)(ha:a<12)(_hl:l<=3) :
  ik X Z a l=(((X^^^cd (X.testBit a != (decide (l=1)||decide (l=2))) (2^a):Nat):Int),((Z^^^cd (Z.testBit a != (decide (l=2)||decide (l=3))) (2^a):Nat):Int)):=by
 have hp:(2:Nat)^a<=2^12:=js qaj qad;have x0:(X^^^2^a)<4096:=pn (n:=12) hX (Fq qaj ha);have z0:(Z^^^2^a)<4096:=pn (n:=12) hZ (Fq qaj ha);have key:∀(Y:Nat) (t s:Bool),Y<4096->Y.testBit a=t->(if s=true then aD .i64 (if t=true then cO .i64 (Y:Int) (cU .i64 1 (a:Int)) else(Y:Int)) (cU .i64 1 (a:Int)) else(if t=true then cO .i64 (Y:Int) (cU .i64 1 (a:Int)) else(Y:Int)))=((Y^^^cd (t != s) (2^a):Nat):Int):=by
  intro Y t s hY ht;rw[cq qad];cases t with
  | true =>
   have hge:=FT ht;rw[if_pos rfl,iY hge qad];cases s with
   | true =>
    rw[if_pos rfl,ak qad,Nat.sub_add_cancel hge];simp[cd]
   | false =>
    rw[if_neg aR,EG ht];simp[cd]
  | false =>
   simp only[QZ,if_false];cases s with
   | true =>
    simp only[if_true];rw[ak qad,pB ht];simp[cd]
   | false=>simp[cd]
 have hb:gY (Z:Int) (a:Int)=if Z.testBit a then 1 else 0:=dX qad qad
 unfold ik;rw[eG hX hZ qad,hb];dsimp only;have k1:=key X (X.testBit a) (decide (l=1)||decide (l=2)) hX rfl;have k2:=key Z (Z.testBit a) (decide (l=2)||decide (l=3)) hZ rfl;rw[<- k1,<- k2];have c1:((l:Int)=1\/(l:Int)=2) ↔ ((decide (l=1)||decide (l=2))=true):=fF;have c2:((l:Int)=2\/(l:Int)=3) ↔ ((decide (l=2)||decide (l=3))=true):=fF;simp only[c1,c2];cases X.testBit a<;>cases Z.testBit a<;>simp
theorem Ri{X Z a:Nat}(x' z':Bool):(X^^^cd (X.testBit a != x') (2^a)) &&& (Z^^^cd (Z.testBit a != z') (2^a))=(X &&& Z)^^^cd ((X.testBit a&&Z.testBit a) != (x'&&z')) (2^a):=by
 refine Fs fun j=>?_;simp only[Fo,gy,ju,ll];by_cases e:a=j
 ·subst e;rw[decide_eq_true (show a=a from rfl)];cases X.testBit a<;>cases Z.testBit a<;>cases x'<;>cases z'<;>rfl
 ·rw[decide_eq_false e];simp
theorem ZR{N a:Nat}(ha:a<12)(t:Bool):ig 12 (N^^^cd (N.testBit a != t) (2^a))+(N.testBit a).toNat=ig 12 N+t.toNat:=by
 have:=Vx N a 12;rw[if_pos ha,if_pos ha]at this;cases e:N.testBit a<;>cases t<;>simp[cd,e]at this⊢<;>omega
theorem Lg{A B:Nat}(hA:A<4096):A+4096*B=A^^^4096*B:=by
 have:=BR (X:=A) (Z:=0) (X':=0) (Z':=B) hA qaj;simp at this;exact this.symm
theorem BS{X Z a:Nat}(hX:X<4096)(ha:a<12):(X+4096*Z).testBit a=X.testBit a:=by rw[gX hX,if_pos ha]
theorem xU{X Z a:Nat}(hX:X<4096):(X+4096*Z).testBit (12+a)=Z.testBit a:=by
 rw[gX hX,if_neg qad];congr 1;omega
theorem Gn{w X Z P a:Nat}(hX:X<4096)(_hZ:Z<4096)(ha:a<12)(x' z':Bool) :
  nf (mk w (X^^^cd (X.testBit a != x') (2^a)) (Z^^^cd (Z.testBit a != z') (2^a)) P)=aU (gp a (nf (mk w X Z P))) (eL a x' z'):=by
 have hp:∀ t,cd t (2^a)<4096:=fun t=>by
  cases t
  ·show 0<4096;decide
  ·exact(Fq qaj ha:(2:Nat)^a<2^12)
 rw[df,df];refine du ?_ ?_
 ·simp only[aU,gp,eL];rw[BS hX ha,xU hX,Ri];have q:=ZR (N:=X &&& Z) ha (x'&&z');rw[Fo]at q;have hb:bt ((X+4096*Z)^^^(cd (X.testBit a) (2^a)^^^cd (Z.testBit a) (2^(12+a)))) (cd x' (2^a)^^^cd z' (2^(12+a)))=false:=by
   have q2:decide (a=12+a)=false:=decide_eq_false qad;simp only[dM,nL,kP ha,kO,gy,ju,ll,q2,xU hX];simp
  rw[hb];generalize ig 12 ((X &&& Z)^^^cd ((X.testBit a&&Z.testBit a) != (x'&&z')) (2^a))=u at *;generalize ig 12 (X &&& Z)=v at *;generalize (X.testBit a&&Z.testBit a).toNat=s at *;generalize (x'&&z').toNat=t at *;show(P+u)%4=_;simp only[Bool.toNat_false];omega
 ·simp only[aU,gp,eL];rw[BS hX ha,xU hX,<- BR hX (hp _),nN,nN,Lg (A:=cd (X.testBit a) (2^a)^^^cd x' (2^a)) (pn (n:=12) (hp _) (hp _))];have d:4096*(cd (Z.testBit a) (2^a)^^^cd z' (2^a))=cd (Z.testBit a) (2^(12+a))^^^cd z' (2^(12+a)):=by
   cases Z.testBit a<;>cases z'<;>simp[cd,Nat.pow_add]
  rw[d];ac_rfl
theorem Tm{w X Z P a l:Nat}(hX:X<4096)(hZ:Z<4096)(ha:a<12)(hl:l<=3) :
  nf ⟨w,(ik X Z a l).1,(ik X Z a l).2,P⟩=aU (gp a (nf (mk w X Z P))) (eL a (decide (l=1)||decide (l=2)) (decide (l=2)||decide (l=3))):=by
 rw[Fc hX hZ ha hl];exact Gn hX hZ ha _ _
theorem UD{w X Z P a l:Nat}(hw:w<=12)(hX:X<2^w)(hZ:Z<2^w)(ha:a<w)(hl:l<=3)(hP:P<4):Vl w ⟨w,(ik X Z a l).1,(ik X Z a l).2,P⟩:=by
 have hp:(2:Nat)^w<=2^12:=js qaj hw;have hc:∀ t,cd t (2^a)<2^w:=fun t=>by
  cases t
  ·exact sk w
  ·exact Fq qaj ha
 rw[Fc qad qad qad hl];exact⟨_,_,_,rfl,pn hX (hc _),pn hZ (hc _),hP⟩
theorem pd{w n l:Nat}(hn:n<12)(_hl:l<=3):nf (db w n l)=eL n (decide (l=1)||decide (l=2)) (decide (l=2)||decide (l=3)):=by
 have hs:db w n l=mk w (0^^^cd ((0:Nat).testBit n != (decide (l=1)||decide (l=2))) (2^n)) (0^^^cd ((0:Nat).testBit n != (decide (l=2)||decide (l=3))) (2^n)) 0:=by
  unfold db mk;rw[cq qad];have c1:((l:Int)=1\/(l:Int)=2) ↔ ((decide (l=1)||decide (l=2))=true):=fF;have c2:((l:Int)=3\/(l:Int)=2) ↔ ((decide (l=2)||decide (l=3))=true):=fF;simp only[c1,c2,Cj];cases (decide (l=1)||decide (l=2))<;>cases (decide (l=2)||decide (l=3))<;>simp[cd]
 rw[hs,Gn qaj qaj hn];have h0:gp n (nf (mk w 0 0 0))=e1:=by
  rw[df];simp[gp,rI,cd,e1]
 rw[h0,eP _ (CN _ _ _)]
theorem Bb{w n l:Nat}(hn:n<w)(hw:w<=12):Vl w (db w n l):=by
 have hp:(2:Nat)^n<2^w:=Fq qaj hn;refine⟨if(l:Int)=1\/(l:Int)=2 then 2^n else 0,if(l:Int)=3\/(l:Int)=2 then 2^n else 0,0,?_,?_,?_,by decide⟩
 ·unfold db mk;rw[cq qad];simp only[Ps.mk.injEq,true_and];refine⟨?_,?_,rfl⟩<;>split<;>rfl
 ·split
  ·exact hp
  ·exact sk w
 ·split
  ·exact hp
  ·exact sk w
def F2(w:Nat)(e:E):Ps:=mk w (e.2%4096) (e.2 / 4096) ((e.1+3*ig 12 ((e.2%4096) &&& (e.2 / 4096)))%4)
theorem xb(w:Nat){e:E}(h:e.1<4):nf (F2 w e)=e:=by
 unfold F2;rw[df];refine du ?_ ?_
 ·exact LF
 ·exact LF
theorem Nd{w:Nat}{e:E}(hw:w<=12)(h:∀ j,(w<=j/\j<12)\/12+w<=j->e.2.testBit j=false):Vl w (F2 w e):=by
 refine⟨_,_,_,rfl,?_,?_,Cm _ qaj⟩
 ·refine I6 _ fun j hj=>?_;rw[show(4096:Nat)=2^12 from rfl,QX];by_cases h12:j<12
  ·rw[h j qad];simp
  ·simp[h12]
 ·refine I6 _ fun j hj=>?_;rw[show(4096:Nat)=2^12 from rfl,<- LL,Nat.testBit_shiftRight];exact h _ qad
theorem Ut{w:Nat}{q:Ps}(hw:w<=12)(h:Vl w q){j:Nat}(hj:(w<=j/\j<12)\/12+w<=j):(nf q).2.testBit j=false:=by
 obtain⟨X,Z,P,rfl,h1,h2,h3⟩:=h;have hp:(2:Nat)^w<=2^12:=js qaj hw;rw[df];dsimp only;rw[gX qad];split
 ·exact qe0
 ·exact qe1
def qo(w k a b:Nat)(q:Ps):Ps:=F2 w (gE k a b (nf q))
def gR(w k a b:Nat):Prop:=(1<=k/\k<=6/\a<w)\/(9<=k/\k<=11/\a<w/\b<w/\a≠b)
theorem pJ{w k a b:Nat}(hw:w<=12)(h:gR w k a b):wI k a b:=by unfold gR at h;unfold wI;omega
theorem BD{w k a b:Nat}(hw:w<=12)(h:gR w k a b){q:Ps}(hq:Vl w q):Vl w (qo w k a b q) :=
 Nd hw fun j hj=>Az (pJ hw h) (w:=w) qej qej hj (Ut hw hq hj)
theorem Oy(w k a b:Nat)(q:Ps):nf (qo w k a b q)=gE k a b (nf q):=xb w (wH _ _ _ _)
theorem Qe{w k a b:Nat}(hw:w<=12)(h:gR w k a b){q r:Ps}(hq:Vl w q)(hr:Vl w r)(e:nf r=gE k a b (nf q)):r=qo w k a b q :=
 nX hw hr (BD hw h hq) (by rw[Oy,e])
def Ed(w X Z P n:Nat):Ps:=mk w (X%2^n) (Z%2^n) P
theorem nf_pt{w X Z P n:Nat}(hn:n<12):nf (Ed w X Z P (n+1))=aU (nf (Ed w X Z P n)) (eL n (X.testBit n) (Z.testBit n)):=by
 have hp:(2:Nat)^(n+1)<=2^12:=js qaj hn;have hX:X%2^(n+1)<4096:=uU (Cm _ (sk _)) hp;have hZ:Z%2^(n+1)<4096:=uU (Cm _ (sk _)) hp;have hb:∀ Y:Nat,(Y%2^(n+1)).testBit n=Y.testBit n:=fun Y=>by rw[QX];simp
 have hc:∀ Y:Nat,Y%2^(n+1)^^^cd ((Y%2^(n+1)).testBit n != false) (2^n)=Y%2^n:=fun Y=>by
  refine Fs fun j=>?_;rw[hb,gy,ju,ll,QX,QX];by_cases e:n=j
  ·subst e;simp
  ·rw[decide_eq_false e];have:decide (j<n+1)=decide (j<n):=decide_eq_decide.2 qad;rw[this];simp
 have h1:=Gn (w:=w) (P:=P) hX hZ hn false false;rw[hc,hc]at h1;have h2:eL n false false=e1:=qhf;rw[h2,iU _ (qU _ _)]at h1;unfold Ed;rw[h1];have h3:=qV hn (ux (mk w (X%2^(n+1)) (Z%2^(n+1)) P));have hx:(nf (mk w (X%2^(n+1)) (Z%2^(n+1)) P)).2.testBit n=X.testBit n:=by rw[df];dsimp only;rw[BS hX hn,hb]
 have hz:(nf (mk w (X%2^(n+1)) (Z%2^(n+1)) P)).2.testBit (12+n)=Z.testBit n:=by rw[df];dsimp only;rw[xU hX,hb]
 rw[hx,hz]at h3;exact h3.symm
theorem pt_0{w X Z P k a b:Nat}(h:wI k a b):nf (Ed w X Z P 0)=gE k a b (nf (Ed w X Z P 0)):=by
 refine(Ax h (ux _) ?_ ?_ fun _=>⟨?_,?_⟩).symm<;>(unfold Ed;rw[df,Nat.pow_zero,E1,E1];simp)
theorem ZX{w X Z P n:Nat}(hX:X<2^n)(hZ:Z<2^n):Ed w X Z P n=mk w X Z P:=by
 unfold Ed;rw[Uz hX,Uz hZ]
theorem Jw{w X Z P k a b n:Nat}(h:wI k a b)(hn:n<12){e:E}(he:e=gE k a b (nf (Ed w X Z P n))):aU e (gE k a b (eL n (X.testBit n) (Z.testBit n)))=gE k a b (nf (Ed w X Z P (n+1))):=by
 rw[he,<- jl h,<- nf_pt hn]
theorem TF{w X Z P k a b n:Nat}(h:wI k a b)(hn:n<12)(hx:X.testBit n=false)(hz:Z.testBit n=false){e:E}(he:e=gE k a b (nf (Ed w X Z P n))):e=gE k a b (nf (Ed w X Z P (n+1))):=by
 have h0:eL n false false=e1:=qhf;have:=Jw h hn he;rw[hx,hz,h0,FR h,iU _ (by rw[he];exact wH _ _ _ _)]at this;exact this
end Go.Tz
namespace Go.Tz
open Go Go.AL Go.Ma
theorem En{w:Nat}{l:List Ps}(h:SOk w l):∃ pc,RR l.length (2*w) l.length (fJ l (2*w)) pc:=by
 obtain⟨pc,r1,r2⟩:=Bp h.hi h.vl;have hb:∀ c,∀ a,a∈dH (fJ l c) l.length->a<2^24:=by
  intro c a ha;obtain⟨j,hj,rfl⟩:=cQ.1 ha;exact xT h.hi ((fp h.hi h.vl c).1 j hj)
 have e1:=pN (hb (2*w)) (hb 0) fun v=>lR h.hi h.vl v (cF _);have e2:=h.rank;rw[vz h.hi h.vl,<- e1,GY r2,Aa]at e2;have han:=r1.an;have:(aG l (2*w)).2.2=l.length:=by
  refine Fp fun hn=>?_;have:=e2 (aG l (2*w)).2.2 qad;simp at this
 exact⟨pc,by rw[this]at r1;exact r1⟩
theorem KU{L M:List E}(h:gz L M)(v:Nat):bG (L.map (·.2)) v=bG (M.map (·.2)) v:=by
 have key:∀{A B:List E},gz A B->bG (A.map (·.2)) v=true->bG (B.map (·.2)) v=true:=fun hab ha=>by
  obtain⟨g,hg,rfl⟩:=ou _ v ha;exact eb ((hab g).1 hg)
 cases e:bG (M.map (·.2)) v with
 | true=>exact key (fun g=>(h g).symm) e
 | false =>
  cases e2:bG (L.map (·.2)) v with
  | false=>rfl
  | true=>rw[key h e2]at e;cases e
theorem Eo{w:Nat}{l m:List Ps}(h:SOk w l)(h':SOk w m)(hg:gz (l.map nf) (m.map nf)):af l (2*w)=af m (2*w):=by
 obtain⟨pc,r1⟩:=En h;obtain⟨pc',r2⟩:=En h';have hlen:l.length=m.length:=by rw[h.len,h'.len]
 rw[<- hlen]at r2;have hs:∀ v,bG (dH (fJ l (2*w)) l.length) v=bG (dH (fJ m (2*w)) l.length) v:=fun v=>by
  have e2:=lR h'.hi h'.vl v (cF (2*w));rw[<- hlen]at e2;have e3:=Bt (l:=m) (v:=v);rw[<- hlen]at e3;rw[lR h.hi h.vl v (cF _),e2,e3,Bt,KU hg]
 obtain⟨a1,a2⟩:=bK h;obtain⟨b1,b2⟩:=bK h';have hA:=cN h';unfold af;rw[<- hlen];refine xX fun j hj=>?_;have hj:=cJ.1 hj;have hv:=TX r1 r2 hs hj;have mem:∀{l:List Ps},j<l.length->nf ((aG l (2*w)).1 j)∈(af l (2*w)).map nf:=fun hj=>bm.2 ⟨_,bm.2 ⟨j,cJ.2 hj,rfl⟩,rfl⟩;have g1:Gen (m.map nf) (nf ((aG l (2*w)).1 j)):=(hg _).1 ((a2 _).2 (bC (cN a1).good (mem hj)));have g2:Gen (m.map nf) (nf ((aG m (2*w)).1 j)):=(b2 _).2 (bC (cN b1).good (mem qad));exact nX h.hi ((fp h.hi h.vl _).1 j hj) ((fp h'.hi h'.vl _).1 j qad) (nU hA.good hA.ind g1 g2 hv)
theorem Bn{w:Nat}{l:List Ps}(h:SOk w l):af (af l (2*w)) (2*w)=af l (2*w) :=
 (Eo h (bK h).1 (bK h).2).symm
def appS(w k a b:Nat)(l:List Ps):List Ps:=af (l.map (qo w k a b)) (2*w)
theorem Gi(w k a b:Nat)(l:List Ps):(l.map (qo w k a b)).map nf=(l.map nf).map (gE k a b):=by
 rw[pU,pU];exact xX fun q _=>Oy w k a b q
theorem Hh{w k a b:Nat}(hw:w<=12)(hg:gR w k a b){l:List Ps}(hv:∀ q,q∈l->Vl w q):∀ q,q∈l.map (qo w k a b)->Vl w q:=fun q hq=>by
 obtain⟨r,hr,rfl⟩:=bm.1 hq;exact BD hw hg (hv r hr)
theorem uu{w k a b:Nat}(hg:gR w k a b){l:List Ps}(h:SOk w l):SOk w (l.map (qo w k a b)):=by
 refine mT ⟨h.lo,h.hi⟩ (Hh h.hi hg h.vl) ?_;rw[Gi];exact Yv h.hi (pJ h.hi hg) (by unfold gR at hg;omega) (by unfold gR at hg;omega) (cN h)
theorem Rl{w k a b:Nat}(hg:gR w k a b){l:List Ps}(h:SOk w l):SOk w (appS w k a b l):=(bK (uu hg h)).1
theorem GP{w:Nat}(hw:w<=12){l:List Ps}(hv:∀ q,q∈l->Vl w q)(c:Nat):∀ q,q∈af l c->Vl w q:=fun q hq=>by
 obtain⟨j,hj,rfl⟩:=bm.1 hq;exact(fp hw hv c).1 j (cJ.1 hj)
theorem Ea{w:Nat}{L M:List E}(hL:Sta w L)(hM:Sta w M){p:E}(hok:tc p)(h:gz L M)(hxL:∃ q,q∈L /\ ¬ bw q p)(hxM:∃ q,q∈M /\ ¬ bw q p){g:E}(hg:Gen (dJ p L) g):Gen (dJ p M) g:=by
 obtain⟨k,hk,hc,e⟩:=tw hL.good hok hxL hg;obtain⟨f,hf,hfp,hkeep⟩:=pe hM.good hok hxM;have h1:=(hkeep k ((h k).1 hk)).1 hc;have hgd:=lO hM.good hok hxM;rcases e with rfl|rfl
 ·exact h1
 ·exact cg hgd (bC hgd (lP hxM)) h1
theorem KK{w:Nat}{L M:List E}(hw:w<=12)(hL:Sta w L)(hM:Sta w M){p:E}(hp:sE w p.2)(hok:tc p)(h:gz L M)(h1:¬ Gen L p)(h2:¬ Gen L (dp p)):gz (dJ p L) (dJ p M):=by
 have hxL:=jf hw hL hp hok h1 h2;have hxM:=jf hw hM hp hok (fun q=>h1 ((h p).2 q)) (fun q=>h2 ((h _).2 q));exact fun g=>⟨Ea hL hM hok h hxL hxM,Ea hM hL hok (fun g=>(h g).symm) hxM hxL⟩
end Go.Tz
namespace Go.Tz
open Go Go.AL Go.Ma
def zP(w n o:Nat):Ps:=mk w 0 (2^n) (2*o)
theorem kN{w n o:Nat}(hn:n<w)(ho:o<=1):Vl w (zP w n o):=⟨0,2^n,2*o,rfl,sk w,Fq qaj hn,by omega⟩
theorem Fh{w n o:Nat}(hw:w<=12)(hn:n<w)(ho:o<=1):tc (nf (zP w n o)):=by
 rw[qd hw (kN hn ho)];show((2*o:Nat):Int).tmod 2=0;rw[VW qad];omega
theorem iV{L:List E}{g:E}{e:Int}(h:Q5 L g e):(e=1/\Gen L g)\/(e = -1/\Gen L (dp g))\/(e=0 /\ ¬ Gen L g /\ ¬ Gen L (dp g)):=by
 by_cases a:Gen L g
 ·exact .inl ⟨h.pos a,a⟩
 ·by_cases b:Gen L (dp g)
  ·exact .inr (.inl ⟨h.neg b,b⟩)
  ·exact .inr (.inr ⟨h.zero a b,a,b⟩)
theorem Bh{w N:Nat}(hw:w<=12){rf:Nat->Ps}{p:Ps}{a0:Nat}{R:List Nat}(hv:∀ j,j<N->Vl w (rf j))(hp:Vl w p)(ha:a0<N):∀ j,j<N->Vl w (eT rf p a0 R j):=by
 intro j hj;unfold eT kC;split
 ·exact hp
 ·split
  ·exact dy hw (hv j hj) (hv a0 ha)
  ·exact hv j hj
theorem Jh{w:Nat}{l r:List Ps}(h:SOk w l)(h':SOk w r)(hg:gz (r.map nf) (l.map nf)){p:Ps}(hp:Vl w p)(hk:tc (nf p)) :
  nk r p=cI w l p/\(cI w l p=0->SOk w (dz p l) /\ ∃ a0 R,fG p (fun j=>r.getD j Ps.z0) w=a0::R/\a0<w/\af (bM w (eT (fun j=>r.getD j Ps.z0) p a0 R)) (2*w)=af (dz p l) (2*w)):=by
 have x1:=Ao h' hp hk;have x2:=kE h hp hk;refine⟨wu hg x1 x2,fun h0=>?_⟩;have hs:=cN h;have hs':=cN h';have hpin:sE w (nf p).2:=tR h.hi hp;have hn:¬ Gen (l.map nf) (nf p) /\ ¬ Gen (l.map nf) (dp (nf p)):=by
  rcases iV x2 with⟨a,_⟩|⟨a,_⟩|⟨_,b⟩
  ·rw[a]at h0;cases h0
  ·rw[a]at h0;cases h0
  ·exact b
 have hn':¬ Gen (r.map nf) (nf p) /\ ¬ Gen (r.map nf) (dp (nf p)):=⟨fun q=>hn.1 ((hg _).1 q),fun q=>hn.2 ((hg _).1 q)⟩
 have er:=pg r h'.len;have hx:=jf h.hi hs' hpin hk hn'.1 hn'.2;rw[<- er]at hx;have hne:=Fx hx;have hS:SOk w (dz p l):=by
  refine mT ⟨h.lo,h.hi⟩ (vy h.hi hp h.vl) ?_;rw[mI h.hi h.vl hs.good];exact og h.hi hs hpin hk hn.1 hn.2
 refine⟨hS,?_⟩;cases hA:fG p (fun j=>r.getD j Ps.z0) w with
 | nil=>exact absurd hA hne
 | cons a0 R =>
  have hv:∀ j,j<w->Vl w (r.getD j Ps.z0):=fun j hj=>by
   rw[jI,ew (by rw[h'.len];exact hj),Hw];exact h'.vl _ (ey _)
  have ha:=(jQ hA).1;refine⟨a0,R,rfl,ha,?_⟩;have hf:=Ju h.hi hv hA;rw[er]at hf;have hS2:SOk w (bM w (eT (fun j=>r.getD j Ps.z0) p a0 R)):=by
   refine mT ⟨h.lo,h.hi⟩ (fun q hq=>?_) ?_
   ·obtain⟨j,hj,rfl⟩:=bm.1 hq;exact Bh h.hi hv hp ha j (cJ.1 hj)
   ·rw[hf];exact og h.hi hs' hpin hk hn'.1 hn'.2
  refine Eo hS2 hS ?_;rw[hf,mI h.hi h.vl hs.good];exact KK h.hi hs' hs hpin hk hg hn'.1 hn'.2
end Go.Tz
namespace Go.Tz
open Go Go.AL Go.Proofs
variable{G:Nat->Option (List D)}
structure Gt where
 (k:Int)
 (ws:List Int)
 (u:Bool)
 (b i:Int)
def Gt.l(g:Gt):List D:=[iD g.k,aP g.ws g.u,iD g.b,iD g.i]
abbrev Gt.d(g:Gt):D:=.agg g.l
abbrev bN(l:List Gt)(t:Bool):D:=.sl (l.map Gt.l) t
abbrev ei(w b:Int)(l:List Gt)(t:Bool):D:=.agg [iD w,iD b,bN l t]
theorem wK{l:List Gt}{k:Nat}(h:k<l.length):(l.map Gt.l)[(k:Int).toNat]?=some (l[k]).l:=GJ
theorem XD:aq Tryz.f201=true:=ar
theorem YF(l:List Gt)(t:Bool)(f:FuncId)(first cap:List D)(p:Gt->Bool)(hn:l.length<=1000)(hf:∀ q,q∈l->PC Pr G f (first++[q.d]++cap) (.bool (p q))):PC Pr G 201 [bN l t,.fn f first cap] (iD (dG p l)):=by
 refine ae pok Tryz.func201 XD ?_;conv=>whnf
 skip;refine ax pok (fun i=>⟨[(0,.d (bN l t)),(1,.d (.fn f first cap)),(7,.d (iD (l.map Gt.l).length)),(8,.d (iD i))],[],0⟩) (l.length) (fun i=>∀ q,q∈l.take i->p q=false) aR ?_ ar ?_ ?_
 ·exact nr
 ·intro i A_i h_i I_i N_i;have e_i:aD .i64 (i:Int) 1=((i+1:Nat):Int):=ak eH;have hq:=hf l[i] (ey h_i);conv=>whnf
  repeat' first|((first|refine O6.mk _ G8 ?_|refine aJ ci ?_|rw[bI]|refine cK hq rfl ?_);conv=>whnf)|(intro t ht;cases t<;>conv=>whnf)
  ·exact lQ
  ·exact qjd
  ·refine fin ?_;rw[lD h_i ht I_i]
 ·exact qh9
theorem WQ:aq Tryz.f116=true:=ar
theorem FW(l:List Gt)(t:Bool)(f:FuncId)(first cap:List D)(p:Gt->Bool)(hn:l.length<=1000)(hf:∀ q,q∈l->PC Pr G f (first++[q.d]++cap) (.bool (p q))):PC Pr G 116 [bN l t,.fn f first cap] (.bool (l.any p)):=by
 have hi:=YF l t f first cap p hn hf
 rw[<- vt];generalize dG p l=i at hi⊢;refine ae pok Tryz.func116 WQ ?_;conv=>whnf
 repeat' first|(refine aa hi ?_;conv=>whnf)|(intro t ht;cases t<;>conv=>whnf)
 all_goals rw[ht];exact fin rfl
theorem XJ:aq Tryz.f208=true:=ar
theorem ev208(q:Gt)(f:FuncId)(first cap:List D)(b:Bool)(hf:PC Pr G f (first++[q.d]++cap) (.bool b)):PC Pr G 208 [q.d,.rop [.fn f first cap] 0] (.bool (!b)):=by
 refine ae pok Tryz.func208 XJ ?_;conv=>whnf
 repeat' first|((first|refine O6.mk _ rfl ?_|rw[bI]|refine cK hf rfl ?_);conv=>whnf)|(intro t ht;cases t<;>conv=>whnf)
 all_goals rw[ht];exact fin rfl
theorem Xa:aq Tryz.f131=true:=ar
theorem Nt(l:List Gt)(t:Bool)(f:FuncId)(first cap:List D)(p:Gt->Bool)(hn:l.length<=1000)(hf:∀ q,q∈l->PC Pr G f (first++[q.d]++cap) (.bool (p q))):PC Pr G 131 [bN l t,.fn f first cap] (.bool (l.all p)):=by
 have hi:=FW (G:=G) l t 208 [] [.rop [.fn f first cap] 0] (fun q=>!p q) hn fun q hq=>ev208 q f first cap (p q) (hf q hq)
 refine ae pok Tryz.func131 Xa ?_;conv=>whnf
 have e:l.all p = !l.any (fun q=>!p q):=by
  rw[I3]
 rw[e];repeat' first|(refine eV hi rfl ?_)|(intro t ht;cases t<;>conv=>whnf)
 all_goals rw[ht];exact fin rfl
theorem XY:aq Tryz.f253=true:=ar
theorem ev253(q:Gt)(f:FuncId)(first cap:List D)(b:Bool)(hf:PC Pr G f (first++[q.d]++cap) (.bool b)):PC Pr G 253 [q.d,.rop [.fn f first cap] 0] (.bool (!b)):=by
 refine ae pok Tryz.func253 XY ?_;conv=>whnf
 repeat' first|((first|refine O6.mk _ rfl ?_|rw[bI]|refine cK hf rfl ?_);conv=>whnf)|(intro t ht;cases t<;>conv=>whnf)
 all_goals rw[ht];exact fin rfl
theorem XG:aq Tryz.f206=true:=ar
theorem Nv(l:List Gt)(t:Bool)(f:FuncId)(first cap:List D)(p:Gt->Bool)(hn:l.length<=1000)(hf:∀ q,q∈l->PC Pr G f (first++[q.d]++cap) (.bool (p q))):PC Pr G 206 [bN l t,.fn f first cap] (.bool (l.all p)):=by
 have hi:=FW (G:=G) l t 253 [] [.rop [.fn f first cap] 0] (fun q=>!p q) hn fun q hq=>ev253 q f first cap (p q) (hf q hq)
 refine ae pok Tryz.func206 XG ?_;conv=>whnf
 have e:l.all p = !l.any (fun q=>!p q):=by
  rw[I3]
 rw[e];repeat' first|(refine eV hi rfl ?_)|(intro t ht;cases t<;>conv=>whnf)
 all_goals rw[ht];exact fin rfl
theorem Yb:aq Tryz.f256=true:=ar
theorem YG(l:List Int)(t:Bool)(f:FuncId)(first cap:List D)(p:Int->Bool)(hn:l.length<=1000)(hf:∀ q,q∈l->PC Pr G f (first++[iD q]++cap) (.bool (p q))):PC Pr G 256 [aP l t,.fn f first cap] (iD (dG p l)):=by
 refine ae pok Tryz.func256 Yb ?_;conv=>whnf
 skip;refine ax pok (fun i=>⟨[(0,.d (aP l t)),(1,.d (.fn f first cap)),(7,.d (iD (l.map fun k=>[iD k]).length)),(8,.d (iD i))],[],0⟩) (l.length) (fun i=>∀ q,q∈l.take i->p q=false) aR ?_ ar ?_ ?_
 ·exact nr
 ·intro i A_i h_i I_i N_i;have e_i:aD .i64 (i:Int) 1=((i+1:Nat):Int):=ak eH;have hq:=hf l[i] (ey h_i);conv=>whnf
  repeat' first|((first|refine O6.mk _ qdw ?_|refine aJ ci ?_|rw[bI]|refine cK hq rfl ?_);conv=>whnf)|(intro t ht;cases t<;>conv=>whnf)
  ·exact lQ
  ·exact qjd
  ·refine fin ?_;rw[lD h_i ht I_i]
 ·exact qh9
theorem XK:aq Tryz.f209=true:=ar
theorem NY(l:List Int)(t:Bool)(f:FuncId)(first cap:List D)(p:Int->Bool)(hn:l.length<=1000)(hf:∀ q,q∈l->PC Pr G f (first++[iD q]++cap) (.bool (p q))):PC Pr G 209 [aP l t,.fn f first cap] (.bool (l.any p)):=by
 have hi:=YG l t f first cap p hn hf
 rw[<- vt];generalize dG p l=i at hi⊢;refine ae pok Tryz.func209 XK ?_;conv=>whnf
 repeat' first|(refine aa hi ?_;conv=>whnf)|(intro t ht;cases t<;>conv=>whnf)
 all_goals rw[ht];exact fin rfl
theorem XL:aq Tryz.f210=true:=ar
theorem ev210(q:Int)(f:FuncId)(first cap:List D)(b:Bool)(hf:PC Pr G f (first++[iD q]++cap) (.bool b)):PC Pr G 210 [iD q,.rop [.fn f first cap] 0] (.bool (!b)):=by
 refine ae pok Tryz.func210 XL ?_;conv=>whnf
 repeat' first|((first|rw[bI]|refine cK hf rfl ?_);conv=>whnf)|(intro t ht;cases t<;>conv=>whnf)
 all_goals rw[ht];exact fin rfl
theorem Xd:aq Tryz.f134=true:=ar
theorem Nu(l:List Int)(t:Bool)(f:FuncId)(first cap:List D)(p:Int->Bool)(hn:l.length<=1000)(hf:∀ q,q∈l->PC Pr G f (first++[iD q]++cap) (.bool (p q))):PC Pr G 134 [aP l t,.fn f first cap] (.bool (l.all p)):=by
 have hi:=NY (G:=G) l t 210 [] [.rop [.fn f first cap] 0] (fun q=>!p q) hn fun q hq=>ev210 q f first cap (p q) (hf q hq)
 refine ae pok Tryz.func134 Xd ?_;conv=>whnf
 have e:l.all p = !l.any (fun q=>!p q):=by
  rw[I3]
 rw[e];repeat' first|(refine eV hi rfl ?_)|(intro t ht;cases t<;>conv=>whnf)
 all_goals rw[ht];exact fin rfl
theorem Yf:aq Tryz.f272=true:=ar
theorem ev272(q:Int)(f:FuncId)(first cap:List D)(b:Bool)(hf:PC Pr G f (first++[iD q]++cap) (.bool b)):PC Pr G 272 [iD q,.rop [.fn f first cap] 0] (.bool (!b)):=by
 refine ae pok Tryz.func272 Yf ?_;conv=>whnf
 repeat' first|((first|rw[bI]|refine cK hf rfl ?_);conv=>whnf)|(intro t ht;cases t<;>conv=>whnf)
 all_goals rw[ht];exact fin rfl
theorem Ya:aq Tryz.f255=true:=ar
theorem Nx(l:List Int)(t:Bool)(f:FuncId)(first cap:List D)(p:Int->Bool)(hn:l.length<=1000)(hf:∀ q,q∈l->PC Pr G f (first++[iD q]++cap) (.bool (p q))):PC Pr G 255 [aP l t,.fn f first cap] (.bool (l.all p)):=by
 have hi:=NY (G:=G) l t 272 [] [.rop [.fn f first cap] 0] (fun q=>!p q) hn fun q hq=>ev272 q f first cap (p q) (hf q hq)
 refine ae pok Tryz.func255 Ya ?_;conv=>whnf
 have e:l.all p = !l.any (fun q=>!p q):=by
  rw[I3]
 rw[e];repeat' first|(refine eV hi rfl ?_)|(intro t ht;cases t<;>conv=>whnf)
 all_goals rw[ht];exact fin rfl
end Go.Tz
namespace Go.Tz
open Go Go.AL Go.Proofs
variable{G:Nat->Option (List D)}
theorem F4{a b:Int}(h:a=b):AV.d (.int .i64 a)=AV.d (iD b):=by rw[h]
theorem Kq{a b:Bool}(h:a=b):AV.d (.bool a)=AV.d (.bool b):=by rw[h]
theorem WT:aq Tryz.f119=true:=ar
theorem xe(n lo hi:Int):PC Pr G 119 [iD n,iD lo,iD hi] (.bool (cV n lo hi)):=by
 refine ae pok Tryz.func119 WT ?_;conv=>whnf
 repeat' first|(intro t ht;cases t<;>conv=>whnf)
 all_goals refine fin ?_
 all_goals simp_all[cV]
def uf(k:Int):Int:=if(1<=k/\k<=8)\/k=13\/k=14 then 1 else if 9<=k/\k<=11 then 2 else if k=12 then 3 else 0
theorem Wo{k:Int}(h:(1<=k/\k<=8)\/k=13\/k=14):uf k=1:=by unfold uf;rw[if_pos h]
theorem Wp{k:Int}(h:9<=k/\k<=11):uf k=2:=by unfold uf;rw[if_neg qad,if_pos h]
theorem K4{k:Int}(h:k=12):uf k=3:=by unfold uf;rw[if_neg qad,if_neg qad,if_pos h]
theorem Ro{k:Int}(h:k<1\/k>14):uf k=0:=by unfold uf;rw[if_neg qad,if_neg qad,if_neg qad]
theorem WS:aq Tryz.f118=true:=ar
theorem K2(k:Int):PC Pr G 118 [iD k] (iD (uf k)):=by
 refine ae pok Tryz.func118 WS ?_;conv=>whnf
 repeat' first|(intro t ht;cases t<;>conv=>whnf)
 all_goals refine fin ?_
 all_goals refine F4 ?_
 all_goals simp at *
 all_goals first|exact(Wo qad).symm|exact(Wp qad).symm|exact(K4 qad).symm|exact(Ro qad).symm
theorem Xl:aq Tryz.f159=true:=ar
theorem K3(k:Int):PC Pr G 159 [iD k] (iD (uf k)):=by
 refine ae pok Tryz.func159 Xl ?_;conv=>whnf
 repeat' first|(intro t ht;cases t<;>conv=>whnf)
 all_goals refine fin ?_
 all_goals refine F4 ?_
 all_goals simp at *
 all_goals first|exact(Wo qad).symm|exact(Wp qad).symm|exact(K4 qad).symm|exact(Ro qad).symm
theorem WU:aq Tryz.f120=true:=ar
theorem Ot{ks:List Int}{i:Nat}(h:i<ks.length)(v:Int):v∈ks.take (i+1) ↔ v∈ks.take i\/v=ks[i]:=by
 rw[aC h,ft,mb]
theorem YA(l:List Int)(t:Bool)(v:Int)(hn:l.length<=1000):PC Pr G 120 [aP l t,iD v] (.bool (decide (v∈l))):=by
 refine ae pok Tryz.func120 WU ?_;conv=>whnf
 skip;refine ax pok (fun i=>⟨[(0,.d (aP l t)),(1,.d (iD v)),(5,.d (iD i))],[],0⟩) (l.length) (fun i=>v ∉ l.take i) aR ?_ ar ?_ ?_
 ·exact nr
 ·intro i A_i h_i I_i N_i;have e_i:aD .i64 (i:Int) 1=((i+1:Nat):Int):=ak eH;conv=>whnf
  repeat (refine O6.mk _ rfl ?_;conv=>whnf)
  intro t ht;cases t
  ·exact bu
  conv=>whnf
  repeat' first|((first|refine O6.mk _ qdw ?_|refine aJ ci ?_|fail);conv=>whnf)|(intro t ht;cases t<;>conv=>whnf)
  ·refine N_i _ ?_ ?_
   ·(rw[Ot h_i];rintro(q|q);exact I_i q;simp at ht;exact ht q.symm)
   ·exact yv
  ·refine fin ?_;have hq:v=l[i]:=by simp at ht;exact ht.symm
   rw[decide_eq_true (by rw[hq];exact ey h_i)]
 ·intro A_last I_last;rw[pS]at I_last;conv=>whnf
  repeat (refine O6.mk _ rfl ?_;conv=>whnf)
  intro t ht;cases t;rotate_left
  ·exact bu
  conv=>whnf
  skip;rw[decide_eq_false I_last];exact fin rfl
def pG(ws:List Int)(i:Nat):Bool:=match ws[i]? with
 | some n=>decide (n∈ws.take i)
 | none=>false
def Nk(ws:List Int):Bool:=(List.range ws.length).any (pG ws)
theorem wo{ws:List Int}{i:Nat}(h:i<ws.length):pG ws i=decide (ws[i]∈ws.take i):=by
 unfold pG;rw[ew h]
theorem RJ{ws:List Int}{i:Nat}(h:i<ws.length)(h1:pG ws i=true):Nk ws=true:=yF.2 ⟨i,cJ.2 h,h1⟩
theorem Iw{ws:List Int}(h:∀ j,j<ws.length->pG ws j=false):Nk ws=false:=BX.2 fun j hj=>by rw[h j (cJ.1 hj)];simp
def DK(w:Int)(ws:List Int):Bool:=ws.any fun n=>decide (n<0\/n>=w)
def uG(g:Gt)(bits:Int):Int:=if g.i<0\/g.i>bits\/(g.k=13/\(g.b<0\/g.b>=bits)) then 1 else if((g.k=13\/g.k=14)/\g.i≠0)\/(g.k≠13/\g.b≠0) then 7 else 0
def bH(g:Gt)(w bits:Int):Int:=if uf g.k=0 then 3 else if(g.ws.length:Int)≠uf g.k then 2 else if DK w g.ws=true then 1 else if Nk g.ws=true then 5 else uG g bits
theorem XZ:aq Tryz.f254=true:=ar
theorem UC(n w b:Int)(gd:D):PC Pr G 254 [iD n,.rop [iD w,iD b,gd,.nilf] 0] (.bool (!decide (n<0\/n>=w))):=by
 refine ae pok Tryz.func254 XZ ?_;conv=>whnf
 repeat' first|(intro t ht;cases t<;>conv=>whnf)
 all_goals refine fin ?_
 all_goals refine Kq ?_
 all_goals simp at *
 all_goals omega
theorem UM{g:Gt}{bits:Int}(h:g.i<0\/g.i>bits\/(g.k=13/\(g.b<0\/g.b>=bits))):uG g bits=1:=by unfold uG;rw[if_pos h]
theorem UN{g:Gt}{bits:Int}(h:¬(g.i<0\/g.i>bits\/(g.k=13/\(g.b<0\/g.b>=bits))))(h2:((g.k=13\/g.k=14)/\g.i≠0)\/(g.k≠13/\g.b≠0)):uG g bits=7:=by unfold uG;rw[if_neg h,if_pos h2]
theorem Mi{g:Gt}{bits:Int}(h:¬(g.i<0\/g.i>bits\/(g.k=13/\(g.b<0\/g.b>=bits))))(h2:¬(((g.k=13\/g.k=14)/\g.i≠0)\/(g.k≠13/\g.b≠0))):uG g bits=0:=by unfold uG;rw[if_neg h,if_neg h2]
theorem UK{k:Int}(h:uf k≠0):k<=14:=by
 refine Fp fun hn=>h (Ro qad)
theorem OL{w:Int}{ws:List Int}(h:∀ n,n∈ws->¬(n<0\/n>=w)):DK w ws=false:=BX.2 fun n hn=>by simpa using h n hn
theorem Tv{w:Int}{ws:List Int}{i:Nat}(hi:i<ws.length)(h:ws[i]<0\/ws[i]>=w):DK w ws=true:=yF.2 ⟨ws[i],ey hi,by simpa using h⟩
theorem M3:aq Tryz.f41=true:=ar
theorem K9(g:Gt)(w bits:Int)(hw:1<=w/\w<=12)(hb:0<=bits/\bits<=8)(hn:g.ws.length<=1000):PC Pr G 41 [g.d,iD w,iD bits] (iD (bH g w bits)):=by
 obtain⟨k,ws,u,b,f⟩:=g;have hn:ws.length<=1000:=hn;have h118:=K2 (G:=G) k;have s1:cO .i64 w 1=w-1:=AH qad qad;have s2:cO .i64 bits 1=bits-1:=AH qad qad;refine ae pok Tryz.func41 M3 ?_;conv=>whnf
 repeat' first|((first|refine O6.mk _ rfl ?_|refine aa h118 ?_|refine ab h118 ?_|refine HpP.force ?_);conv=>whnf)|(intro t ht;cases t<;>conv=>whnf)
 ·rename_i hA;have hA:uf k≠0:=A9;have hL:(ws.length:Int)=uf k:=nb;refine ax pok (fun i=>⟨[(1,.d (iD w)),(2,.d (iD bits)),(3,.ptr 0 4 0 0),(7,.d (iD i))],[(0,some (.arr 4 [[.d (iD k),.d (aP ws u),.d (iD b),.d (iD f)]]))],1⟩) (ws.length) (fun i=>∀ n,n∈ws.take i->¬(n<0\/n>=w)) aR ?_ ar ?_ ?_
  ·exact nr
  ·intro i A_i h_i I_i N_i;have e_i:aD .i64 (i:Int) 1=((i+1:Nat):Int):=ak eH;have ho:=xe (G:=G) ws[i] 0 (cO .i64 w 1);have hoe:cV ws[i] 0 (cO .i64 w 1)=decide (ws[i]<0\/ws[i]>=w):=by
    rw[s1,tV];unfold cV;simp;omega
   rw[hoe]at ho;conv=>whnf
   repeat (refine O6.mk _ rfl ?_;conv=>whnf)
   intro t ht;cases t
   ·exact bu
   conv=>whnf
   repeat' first|((first|refine O6.mk _ qdw ?_|refine aJ ci ?_|fail);conv=>whnf)|(refine cc ho ?_)|(intro t ht;cases t<;>conv=>whnf)
   ·refine N_i _ ?_ ?_
    ·(intro n hn;rw[aC h_i,ft,mb]at hn;rcases hn with q|q;exact I_i n q;rw[q];simpa using ht)
    ·exact yv
   ·refine fin ?_;have:bH ⟨k,ws,u,b,f⟩ w bits=1:=by unfold bH;rw[if_neg hA,if_neg H3,if_pos (Tv h_i nb)]
    rw[this]
  ·intro A_last I_last;rw[pS]at I_last;have hO:=OL I_last;conv=>whnf
   repeat (refine O6.mk _ rfl ?_;conv=>whnf)
   intro t ht;cases t;rotate_left
   ·exact bu
   conv=>whnf
   skip;refine ax pok (fun i=>⟨[(2,.d (iD bits)),(3,.ptr 0 4 0 0),(8,.d (iD i))],[(0,some (.arr 4 [[.d (iD k),.d (aP ws u),.d (iD b),.d (iD f)]]))],1⟩) (ws.length) (fun i=>∀ j,j<i->pG ws j=false) qad ?_ ar ?_ ?_
   ·exact nr
   ·intro i A_i h_i I_i N_i;have e_i:aD .i64 (i:Int) 1=((i+1:Nat):Int):=ak eH;have hm:∀ t,PC Pr G 120 [.sl (List.take ((i:Int).toNat-0) (List.drop 0 (ws.map fun k=>[iD k]))) t,iD ws[i]] (.bool (pG ws i)):=by
     intro t;rw[Wb,LQ,gx,<- E0,wo h_i];exact YA (G:=G) (ws.take i) t ws[i] fF
    conv=>whnf
    repeat (refine O6.mk _ rfl ?_;conv=>whnf)
    intro t ht;cases t
    ·exact bu
    conv=>whnf
    repeat' first|((first|refine O6.mk _ qdw ?_|refine aJ qdv ?_|fail);conv=>whnf)|(refine od ((hm _)) ?_)|(refine HpP.force ?_;conv=>whnf)|(intro t ht;cases t<;>conv=>whnf)
    ·refine N_i _ ?_ ?_
     ·exact qev
     ·exact yv
    ·refine fin ?_;have:bH ⟨k,ws,u,b,f⟩ w bits=5:=qfh;rw[this]
   ·intro A_last I_last;have hD:=Iw I_last;have hg:bH ⟨k,ws,u,b,f⟩ w bits=uG ⟨k,ws,u,b,f⟩ bits:=qfg;rw[hg];have ho1:=xe (G:=G) f 0 bits;have ho2:=xe (G:=G) b 0 (cO .i64 bits 1);have e1:cV f 0 bits=decide (f<0\/f>bits):=qfn;have e2:cV b 0 (cO .i64 bits 1)=decide (b<0\/b>=bits):=by rw[s2,tV];unfold cV;simp;omega
    rw[e1]at ho1;rw[e2]at ho2;have hk:=UK hA;conv=>whnf
    repeat (refine O6.mk _ rfl ?_;conv=>whnf)
    intro t ht;cases t;rotate_left
    ·exact bu
    conv=>whnf
    repeat' first|(refine O6.mk _ rfl ?_;conv=>whnf)|(refine cc ho1 ?_)|(refine cc ho2 ?_)|(intro t ht;cases t<;>conv=>whnf)
    all_goals refine fin ?_
    all_goals refine F4 ?_
    all_goals simp at *
    all_goals first|exact(UM LF).symm|exact(UN LF LF).symm|exact(Mi LF LF).symm
 ·exact qiz
 ·exact qjr
end Go.Tz
namespace Go.Tz
open Go Go.AL Go.Proofs
variable{G:Nat->Option (List D)}
theorem Rf(w:Int)(ws:List Int):(ws.all fun n=>!decide (n<0\/n>=w)) = !DK w ws:=by
 unfold DK;rw[List.not_any_eq_all_not]
theorem XI:aq Tryz.f207=true:=ar
theorem Sf(g:Gt)(w bits:Int)(gd:D)(hn:g.ws.length<=1000):PC Pr G 207 [.agg [iD w,iD bits,gd,.nilf],g.d] (iD (bH g w bits)):=by
 obtain⟨k,ws,u,b,f⟩:=g;have hn:ws.length<=1000:=hn;have h159:=K3 (G:=G) k;have hev:=Nx (G:=G) ws u 254 [] [.rop [iD w,iD bits,gd,.nilf] 0] (fun n=>!decide (n<0\/n>=w)) hn fun n _=>UC n w bits gd;rw[Rf]at hev;refine ae pok Tryz.func207 XI ?_;conv=>whnf
 repeat' first|((first|refine O6.mk _ rfl ?_|refine aa h159 ?_|refine ab h159 ?_);conv=>whnf)|(refine eV hev rfl ?_)|(refine HpP.force ?_;conv=>whnf)|(intro t ht;cases t<;>conv=>whnf)
 ·refine fin ?_;rename_i hA hL;have hA:uf k≠0:=A9;have hL:(ws.length:Int)=uf k:=H3;have:bH ⟨k,ws,u,b,f⟩ w bits=1:=by unfold bH;rw[if_neg hA,if_neg H3,if_pos nb]
  rw[this]
 ·rename_i hA hL;have hA:uf k≠0:=A9;have hL:(ws.length:Int)=uf k:=H3;have hO:DK w ws=false:=nb;refine ax pok (fun i=>⟨[(2,.ptr 0 4 0 0),(3,.ptr 1 4 0 0),(30,.d (aP ws u)),(31,.d (iD (ws.map fun k=>[iD k]).length)),(32,.d (iD i))],[(0,some (.arr 4 [[.d (iD w),.d (iD bits),.d gd,.d .nilf]])),(1,some (.arr 4 [[.d (iD k),.d (aP ws u),.d (iD b),.d (iD f)]]))],2⟩) (ws.length) (fun i=>∀ j,j<i->pG ws j=false) qad ?_ ar ?_ ?_
  ·exact nr
  ·intro i A_i h_i I_i N_i;have e_i:aD .i64 (i:Int) 1=((i+1:Nat):Int):=ak eH;have hm:∀ t,PC Pr G 25 [.sl (List.take ((i:Int).toNat-0) (List.drop 0 (ws.map fun k=>[iD k]))) t,iD ws[i]] (.bool (pG ws i)):=by
    intro t;rw[Wb,LQ,gx,<- E0,wo h_i];exact Vn (G:=G) (ws.take i) t ws[i] fF
   conv=>whnf
   repeat (refine O6.mk _ rfl ?_;conv=>whnf)
   intro t ht;cases t
   ·exact bu
   conv=>whnf
   repeat' first|((first|refine O6.mk _ qdw ?_|refine aJ qdv ?_|fail);conv=>whnf)|(refine cc ((hm _)) ?_)|(intro t ht;cases t<;>conv=>whnf)
   ·refine N_i _ ?_ ?_
    ·exact qev
    ·exact yv
   ·refine fin ?_;have:bH ⟨k,ws,u,b,f⟩ w bits=5:=qfh;rw[this]
  ·intro A_last I_last;have hD:=Iw I_last;have hg:bH ⟨k,ws,u,b,f⟩ w bits=uG ⟨k,ws,u,b,f⟩ bits:=qfg;rw[hg];have hk:=UK hA;conv=>whnf
   repeat (refine O6.mk _ rfl ?_;conv=>whnf)
   intro t ht;cases t;rotate_left
   ·exact bu
   conv=>whnf
   repeat' first|(refine O6.mk _ rfl ?_;conv=>whnf)|(intro t ht;cases t<;>conv=>whnf)
   all_goals refine fin ?_
   all_goals refine F4 ?_
   all_goals simp at *
   all_goals first|exact(UM LF).symm|exact(UN LF LF).symm|exact(Mi LF LF).symm
 ·exact qiz
 ·exact qjr
theorem NB{α:Type}{l:List α}{p:α->Bool}{i:Nat}(h:i<l.length)(hz:∀ q,q∈l.take i->p q=false)(hp:p l[i]=true):l.find? p=some l[i]:=by
 rw[List.find?_eq_some_iff_getElem];refine⟨hp,i,h,rfl,fun j hj=>?_⟩;rw[hz _ (QW.2 ⟨j,by omega,rfl⟩)];rfl
def dm(w bits:Int)(l:List Gt):Int:=if w<1\/w>12\/bits<0\/bits>8 then 3 else if l.length>120 then 2 else match l.find? (fun g=>decide (bH g w bits≠0)) with
 | some g=>bH g w bits
 | none=>0
theorem Mr{w bits:Int}{l:List Gt}(h:w<1\/w>12\/bits<0\/bits>8):dm w bits l=3:=by unfold dm;rw[if_pos h]
theorem Mq{w bits:Int}{l:List Gt}(h:¬(w<1\/w>12\/bits<0\/bits>8))(h2:l.length>120):dm w bits l=2:=by unfold dm;rw[if_neg h,if_pos h2]
theorem zV{w bits:Int}{l:List Gt}(h:¬(w<1\/w>12\/bits<0\/bits>8))(h2:¬ l.length>120){i:Nat}(hi:i<l.length)(h3:∀ g,g∈l.take i->bH g w bits=0)(h4:bH l[i] w bits≠0):dm w bits l=bH l[i] w bits:=by
 unfold dm;rw[if_neg h,if_neg h2,NB (p:=fun g=>decide (bH g w bits≠0)) hi (fun q hq=>by simp[h3 q hq]) (by simpa using h4)]
theorem UO{w bits:Int}{l:List Gt}(h:¬(w<1\/w>12\/bits<0\/bits>8))(h2:¬ l.length>120)(h3:∀ g,g∈l->bH g w bits=0):dm w bits l=0:=by
 unfold dm;rw[if_neg h,if_neg h2,QG.2 (by intro q hq;simp[h3 q hq])]
theorem cj{w bits:Int}{l:List Gt}(h:dm w bits l=0):(1<=w/\w<=12)/\(0<=bits/\bits<=8)/\l.length<=120 /\ ∀ g,g∈l->bH g w bits=0:=by
 by_cases h1:w<1\/w>12\/bits<0\/bits>8
 ·rw[Mr h1]at h;cases h
 ·by_cases h2:l.length>120
  ·rw[Mq h1 h2]at h;cases h
  ·refine⟨by omega,by omega,by omega,fun g hg=>?_⟩;unfold dm at h;rw[if_neg h1,if_neg h2]at h;cases e:l.find? (fun g=>decide (bH g w bits≠0)) with
   | none =>
    have:=QG.1 e g hg;simpa using this
   | some x =>
    have h5:=List.find?_some e;rw[e]at h;simp only[ne_eq,decide_not,Bool.not_eq_eq_eq_not,Bool.not_true,decide_eq_false_iff_not]at h5;exact absurd h h5
theorem WY:aq Tryz.f129=true:=ar
theorem nP(w bits:Int)(l:List Gt)(t:Bool)(hn:l.length<=1000)(hws:∀ g,g∈l->g.ws.length<=1000):PC Pr G 129 [ei w bits l t] (iD (dm w bits l)):=by
 refine ae pok Tryz.func129 WY ?_;conv=>whnf
 repeat' first|(refine O6.mk _ rfl ?_;conv=>whnf)|(intro t ht;cases t<;>conv=>whnf)
 ·have hR:¬(w<1\/w>12\/bits<0\/bits>8):=by simp at *;omega
  have hL:¬ l.length>120:=G7;refine ax pok (fun i=>⟨[(3,.d (.fn 207 [.agg [iD w,iD bits,bN l t,.nilf]] [])),(35,.d (bN l t)),(36,.d (iD (l.map Gt.l).length)),(37,.d (iD i))],[],0⟩) (l.length) (fun i=>∀ g,g∈l.take i->bH g w bits=0) aR ?_ ar ?_ ?_
  ·exact nr
  ·intro i A_i h_i I_i N_i;have e_i:aD .i64 (i:Int) 1=((i+1:Nat):Int):=ak eH;have hc:=Sf (G:=G) l[i] w bits (bN l t) (hws _ (ey h_i));have hst:bH l[i] w bits=0->∀ g,g∈l.take (i+1)->bH g w bits=0:=fun h g hg=>by
    rw[aC h_i,ft,mb]at hg;rcases hg with q|q
    ·exact I_i g q
    ·rw[q];exact h
   have hat:=zV hR hL h_i I_i;generalize bH l[i] w bits=e at hc hst hat;conv=>whnf
   repeat (refine O6.mk _ rfl ?_;conv=>whnf)
   intro t ht;cases t
   ·exact bu
   conv=>whnf
   repeat' first|((first|refine O6.mk _ G8 ?_|refine O8.mk _ aK ?_|refine aJ ci ?_|refine aa hc ?_|refine HpP.force ?_);conv=>whnf)|(intro t ht;cases t<;>conv=>whnf)
   ·refine N_i _ ?_ ?_
    ·exact hst nb
    ·exact yv
   ·refine fin ?_;rw[hat nb]
  ·exact qin
 all_goals refine fin ?_
 all_goals refine F4 ?_
 all_goals simp at *
 all_goals first|exact(Mr qad).symm|exact(Mq qad qad).symm
theorem M9:aq Tryz.f52=true:=ar
theorem zW(w bits:Int)(l:List Gt)(t:Bool)(hn:l.length<=1000)(hws:∀ g,g∈l->g.ws.length<=1000):PC Pr G 52 [ei w bits l t] (iD (dm w bits l)):=by
 have ho1:=xe (G:=G) w 1 12;have ho2:=xe (G:=G) bits 0 8;have e1:cV w 1 12=decide (w<1\/w>12):=qfn;have e2:cV bits 0 8=decide (bits<0\/bits>8):=qfn;rw[e1]at ho1;rw[e2]at ho2;refine ae pok Tryz.func52 M9 ?_;conv=>whnf
 repeat' first|(refine O6.mk _ rfl ?_;conv=>whnf)|(refine cc ho1 ?_)|(refine cc ho2 ?_)|(intro t ht;cases t<;>conv=>whnf)
 ·have hR:¬(w<1\/w>12\/bits<0\/bits>8):=by simp at *;omega
  have hL:¬ l.length>120:=G7;refine ax pok (fun i=>⟨[(1,.ptr 0 3 0 0),(3,.d (iD i))],[(0,some (.arr 3 [[.d (iD w),.d (iD bits),.d (bN l t)]]))],1⟩) (l.length) (fun i=>∀ g,g∈l.take i->bH g w bits=0) aR ?_ ar ?_ ?_
  ·exact nr
  ·intro i A_i h_i I_i N_i;have e_i:aD .i64 (i:Int) 1=((i+1:Nat):Int):=ak eH;have hc:=K9 (G:=G) l[i] w bits qad qad (hws _ (ey h_i));have hst:bH l[i] w bits=0->∀ g,g∈l.take (i+1)->bH g w bits=0:=fun h g hg=>by
    rw[aC h_i,ft,mb]at hg;rcases hg with q|q
    ·exact I_i g q
    ·rw[q];exact h
   have hat:=zV hR hL h_i I_i;generalize bH l[i] w bits=e at hc hst hat;conv=>whnf
   repeat (refine O6.mk _ rfl ?_;conv=>whnf)
   intro t ht;cases t
   ·exact bu
   conv=>whnf
   repeat' first|((first|refine O6.mk _ G8 ?_|refine aJ ci ?_|refine ab hc ?_|refine HpP.force ?_);conv=>whnf)|(intro t ht;cases t<;>conv=>whnf)
   ·refine N_i _ ?_ ?_
    ·exact hst nb
    ·exact yv
   ·refine fin ?_;rw[hat nb]
  ·exact qin
 all_goals refine fin ?_
 all_goals refine F4 ?_
 all_goals simp at *
 all_goals first|exact(Mr qad).symm|exact(Mq qad qad).symm
end Go.Tz
namespace Go.Tz
open Go Go.AL Go.Proofs Go.Ma
variable{G:Nat->Option (List D)}
theorem WR:aq Tryz.f117=true:=ar
theorem NU(g:Gt):PC Pr G 117 [g.d] (.bool (decide (g.ws.length>6))):=by
 refine ae pok Tryz.func117 WR ?_;conv=>whnf
 repeat' first|(refine O6.mk _ rfl ?_;conv=>whnf)|(intro t ht;cases t<;>conv=>whnf)
 all_goals
  refine fin ?_;refine Kq ?_;simp at ht;simp;omega
def jm(l:List Gt):Bool:=decide (l.length>130)||l.any fun g=>decide (g.ws.length>6)
theorem UW:aq Tryz.f39=true:=ar
theorem vr(w b:Int)(l:List Gt)(t:Bool):PC Pr G 39 [ei w b l t] (.bool (jm l)):=by
 by_cases h:l.length>130
 ·refine ae pok Tryz.func39 UW ?_;conv=>whnf
  conv=>whnf
  repeat (refine O6.mk _ rfl ?_;conv=>whnf)
  intro t ht;cases t
  ·exact bu
  conv=>whnf
  skip;refine fin ?_;refine Kq ?_;unfold jm;rw[decide_eq_true h];rfl
 ·have hc:=FW (G:=G) l t 117 [] [] (fun g=>decide (g.ws.length>6)) qad fun g _=>NU g;have e:jm l=l.any fun g=>decide (g.ws.length>6):=by unfold jm;rw[decide_eq_false h,Bool.false_or]
  rw[e];generalize (l.any fun g=>decide (g.ws.length>6))=r at hc⊢;refine ae pok Tryz.func39 UW ?_;conv=>whnf
  repeat' first|(refine O6.mk _ rfl ?_;conv=>whnf)|(refine cc hc ?_)|(intro t ht;cases t<;>conv=>whnf)
  all_goals first|exact fin (Kq (by simpa using ht.symm))|(exfalso;simp at ht;omega)
def Gt.own(g:Gt):Gt:={ g with u:=false }
theorem Mb{H:AHeap}{v1 v2 v3:AV}{d1 d2 d3:D}(h1:AsD H v1 d1)(h2:AsD H v2 d2)(h3:AsD H v3 d3):AsD H (.agg [v1,v2,v3]) (.agg [d1,d2,d3]):=by
 refine .agg _ _ rfl fun j v d hv hd=>?_
 match j,hv,hd with
 | 0,hv,hd=>simp at hv hd;subst hv hd;exact h1
 | 1,hv,hd=>simp at hv hd;subst hv hd;exact h2
 | 2,hv,hd=>simp at hv hd;subst hv hd;exact h3
 | j+3,hv,_=>simp at hv
theorem UX:aq Tryz.f40=true:=ar
theorem Vv(w b:Int)(l:List Gt)(t:Bool)(hn:l.length<=1000)(hws:∀ g,g∈l->g.ws.length<=1000):PC Pr G 40 [ei w b l t] (ei w b (l.map Gt.own) false):=by
 refine de (bg Tryz.func40 UX) (bi pok Tryz.func40 UX ?_);conv=>whnf
 repeat' first|((first|refine O6.mk _ rfl ?_|refine O8.mk _ aK ?_|refine HpP.force ?_);conv=>whnf)
 refine ax pok (fun i=>⟨[(2,.ptr 1 3 0 0),(3,.ptr 2 3 0 0),(12,.d (bN l t)),(13,.d (iD (l.map Gt.l).length)),(14,.d (iD i))],[(1,some (.arr 3 [[.d (iD 0),.d (iD 0),.d (.sl [] true)]])),(2,some (.arr 3 [[.d (iD w),.d (iD b),.sl 3 4 0 i i false]])),(3,some (ap 4 (((l.take i).map Gt.own).map Gt.l)))],4⟩) (l.length) (fun _=>True) (trivial) ?_ ar ?_ ?_
 ·refine Sub.trans (KX (nm:=2) (S:=4) (dW _) rfl) ?_;refine ah cW ?_ ?_ trivial
  ·exact gn
  ·exact lZ
 ·intro i A_i h_i I_i N_i;have e_i:aD .i64 (i:Int) 1=((i+1:Nat):Int):=ak eH;have hcl:=zY (G:=G) l[i].ws l[i].u (by have:=hws _ (ey h_i);omega);have hsn:((l.take (i+1)).map Gt.own).map Gt.l=((l.take i).map Gt.own).map Gt.l++[[iD l[i].k,aP l[i].ws false,iD l[i].b,iD l[i].i]]:=by
   rw[aC h_i,nh,nh];rfl
  have hml:(((l.take i).map Gt.own).map Gt.l).length=i:=qdm;generalize ((l.take i).map Gt.own).map Gt.l=M at hsn hml;conv=>whnf
  repeat (refine O6.mk _ rfl ?_;conv=>whnf)
  intro t ht;cases t
  ·exact bu
  conv=>whnf
  repeat' first|((first|refine O6.mk _ G8 ?_|refine O8.mk _ aK ?_|(refine aJ (by first|exact cF _|exact⟨by rw[ef];exact hml,by decide,by show(2*(i+1)+192)*48<=281474976710656;omega⟩|assumption|exact⟨by kernel_rfl,rfl⟩|decide|omega) ?_)|refine ab hcl ?_|rw[hJ]|refine HpP.force ?_);conv=>whnf)
  refine N_i _ ?_ ?_
  ·exact cY
  ·first|refine aO [(3,6)] ?_ ?_ ?_ trivial|refine aI [(3,6)] rfl rfl ?_ ?_ ?_ trivial
   ·exact Ch
   ·exact ZY
   ·exact iI
 ·intro A_last I_last;have hT:l.take l.length=l:=pT (cF _);rw[hT];conv=>whnf
  repeat (refine O6.mk _ rfl ?_;conv=>whnf)
  intro t ht;cases t;rotate_left
  ·exact bu
  conv=>whnf
  repeat' first|((first|refine O6.mk _ rfl ?_|refine O8.mk _ aK ?_|refine HpP.force ?_);conv=>whnf)
  refine fin (Mb (.d _) (.d _) (fg rfl aR))
theorem M8:aq Tryz.f51=true:=ar
theorem PN(g:Gt)(u:Bool)(hn:g.ws.length<=1000):PC Pr G 51 [({ g with u:=u }:Gt).d,g.d] (.bool true):=by
 obtain⟨k,ws,u',b,f⟩:=g;have he:=jB (G:=G) ws u u' (by have:ws.length<=1000:=hn;omega);refine ae pok Tryz.func51 M8 ?_;conv=>whnf
 repeat' first|((first|refine O6.mk _ rfl ?_|refine aa he ?_);conv=>whnf)|(intro t ht;cases t<;>conv=>whnf)
 all_goals first|exact fin rfl|(exfalso;simp at ht;done)
theorem WX:aq Tryz.f127=true:=ar
theorem Yo(l:List Gt)(t u:Bool)(hn:l.length<=1000)(hws:∀ g,g∈l->g.ws.length<=1000):PC Pr G 127 [bN (l.map Gt.own) u,bN l t,.fn 51 [] []] (.bool true):=by
 refine ae pok Tryz.func127 WX ?_;conv=>whnf
 repeat' first|(intro t ht;cases t<;>conv=>whnf)
 ·refine ax pok (fun i=>⟨[(1,.d (bN l t)),(2,.d (.fn 51 [] [])),(15,.d (bN (l.map Gt.own) u)),(16,.d (iD ((l.map Gt.own).map Gt.l).length)),(17,.d (iD i))],[],0⟩) (l.length) (fun _=>True) (trivial) ?_ ar ?_ ?_
  ·exact nr
  ·intro i A_i h_i I_i N_i;have e_i:aD .i64 (i:Int) 1=((i+1:Nat):Int):=ak eH;have hs:=PN (G:=G) l[i] false (hws _ (ey h_i));have hg:((l.map Gt.own).map Gt.l)[(i:Int).toNat]?=some ({ l[i] with u:=false }:Gt).l:=by simp[h_i,Gt.own]
   conv=>whnf
   repeat (refine O6.mk _ rfl ?_;conv=>whnf)
   intro t ht;cases t
   ·exact bu
   conv=>whnf
   repeat' first|((first|refine O6.mk _ (by first|rfl|exact wK h_i|exact hg) ?_|refine O8.mk _ aK ?_|refine aJ ci ?_|refine aa hs ?_|refine HpP.force ?_);conv=>whnf)
   all_goals first|(exfalso;simp at ht;done)|skip
   refine N_i _ ?_ ?_
   ·exact cY
   ·exact yv
  ·exact qiw
 ·exact Fl
theorem M7:aq Tryz.f50=true:=ar
theorem PM(w b:Int)(l:List Gt)(t u:Bool)(hn:l.length<=1000)(hws:∀ g,g∈l->g.ws.length<=1000):PC Pr G 50 [ei w b (l.map Gt.own) u,ei w b l t] (.bool true):=by
 have he:=Yo (G:=G) l t u hn hws;refine ae pok Tryz.func50 M7 ?_;conv=>whnf
 repeat' first|((first|refine O6.mk _ rfl ?_|refine aa he ?_);conv=>whnf)|(intro t ht;cases t<;>conv=>whnf)
 all_goals first|exact fin rfl|(exfalso;simp at ht;done)
end Go.Tz
