import Derived.Test.YtehjjpbpdfnnfaaGreatDoorM00
import Derived.Test.YtehjjpbpdfnnfaaGreatDoorM07
namespace Go.Tz
open Go Go.AL Go.Proofs Go.Ma
variable{G:Nat->Option (List D)}
def DB(q:Ps):Ps:=⟨q.w,q.x,q.z,(aD .i64 q.p 2).tmod 4⟩
theorem Yc:aq Tryz.f258=true:=ar
theorem wY(q:Ps):PC Pr G 258 [q.d] (DB q).d:=by
 refine ae pok Tryz.func258 Yc ?_;conv=>whnf
 repeat' first|((first|refine O6.mk _ rfl ?_|refine O8.mk _ aK ?_|refine aJ ci ?_|refine HpP.force ?_);conv=>whnf)
 exact fin rfl
theorem MM:aq Tryz.f214=true:=ar
def YH(w a k:Nat):Ps×Ps:=match k with
 | 1=>(db w a 1,DB (db w a 3))
 | 2=>(DB (db w a 1),DB (db w a 3))
 | 3=>(DB (db w a 1),db w a 3)
 | 4=>(db w a 3,db w a 1)
 | 5=>(db w a 2,db w a 3)
 | _=>(DB (db w a 2),db w a 3)
def Oc(w n c k:Nat)(z:Bool):Ps×Ps:=match k with
 | 9=>match z with
  | true=>(gw (db w n 1) (db w c 1),db w n 3)
  | false=>(db w n 1,gw (db w c 3) (db w n 3))
 | 10=>(gw (db w n 1) (db w c 3),db w n 3)
 | _=>(db w c 1,db w c 3)
theorem Vr(w n l:Int):(db w n l).w=w:=rfl
theorem aQ{α:Type}[BEq α][ReflBEq α]{a:α}{k:Bool->Prop}(h:k true):∀ t,(a==a)=t->k t:=fun t e=>by
 have e2:true=t:=(beq_self_eq_true a).symm.trans e;exact e2 ▸ h
theorem bF{a b:Int}{k:Bool->Prop}(hne:decide (a=b)=false)(h:k false):∀ t,(a==b)=t->k t:=fun t e=>by
 have hne:a≠b:=of_decide_eq_false hne;have e2:false=t:=(beq_false_of_ne hne).symm.trans e;exact e2 ▸ h
theorem Sn{w a k:Nat}{K:Int}(hK:K=k)(h1:1<=k)(h2:k<=6)(u:Bool)(b i:Int):PC Pr G 214 [iD w,(Gt.mk K [(a:Int)] u b i).d,iD 0] (.tup [(YH w a k).1.d,(YH w a k).2.d]):=by
 have g1:=lc (G:=G) w a 1 (mf _);have g2:=lc (G:=G) w a 2 (mf _);have g3:=lc (G:=G) w a 3 (mf _);have hk:k=1\/k=2\/k=3\/k=4\/k=5\/k=6:=qad;rcases hk with rfl|rfl|rfl|rfl|rfl|rfl
 all_goals first|obtain rfl:K=1:=hK|obtain rfl:K=2:=hK|obtain rfl:K=3:=hK|obtain rfl:K=4:=hK|obtain rfl:K=5:=hK|obtain rfl:K=6:=hK
 all_goals
  simp only[YH];generalize db w a 1=q1 at g1⊢;generalize db w a 2=q2 at g2⊢;generalize db w a 3=q3 at g3⊢;have m1:=wY (G:=G) q1;have m2:=wY (G:=G) q2;have m3:=wY (G:=G) q3;refine ae pok Tryz.func214 MM ?_;conv=>whnf
  repeat' first|((first|refine O6.mk _ rfl ?_|refine O8.mk _ aK ?_|refine aJ qeh ?_|refine aQ ?_|refine bF rfl ?_|refine aa g1 ?_|refine aa g2 ?_|refine aa g3 ?_|refine ab m1 ?_|refine ab m2 ?_|refine ab m3 ?_|refine HpP.force ?_);conv=>whnf)
  all_goals first|(exfalso;simp at ht;done)|exact fin rfl
theorem IW{w n c k:Nat}(hw:1<=w/\w<=12){K:Int}(hK:K=k)(h1:9<=k)(h2:k<=11)(z:Bool)(u:Bool)(b i:Int):PC Pr G 214 [iD w,(Gt.mk K [if z then(n:Int) else c,if z then(c:Int) else n] u b i).d,iD (if z then 0 else 1)] (.tup [(Oc w n c k z).1.d,(Oc w n c k z).2.d]):=by
 have g1:=lc (G:=G) w n 1 (mf _);have g2:=lc (G:=G) w n 2 (mf _);have g3:=lc (G:=G) w n 3 (mf _);have c1:=lc (G:=G) w c 1 (mf _);have c3:=lc (G:=G) w c 3 (mf _);have w1:=Vr w n 1;have w2:=Vr w c 3;have hk:k=9\/k=10\/k=11:=qad;rcases hk with rfl|rfl|rfl
 all_goals first|obtain rfl:K=9:=hK|obtain rfl:K=10:=hK|obtain rfl:K=11:=hK
 all_goals cases z
 all_goals
  simp only[Oc];generalize db w n 1=q1 at g1 w1⊢;generalize db w n 2=q2 at g2⊢;generalize db w n 3=q3 at g3⊢;generalize db w c 1=r1 at c1⊢;generalize db w c 3=r3 at c3 w2⊢;refine ae pok Tryz.func214 MM ?_;conv=>whnf
  repeat' first|((first|refine O6.mk _ rfl ?_|refine O8.mk _ aK ?_|refine aJ qeh ?_|refine aQ ?_|refine bF rfl ?_|refine aa g1 ?_|refine aa g2 ?_|refine aa g3 ?_|refine aa c1 ?_|refine ab c1 ?_|refine aa c3 ?_|refine ab c3 ?_|refine ab (tL q1 [r1] true ⟨by omega,by omega⟩ aR) ?_|refine ab (tL q1 [r3] true ⟨by omega,by omega⟩ aR) ?_|refine ab (tL r3 [q3] true ⟨by omega,by omega⟩ aR) ?_|refine HpP.force ?_);conv=>whnf)
  all_goals first|(exfalso;simp at ht;done)|exact fin rfl|skip
end Go.Tz
namespace Go.Tz
open Go Go.AL Go.Proofs Go.Ma
variable{G:Nat->Option (List D)}
def zJ(c:Int)(q:Ps):Ps:=⟨q.w,q.x,q.z,(aD .i64 q.p c).tmod 4⟩
theorem uX{w:Nat}{q:Ps}(c:Nat)(hc:c<=100)(h:Vl w q):nf (zJ c q)=Ak c (nf q)/\Vl w (zJ c q):=by
 obtain⟨X,Z,P,rfl,h1,h2,h3⟩:=h;have e:zJ c (mk w X Z P)=mk w X Z ((P+c)%4):=by
  unfold zJ mk;dsimp only;rw[ak qad];rfl
 rw[e];refine⟨?_,⟨X,Z,_,rfl,h1,h2,Cm _ qaj⟩⟩;rw[df,df];refine du ?_ rfl;simp only[Ak];omega
theorem Gk{w:Nat}{q:Ps}(h:Vl w q):nf (DB q)=Ak 2 (nf q)/\Vl w (DB q):=uX 2 qaj h
theorem tM{w:Nat}(hw:w<=12){q r:Ps}(hq:Vl w q)(hr:Vl w r):nf (gw q r)=aU (nf q) (nf r)/\Vl w (gw q r):=by
 rw[BF hw hq hr];exact⟨dT hw hq hr,dy hw hq hr⟩
theorem AZ{w n:Nat}(hw:w<=12)(hn:n<w):nf (db w n 1)=eL n true false/\Vl w (db w n 1):=⟨pd (l:=1) qad qaj,Bb (l:=1) hn hw⟩
theorem Tq{w n:Nat}(hw:w<=12)(hn:n<w):nf (db w n 2)=eL n true true/\Vl w (db w n 2):=⟨pd (l:=2) qad qaj,Bb (l:=2) hn hw⟩
theorem Ba{w n:Nat}(hw:w<=12)(hn:n<w):nf (db w n 3)=eL n false true/\Vl w (db w n 3):=⟨pd (l:=3) qad qaj,Bb (l:=3) hn hw⟩
theorem YI{w a k b:Nat}(hw:w<=12)(h1:1<=k)(h2:k<=6)(ha:a<w):(nf (YH w a k).1=gE k a b (eL a true false)/\Vl w (YH w a k).1)/\nf (YH w a k).2=gE k a b (eL a false true)/\Vl w (YH w a k).2:=by
 have hk:k=1\/k=2\/k=3\/k=4\/k=5\/k=6:=qad;obtain⟨a1,a2⟩:=AZ hw ha;obtain⟨b1,b2⟩:=Tq hw ha;obtain⟨c1,c2⟩:=Ba hw ha;obtain⟨d1,d2⟩:=Gk a2;obtain⟨e1,e2⟩:=Gk b2;obtain⟨f1,f2⟩:=Gk c2;have h0:∀ x z,Ak 0 (eL a x z)=eL a x z:=fun x z=>esh_4 rfl (CN _ _ _);rw[Ay h1 h2 qad,Ay h1 h2 qad];rcases hk with rfl|rfl|rfl|rfl|rfl|rfl
 ·exact⟨⟨a1.trans (h0 _ _).symm,a2⟩,f1.trans (by rw[c1];rfl),f2⟩
 ·exact⟨⟨d1.trans (by rw[a1];rfl),d2⟩,f1.trans (by rw[c1];rfl),f2⟩
 ·exact⟨⟨d1.trans (by rw[a1];rfl),d2⟩,c1.trans (h0 _ _).symm,c2⟩
 ·exact⟨⟨c1.trans (h0 _ _).symm,c2⟩,a1.trans (h0 _ _).symm,a2⟩
 ·exact⟨⟨b1.trans (h0 _ _).symm,b2⟩,c1.trans (h0 _ _).symm,c2⟩
 ·exact⟨⟨e1.trans (by rw[b1];rfl),e2⟩,c1.trans (h0 _ _).symm,c2⟩
theorem YJ{w a b k:Nat}(hw:w<=12)(h1:9<=k)(h2:k<=11)(ha:a<w)(hb:b<w)(hab:a≠b) :
  ((nf (Oc w a b k true).1=gE k a b (eL a true false)/\Vl w (Oc w a b k true).1)/\nf (Oc w a b k true).2=gE k a b (eL a false true)/\Vl w (Oc w a b k true).2) ∧
  (nf (Oc w b a k false).1=gE k a b (eL b true false)/\Vl w (Oc w b a k false).1)/\nf (Oc w b a k false).2=gE k a b (eL b false true)/\Vl w (Oc w b a k false).2:=by
 have hk:k=9\/k=10\/k=11:=qad;obtain⟨a1,a2⟩:=AZ hw ha;obtain⟨c1,c2⟩:=Ba hw ha;obtain⟨a1',a2'⟩:=AZ hw hb;obtain⟨c1',c2'⟩:=Ba hw hb;obtain⟨t1,t2,t3,t4,t5,t6,t7,t8,t9,t10,t11,t12⟩:=IL (a:=a) (b:=b) qad qad hab;rcases hk with rfl|rfl|rfl
 ·obtain⟨d1,d2⟩:=tM hw a2 a2';obtain⟨e1,e2⟩:=tM hw c2 c2';rw[t1,t2,t3,t4];exact⟨⟨⟨d1.trans (by rw[a1,a1']),d2⟩,c1,c2⟩,⟨a1',a2'⟩,e1.trans (by rw[c1,c1']),e2⟩
 ·obtain⟨d1,d2⟩:=tM hw a2 c2';obtain⟨e1,e2⟩:=tM hw a2' c2;rw[t5,t6,t7,t8];exact⟨⟨⟨d1.trans (by rw[a1,c1']),d2⟩,c1,c2⟩,⟨e1.trans (by rw[a1',c1]),e2⟩,c1',c2'⟩
 ·rw[t9,t10,t11,t12];exact⟨⟨⟨a1',a2'⟩,c1',c2'⟩,⟨a1,a2⟩,c1,c2⟩
def xZ(k a b:Nat):List Int:=if k<=6 then [(a:Int)] else [(a:Int),(b:Int)]
def gI(w k a b n l:Nat):Ps:=F2 w (gE k a b (eL n (decide (l=1)||decide (l=2)) (decide (l=2)||decide (l=3))))
theorem O5{w n j:Nat}(hw:w<=12)(hn:n<w)(x z:Bool)(hj:(w<=j/\j<12)\/12+w<=j):(eL n x z).2.testBit j=false:=by
 simp only[eL,gy,ju,ll];rw[decide_eq_false (show ¬ n=j by omega),decide_eq_false (show ¬ 12+n=j by omega)];simp
theorem kU{w k a b n l:Nat}(hw:w<=12)(h:gR w k a b)(hn:n<w):Vl w (gI w k a b n l) :=
 Nd hw fun j hj=>Az (pJ hw h) (w:=w) qej qej hj (O5 hw hn _ _ hj)
theorem tj{w k a b n l:Nat}(hw:w<=12)(h:gR w k a b)(hn:n<w){r:Ps}(hr:Vl w r)(e:nf r=gE k a b (eL n (decide (l=1)||decide (l=2)) (decide (l=2)||decide (l=3)))):r=gI w k a b n l :=
 nX hw hr (kU hw h hn) (by rw[e];exact(xb w (wH _ _ _ _)).symm)
theorem YK{w k a b n:Nat}(hw:w<=12)(h:gR w k a b)(hn:n<w){px pz:Ps}(hx:nf px=gE k a b (eL n true false)/\Vl w px)(hz:nf pz=gE k a b (eL n false true)/\Vl w pz) :
  px=gI w k a b n 1/\pz=gI w k a b n 3/\zJ 1 (gw px pz)=gI w k a b n 2:=by
 refine⟨tj hw h hn hx.2 hx.1,tj hw h hn hz.2 hz.1,?_⟩;obtain⟨t1,t2⟩:=tM hw hx.2 hz.2;obtain⟨s1,s2⟩:=uX 1 qaj t2;refine tj hw h hn s2 (s1.trans ?_);rw[t1,hx.1,hz.1,<- jl (pJ hw h),<- NN];have:=Nm (n:=n) qad true true;show gE k a b _=gE k a b (eL n true true);rw[this];rfl
theorem Sp{w k a b n l:Nat}(hw:w<=12)(h:gR w k a b)(hn:n<w)(hl:l<=3)(hna:n≠a)(hnb:9<=k->n≠b):db w n l=gI w k a b n l:=by
 refine tj hw h hn (Bb hn hw) ?_;rw[pd qad hl,NQ (pJ hw h) qad hna hnb]
theorem ML:aq Tryz.f213=true:=ar
theorem vB(q r:Ps)(hw:0<=q.w/\q.w<=24):PC Pr G 142 [q.d,az [r] true] (gw q r).d:=tL q [r] true hw aR
theorem Nh{w n l:Nat}{q:Ps}{K:Int}{ws:List Int}{u:Bool}{b i:Int}{j:Int}{px pz:Ps}(hw:1<=w/\w<=12)(hq:q.w=w)(hl:l=1\/l=2\/l=3)(hws:ws.length<=1000)(hj:dG (fun k=>decide ((n:Int)=k) ) ws=j)(hj0:0<=j)(hpx:Vl w px)
  (hi:PC Pr G 214 [iD w,(Gt.mk K ws u b i).d,iD j] (.tup [px.d,pz.d])):PC Pr G 213 [iD n,iD l,.rop (Gt.mk K ws u b i).l 0,.rop q.l 0] (if l=1 then px else if l=3 then pz else zJ 1 (gw px pz)).d:=by
 obtain⟨qw,qx,qz,qp⟩:=q;obtain rfl:qw=w:=hq;have h99:=Ob (G:=G) ws u (n:Int) qad;rw[hj]at h99;have htm:=vB (G:=G) px pz (by rw[dr hpx];omega);generalize gw px pz=m at htm⊢;rcases hl with rfl|rfl|rfl
 all_goals
  refine ae pok Tryz.func213 ML ?_;conv=>whnf
  repeat' first|((first|refine O6.mk _ rfl ?_|refine O8.mk _ aK ?_|refine aJ ci ?_|refine aQ ?_|refine bF rfl ?_|refine aa h99 ?_|refine aa hi ?_|refine jd (htm) rfl ?_|refine HpP.force ?_);conv=>whnf)|(intro t ht;cases t<;>conv=>whnf)
  all_goals first|exact fin rfl|(exfalso;simp at ht;omega)|skip
end Go.Tz
namespace Go.Tz
open Go Go.AL Go.Proofs Go.Ma
variable{G:Nat->Option (List D)}
theorem Ng{w n l:Nat}{q:Ps}{K:Int}{ws:List Int}{u:Bool}{b i:Int}(hq:q.w=w)(hws:ws.length<=1000)(hj:dG (fun k=>decide ((n:Int)=k)) ws = -1) :
  PC Pr G 213 [iD n,iD l,.rop (Gt.mk K ws u b i).l 0,.rop q.l 0] (db w n l).d:=by
 obtain⟨qw,qx,qz,qp⟩:=q;obtain rfl:qw=w:=hq;have h99:=Ob (G:=G) ws u (n:Int) qad;rw[hj]at h99;have h1:=lc (G:=G) w n l (mf _);generalize db w n l=m at h1⊢;refine ae pok Tryz.func213 ML ?_;conv=>whnf
 repeat' first|((first|refine O6.mk _ rfl ?_|refine O8.mk _ aK ?_|refine aa h99 ?_|refine aa h1 ?_|refine HpP.force ?_);conv=>whnf)|(intro t ht;cases t<;>conv=>whnf)
 all_goals first|exact fin rfl|(exfalso;simp at ht;done)
theorem IV(n a:Nat):dG (fun k=>decide ((n:Int)=k)) [(a:Int)]=if n=a then 0 else -1:=by
 unfold dG;by_cases h:n=a
 ·exact GJ
 ·have:¬(n:Int)=a:=by omega
  simp[h,this]
theorem AD(n a b:Nat):dG (fun k=>decide ((n:Int)=k)) [(a:Int),(b:Int)]=if n=a then 0 else if n=b then 1 else -1:=by
 unfold dG;by_cases h:n=a
 ·simp[h,wd6]
 ·have:¬(n:Int)=a:=by omega
  by_cases h2:n=b
  ·simp[h2,wd6]at h this⊢;simp[h,this]
  ·have h3:¬(n:Int)=b:=by omega
   simp[h,h2,this,h3,wd6]
theorem RG{w k a b n l:Nat}{q:Ps}{K:Int}(hK:K=k){u:Bool}{bb i:Int}(hw:1<=w/\w<=12)(hg:gR w k a b)(hq:q.w=w)(hn:n<w)(hl:l=1\/l=2\/l=3) :
  PC Pr G 213 [iD n,iD l,.rop (Gt.mk K (xZ k a b) u bb i).l 0,.rop q.l 0] (gI w k a b n l).d:=by
 have key:∀{px pz:Ps} {ws:List Int} {j:Int},ws.length<=1000->dG (fun k=>decide ((n:Int)=k)) ws=j->0<=j->(nf px=gE k a b (eL n true false)/\Vl w px)->(nf pz=gE k a b (eL n false true)/\Vl w pz) ->
   PC Pr G 214 [iD w,(Gt.mk K ws u bb i).d,iD j] (.tup [px.d,pz.d])->PC Pr G 213 [iD n,iD l,.rop (Gt.mk K ws u bb i).l 0,.rop q.l 0] (gI w k a b n l).d:=by
  intro px pz ws j h1 h2 h3 h4 h5 h6;have h:=Nh (u:=u) (b:=bb) (i:=i) hw hq hl h1 h2 h3 h4.2 h6;obtain⟨e1,e2,e3⟩:=YK hw.2 hg hn h4 h5;rcases hl with rfl|rfl|rfl
  ·rw[if_pos rfl,e1]at h;exact h
  ·rw[if_neg qaj,if_neg qaj,e3]at h;exact h
  ·rw[if_neg qaj,if_pos rfl,e2]at h;exact h
 have out:∀{ws:List Int},ws.length<=1000->dG (fun k=>decide ((n:Int)=k)) ws = -1->n≠a->(9<=k->n≠b)->PC Pr G 213 [iD n,iD l,.rop (Gt.mk K ws u bb i).l 0,.rop q.l 0] (gI w k a b n l).d:=by
  intro ws h1 h2 h3 h4;have h:=Ng (G:=G) (w:=w) (n:=n) (l:=l) (K:=K) (u:=u) (b:=bb) (i:=i) hq h1 h2;rw[Sp hw.2 hg hn qad h3 h4]at h;exact h
 rcases hg with⟨k1,k2,ha⟩|⟨k1,k2,ha,hb,hab⟩
 ·have e:xZ k a b=[(a:Int)]:=if_pos k2;rw[e];by_cases h:n=a
  ·subst h;obtain⟨i1,i2⟩:=YI (b:=b) hw.2 k1 k2 ha;exact key aR (by rw[IV,if_pos rfl]) (Int.le_refl _) i1 i2 (Sn hK k1 k2 u bb i)
  ·exact out aR (by rw[IV,if_neg h]) h qad
 ·have e:xZ k a b=[(a:Int),(b:Int)]:=if_neg qad;rw[e];obtain⟨⟨i1,i2⟩,i3,i4⟩:=YJ hw.2 k1 k2 ha hb hab;by_cases h:n=a
  ·subst h;exact key aR (by rw[AD,if_pos rfl]) (Int.le_refl _) i1 i2 (IW hw hK k1 k2 true u bb i)
  ·by_cases h2:n=b
   ·subst h2;exact key (j:=1) aR (by rw[AD,if_neg h,if_pos rfl]) qaj i3 i4 (IW hw hK k1 k2 false u bb i)
   ·exact out aR (by rw[AD,if_neg h,if_neg h2]) h fun _=>h2
end Go.Tz
namespace Go.Tz
open Go Go.AL Go.Proofs Go.Ma
variable{G:Nat->Option (List D)}
def xf(w k a b X Z P n:Nat):Ps:=F2 w (gE k a b (nf (Ed w X Z P n)))
theorem Vz{w X Z P n:Nat}(hX:X<2^w)(hZ:Z<2^w)(hP:P<4):Vl w (Ed w X Z P n) :=
 ⟨_,_,_,rfl,JS (Nat.mod_le _ _) hX,JS (Nat.mod_le _ _) hZ,hP⟩
theorem Bc{w k a b X Z P n:Nat}(hw:w<=12)(h:gR w k a b)(hX:X<2^w)(hZ:Z<2^w)(hP:P<4):Vl w (xf w k a b X Z P n):=BD hw h (Vz hX hZ hP)
theorem Gm(w k a b X Z P n:Nat):nf (xf w k a b X Z P n)=gE k a b (nf (Ed w X Z P n)):=xb w (wH _ _ _ _)
theorem out_0{w k a b X Z P:Nat}(hw:w<=12)(h:gR w k a b)(hX:X<2^w)(hZ:Z<2^w)(hP:P<4):(⟨w,0,0,P⟩:Ps)=xf w k a b X Z P 0:=by
 have e:(⟨w,0,0,P⟩:Ps)=Ed w X Z P 0:=by
  unfold Ed mk;rw[Nat.pow_zero,E1,E1];rfl
 rw[e];exact nX hw (Vz hX hZ hP) (Bc hw h hX hZ hP) (by rw[Gm];exact pt_0 (pJ hw h))
theorem Tu{w k a b X Z P:Nat}(hX:X<2^w)(hZ:Z<2^w):xf w k a b X Z P w=qo w k a b (mk w X Z P):=by
 unfold xf qo;rw[ZX hX hZ]
theorem OM{w k a b X Z P n:Nat}(hw:w<=12)(h:gR w k a b)(hn:n<w)(hx:X.testBit n=false)(hz:Z.testBit n=false):xf w k a b X Z P (n+1)=xf w k a b X Z P n:=by
 unfold xf;rw[TF (pJ hw h) qad hx hz rfl]
theorem OO{w k a b X Z P n l:Nat}(hw:w<=12)(h:gR w k a b)(hn:n<w)(hX:X<2^w)(hZ:Z<2^w)(hP:P<4)(hx:X.testBit n=(decide (l=1)||decide (l=2)))(hz:Z.testBit n=(decide (l=2)||decide (l=3))) :
  gw (xf w k a b X Z P n) (gI w k a b n l)=xf w k a b X Z P (n+1):=by
 obtain⟨t1,t2⟩:=tM hw (Bc (n:=n) hw h hX hZ hP) (kU (l:=l) hw h hn);refine nX hw t2 (Bc hw h hX hZ hP) (t1.trans ?_);rw[Gm,Gm];have e:nf (gI w k a b n l)=gE k a b (eL n (X.testBit n) (Z.testBit n)):=by rw[hx,hz];exact xb w (wH _ _ _ _)
 rw[e];exact Jw (pJ hw h) qad rfl
theorem Xj:aq Tryz.f145=true:=ar
theorem XP:aq Tryz.f215=true:=ar
theorem Yd:aq Tryz.f259=true:=ar
theorem Hi{w k a b:Nat}{q:Ps}{K:Int}(hK:K=k){u:Bool}{bb i:Int}(hw:1<=w/\w<=12)(hg:gR w k a b)(hq:Vl w q):PC Pr G 145 [q.d,(Gt.mk K (xZ k a b) u bb i).d] (qo w k a b q).d:=by
 obtain⟨X,Z,P,rfl,hX,hZ,hP⟩:=hq;have hpw:(2:Nat)^w<=2^12:=js qaj hw.2;rw[<- Tu hX hZ];have hd:∀ n l:Nat,n<w->(l=1\/l=2\/l=3)->PC Pr G 213 [iD n,iD l,.rop (Gt.mk K (xZ k a b) u bb i).l 0,.rop (mk w X Z P).l 0] (gI w k a b n l).d:=fun n l hn hl=>RG hK hw hg rfl hn hl;have hL:∀ n:Nat,n<w->bj (X:Int) (Z:Int) n=if X.testBit n&&Z.testBit n then 2 else if X.testBit n then 1 else if Z.testBit n then 3 else 0:=fun n hn=>eG qad qad qad
 have hlt:∀(n:Nat) (d:D),PC Pr G 157 [.agg [iD w,iD X,iD Z,iD P,d],iD n] (iD (bj X Z n)):=fun n d=>tp (mk w X Z P) d n (mf _);have h0:=out_0 hw.2 hg hX hZ hP;have hO:=fun n=>Bc (n:=n) hw.2 hg hX hZ hP;have hS:=fun n (hn:n<w) (l:Nat) (hx:X.testBit n=(decide (l=1)||decide (l=2))) (hz:Z.testBit n=(decide (l=2)||decide (l=3)))=>OO (l:=l) hw.2 hg hn hX hZ hP hx hz;have hK0:=fun n (hn:n<w) (hx:X.testBit n=false) (hz:Z.testBit n=false)=>OM (P:=P) hw.2 hg hn hx hz;generalize xZ k a b=ws at hd⊢;generalize xf w k a b X Z P=out at h0 hO hS hK0⊢;generalize gI w k a b=img at hd hS;refine ae pok Tryz.func145 Xj ?_;conv=>whnf
 repeat' first|((first|refine O6.mk _ rfl ?_|refine O8.mk _ aK ?_|refine HpP.force ?_);conv=>whnf)
 refine aB pok Tryz.func215 XP ?_;conv=>whnf
 skip;refine aB pok Tryz.func259 Yd ?_;conv=>whnf
 repeat' first|(refine O6.mk _ rfl ?_;conv=>whnf)
 refine ax pok (fun n=>⟨[(0,.yld 7),(1,.ptr 5 5 0 0),(6,.d (iD w)),(7,.d (iD n))],[(0,some (.arr 4 [[.d (iD w),.d (iD X),.d (iD Z),.d (iD P)]])),(1,some (.arr 4 [[.d (iD K),.d (aP ws u),.d (iD bb),.d (iD i)]])),(2,some (.arr 4 [[.d (iD 0),.d (iD 0),.d (iD 0),.d (iD 0)]])),(3,some (.arr 5 [[.d (iD w),.d (iD X),.d (iD Z),.d (iD P),.fn 213 [] [.ptr 1 4 0 0,.ptr 0 4 0 0]]])),(4,some (.arr 4 [(out n).l.map AV.d])),(5,some (.arr 5 [[.d (iD w),.d (iD X),.d (iD Z),.d (iD P),.fn 213 [] [.ptr 1 4 0 0,.ptr 0 4 0 0]]])),(6,some (.raw (.deferred (some [])))),(7,some (.lp [(18,.fn 259 [] [.ptr 5 5 0 0]),(17,.agg [.d (iD w),.d (iD X),.d (iD Z),.d (iD P),.fn 213 [] [.ptr 1 4 0 0,.ptr 0 4 0 0]]),(6,.ptr 4 4 0 0),(16,.d (.agg [iD w,iD 0,iD 0,iD P])),(15,.d (iD P)),(14,.ptr 0 4 0 3),(13,.d (iD w)),(12,.ptr 0 4 0 0),(11,.ptr 3 5 0 4),(10,.fn 213 [] [.ptr 1 4 0 0,.ptr 0 4 0 0]),(5,.ptr 3 5 0 0),(9,.d (.agg [iD w,iD X,iD Z,iD P,.nilf])),(8,.d (.agg [iD w,iD X,iD Z,iD P])),(4,.ptr 2 4 0 0),(3,.ptr 1 4 0 0),(2,.ptr 0 4 0 0),(0,.d (.agg [iD w,iD X,iD Z,iD P])),(1,.d (.agg [iD K,aP ws u,iD bb,iD i]))] Tryz.f145.ntmps #[19] (rgA Tryz.f145) (B6 Tryz.f145) .ready none 6))],8⟩) (w) (fun _=>True) (trivial) ?_ ar ?_ ?_
 ·refine ah cW ?_ ?_ trivial
  ·exact gn
  ·repeat' first|exact trivial|refine⟨⟨di rfl,_,rfl,by first|rfl|assumption|(rw[<- h0];rfl),by first|exact ay rfl|exact aj _ _ _|exact au rfl|exact trivial|exact⟨rfl,nA rfl⟩⟩,?_⟩
 ·intro n A_n h_n I_n N_n;have e_n:aD .i64 (n:Int) 1=((n+1:Nat):Int):=ak eH;have hB:bf Tryz.f145.ntmps (B6 Tryz.f145)=true:=ar;have hOn:=hO n;have hOw:=dr hOn;have hl:=hlt n;have hLn:=hL n h_n;have hSn:=hS n h_n;have hKn:=hK0 n h_n;rw[hLn]at hl;cases hx:X.testBit n<;>cases hz:Z.testBit n
  ·have hl:∀ d,PC Pr G 157 [.agg [iD w,iD X,iD Z,iD P,d],iD n] (iD 0):=fun d=>by have:=hl d;rw[hx,hz]at this;exact this
   have hnx:=hKn hx hz;conv=>whnf
   repeat (refine O6.mk _ rfl ?_;conv=>whnf)
   intro t ht;cases t
   ·exact bu
   conv=>whnf
   repeat' first|((first|refine O6.mk _ rfl ?_|refine kh (hl (.fn 213 [] [.rop [iD K,aP ws u,iD bb,iD i] 0,.rop [iD w,iD X,iD Z,iD P] 0])) rfl rfl ?_);conv=>whnf)|(intro t ht;cases t<;>conv=>whnf)
   ·refine N_n _ ?_ ?_
    ·exact cY
    ·refine ah cW ?_ ?_ trivial
     ·exact F7
     ·repeat' first|exact trivial|refine⟨⟨di rfl,_,rfl,by first|rfl|assumption|(rw[hnx];rfl),by first|exact ay rfl|exact aj _ _ _|exact au rfl|exact trivial|exact⟨rfl,nA rfl⟩⟩,?_⟩
   ·exact Fl
  ·have hl:∀ d,PC Pr G 157 [.agg [iD w,iD X,iD Z,iD P,d],iD n] (iD 3):=fun d=>by have:=hl d;rw[hx,hz]at this;exact this
   have hdn:=hd n 3 h_n qaj;have ht2:=vB (G:=G) (out n) (img n 3) (by rw[hOw];omega);have hnx:=hSn 3 hx hz;rw[hnx]at ht2;generalize img n 3=d at hdn ht2;generalize hon:out n=o at hOn hOw hnx ht2⊢;obtain⟨ow,ox,oz,op⟩:=o;obtain rfl:ow=w:=hOw;conv=>whnf
   repeat (refine O6.mk _ rfl ?_;conv=>whnf)
   intro t ht;cases t
   ·exact bu
   conv=>whnf
   repeat' first|((first|refine O6.mk _ rfl ?_|refine kh (hl (.fn 213 [] [.rop [iD K,aP ws u,iD bb,iD i] 0,.rop [iD w,iD X,iD Z,iD P] 0])) rfl rfl ?_);conv=>whnf)|(intro t ht;cases t<;>conv=>whnf)
   all_goals first|(exfalso;simp at ht;done)|skip
   refine cv pok ?_;conv=>whnf
   repeat' first|((first|refine O6.mk _ rfl ?_|refine O8.mk _ aK ?_|rw[hB]|refine ab (hl _) ?_|refine ab hdn ?_|refine ab ht2 ?_|refine HpP.force ?_);conv=>whnf)
   refine N_n _ ?_ ?_
   ·exact cY
   ·exact qji
  ·have hl:∀ d,PC Pr G 157 [.agg [iD w,iD X,iD Z,iD P,d],iD n] (iD 1):=fun d=>by have:=hl d;rw[hx,hz]at this;exact this
   have hdn:=hd n 1 h_n qaj;have ht2:=vB (G:=G) (out n) (img n 1) (by rw[hOw];omega);have hnx:=hSn 1 hx hz;rw[hnx]at ht2;generalize img n 1=d at hdn ht2;generalize hon:out n=o at hOn hOw hnx ht2⊢;obtain⟨ow,ox,oz,op⟩:=o;obtain rfl:ow=w:=hOw;conv=>whnf
   repeat (refine O6.mk _ rfl ?_;conv=>whnf)
   intro t ht;cases t
   ·exact bu
   conv=>whnf
   repeat' first|((first|refine O6.mk _ rfl ?_|refine kh (hl (.fn 213 [] [.rop [iD K,aP ws u,iD bb,iD i] 0,.rop [iD w,iD X,iD Z,iD P] 0])) rfl rfl ?_);conv=>whnf)|(intro t ht;cases t<;>conv=>whnf)
   all_goals first|(exfalso;simp at ht;done)|skip
   refine cv pok ?_;conv=>whnf
   repeat' first|((first|refine O6.mk _ rfl ?_|refine O8.mk _ aK ?_|rw[hB]|refine ab (hl _) ?_|refine ab hdn ?_|refine ab ht2 ?_|refine HpP.force ?_);conv=>whnf)
   refine N_n _ ?_ ?_
   ·exact cY
   ·exact qji
  ·have hl:∀ d,PC Pr G 157 [.agg [iD w,iD X,iD Z,iD P,d],iD n] (iD 2):=fun d=>by have:=hl d;rw[hx,hz]at this;exact this
   have hdn:=hd n 2 h_n qaj;have ht2:=vB (G:=G) (out n) (img n 2) (by rw[hOw];omega);have hnx:=hSn 2 hx hz;rw[hnx]at ht2;generalize img n 2=d at hdn ht2;generalize hon:out n=o at hOn hOw hnx ht2⊢;obtain⟨ow,ox,oz,op⟩:=o;obtain rfl:ow=w:=hOw;conv=>whnf
   repeat (refine O6.mk _ rfl ?_;conv=>whnf)
   intro t ht;cases t
   ·exact bu
   conv=>whnf
   repeat' first|((first|refine O6.mk _ rfl ?_|refine kh (hl (.fn 213 [] [.rop [iD K,aP ws u,iD bb,iD i] 0,.rop [iD w,iD X,iD Z,iD P] 0])) rfl rfl ?_);conv=>whnf)|(intro t ht;cases t<;>conv=>whnf)
   all_goals first|(exfalso;simp at ht;done)|skip
   refine cv pok ?_;conv=>whnf
   repeat' first|((first|refine O6.mk _ rfl ?_|refine O8.mk _ aK ?_|rw[hB]|refine ab (hl _) ?_|refine ab hdn ?_|refine ab ht2 ?_|refine HpP.force ?_);conv=>whnf)
   refine N_n _ ?_ ?_
   ·exact cY
   ·exact qji
 ·intro A_last I_last;have hoe:=dr (hO w);generalize out w=o at hoe⊢;conv=>whnf
  repeat (refine O6.mk _ rfl ?_;conv=>whnf)
  intro t ht;cases t;rotate_left
  ·exact bu
  conv=>whnf
  repeat' first|((first|refine O6.mk _ rfl ?_|refine O8.mk _ aK ?_|refine HpP.force ?_);conv=>whnf)
  exact fin rfl
end Go.Tz
namespace Go.Tz
open Go Go.AL Go.Proofs Go.Ma
variable{G:Nat->Option (List D)}
theorem fR{H:AHeap}{nm sz N:Nat}{t:Bool}{es:List (List D)}(hg:H.get nm=some (ap sz es))(hN:N=es.length):AsD H (.sl nm sz 0 N N t) (.sl es t):=by
 subst hN;have:=dt (H:=H) (lo:=0) (len:=es.length) (room:=es.length) (t:=t) hg aR;simpa using this
theorem ri{nm sz:Nat}{es:List (List D)}{H:AHeap}(hg:H.get nm=some (ap sz es)):∀ m b,AHeap.get [(nm,some (ap sz es))] m=some b->m∈[nm]/\H.get m=some b:=fun m b h=>by
 by_cases em:m=nm
 ·subst em;rw[ao]at h;exact⟨by simp,by rw[hg,<- h]⟩
 ·exact qhd
theorem IQ{a:D}{nm sz N:Nat}{t:Bool}{es:List (List D)}(hN:N=es.length):∀(i:Nat) (v:AV) (d:D),[AV.agg [.d a,.sl nm sz 0 N N t]][i]?=some v->[D.agg [a,.sl es t]][i]?=some d->AsD [(nm,some (ap sz es))] v d:=fun i v d h1 h2=>by
 match i,h1,h2 with
 | 0,h1,h2 =>
  simp at h1 h2;subst h1 h2;exact qK (.d _) (fR (ao nm _ []) hN)
 | i+1,h1,_=>simp at h1
theorem DR{f:FuncId}{a:D}{nm sz N:Nat}{t:Bool}{es:List (List D)}{d:D}{H:AHeap}{nx:Nat}{k:AV->AHeap->Nat->Prop}(h:PC Pr G f [.agg [a,.sl es t]] d)(hg:H.get nm=some (ap sz es))(hN:N=es.length)(hk:k (.d d) (gF [nm] H) nx) :
  P3 Pr G f [.agg [.d a,.sl nm sz 0 N N t]] H nx k :=
 Bd (L:=[nm]) (HL:=[(nm,some (ap sz es))]) h rfl (ri hg) (IQ hN) hk
theorem Pd{f:FuncId}{a:D}{nm sz N:Nat}{t:Bool}{es:List (List D)}{v:AV}{M:AHeap}{n:Nat}{H:AHeap}{nx:Nat}{k:AV->AHeap->Nat->Prop}(h:PO Pr G f [.agg [a,.sl es t]] v M n)(hg:H.get nm=some (ap sz es))(hN:N=es.length)
  (hk:k (v.ren (· + nx)) (M.shift nx++gF [nm] H) (nx+n)):P3 Pr G f [.agg [.d a,.sl nm sz 0 N N t]] H nx k:=by
 refine⟨h.fn,jP (HL:=[(nm,some (ap sz es))]) (L:=[nm]) (fc h.call ?_) rfl (ri hg) (IQ hN)⟩;rintro v' N' m ⟨rfl,rfl,rfl⟩;exact hk
end Go.Tz
namespace Go.Tz
open Go Go.AL Go.Proofs Go.Ma
variable{G:Nat->Option (List D)}
def bV(k:Int):Bool:=decide ((1<=k/\k<=6)\/(9<=k/\k<=11))
def dR(g:Gt):Bool:=decide (g.i=0)&&bV g.k
theorem Xi:aq Tryz.f144=true:=ar
theorem CK(g:Gt):PC Pr G 144 [g.d] (.bool (dR g)):=by
 obtain⟨k,ws,u,b,f⟩:=g;refine ae pok Tryz.func144 Xi ?_;conv=>whnf
 repeat' first|(refine O6.mk _ rfl ?_;conv=>whnf)|(intro t ht;cases t<;>conv=>whnf)
 all_goals
  refine fin ?_;refine Kq ?_;simp at *;unfold dR bV;simp;omega
theorem jD{g:Gt}{w:Int}{bits:Int}(h:bH g w bits=0):uf g.k≠0/\(g.ws.length:Int)=uf g.k/\DK w g.ws=false/\Nk g.ws=false/\uG g bits=0:=by
 unfold bH at h;split at h
 ·cases h
 ·split at h
  ·cases h
  ·split at h
   ·cases h
   ·split at h
    ·cases h
    ·rename_i h1 h2 h3 h4;exact⟨h1,by omega,by simpa using h3,by simpa using h4,h⟩
theorem oP{g:Gt}{bits:Int}(h:uG g bits=0):(0<=g.i/\g.i<=bits)/\(g.k=13->0<=g.b/\g.b<bits)/\((g.k=13\/g.k=14)->g.i=0)/\(g.k≠13->g.b=0):=by
 unfold uG at h;split at h
 ·cases h
 ·split at h
  ·cases h
  ·rename_i h1 h2;exact⟨by omega,by omega,by omega,by omega⟩
def gK(g:Gt):Nat:=g.k.toNat
def gA(g:Gt):Nat:=(g.ws.getD 0 0).toNat
def gB(g:Gt):Nat:=(g.ws.getD 1 0).toNat
theorem len2{α:Type}:∀{l:List α},l.length=2->∃ a b,l=[a,b]
 | [a,b],_=>⟨a,b,rfl⟩
theorem Dc{g:Gt}{w:Nat}{bits:Int}(h:bH g w bits=0)(hk:bV g.k=true):gR w (gK g) (gA g) (gB g)/\g.k=gK g/\g.ws=xZ (gK g) (gA g) (gB g):=by
 obtain⟨h1,h2,h3,h4,_⟩:=jD h;obtain⟨k,ws,u,b,f⟩:=g;simp only[gK,gA,gB]at *;have hk:=of_decide_eq_true hk;have hin:∀ n,n∈ws->0<=n/\n<w:=fun n hn=>by
  have:=BX.1 h3 n hn;simp at this;omega
 rcases hk with hk|hk
 ·rw[Wo qad]at h2;obtain⟨n,rfl⟩:=List.length_eq_one_iff.1 (show ws.length=1 by omega);have hn:=hin n aR;have e:(k.toNat<=6):=qad;refine⟨.inl ⟨by omega,by omega,?_⟩,by omega,?_⟩
  ·exact fF
  ·unfold xZ;rw[if_pos e];simp;omega
 ·rw[Wp qad]at h2;obtain⟨n,m,rfl⟩:=len2 (show ws.length=2 by omega);have hn:=hin n aR;have hm:=hin m aR;have hd:n≠m:=fun q=>by
   have:=BX.1 h4 1 (cJ.2 aR);rw[wo aR]at this;simp[q]at this
  have e:¬(k.toNat<=6):=qad;refine⟨.inr ⟨by omega,by omega,?_,?_,?_⟩,by omega,?_⟩
  ·exact fF
  ·exact fF
  ·exact fF
  ·unfold xZ;rw[if_neg e];simp;omega
def oB(w:Nat)(g:Gt)(q:Ps):Ps:=qo w (gK g) (gA g) (gB g) q
theorem EK{w:Nat}(hw:1<=w/\w<=12){g:Gt}{bits:Int}(h:bH g w bits=0)(hk:bV g.k=true){q:Ps}(hq:Vl w q):PC Pr G 145 [q.d,g.d] (oB w g q).d:=by
 obtain⟨h1,h2,h3⟩:=Dc h hk;have:=Hi (G:=G) (u:=g.u) (bb:=g.b) (i:=g.i) h2 hw h1 hq;rw[<- h3]at this;exact this
theorem Ms{w:Nat}(hw:1<=w/\w<=12)(g:Gt):dm w 0 [g]=bH g w 0:=by
 by_cases h:bH g w 0=0
 ·rw[h];exact UO qad aR uz
 ·exact zV (l:=[g]) (i:=0) qad aR aR aR h
theorem MV:aq Tryz.f69=true:=ar
def Qd(w:Nat)(g:Gt)(q:Ps):D:=if bH g w 0≠0 then .tup [Ps.d ⟨0,0,0,0⟩,iD (bH g w 0)] else if bV g.k=true then .tup [(oB w g q).d,iD 0] else .tup [Ps.d ⟨0,0,0,0⟩,iD 7]
theorem tK{w:Nat}(hw:1<=w/\w<=12)(g:Gt)(hn:g.ws.length<=1000){q:Ps}(hq:Vl w q):PC Pr G 69 [q.d,g.d] (Qd w g q):=by
 have h1:=iR (G:=G) q;rw[qm hw hq]at h1;have hqw:=dr hq;have h2:∀ t,PC Pr G 129 [ei q.w 0 [g] t] (iD (bH g w 0)):=fun t=>by
  have:=nP (G:=G) w 0 [g] t aR TM;rw[Ms hw]at this;rw[hqw];exact this
 have h3:=CK (G:=G) g;have h4:=fun h k=>EK (G:=G) hw (g:=g) (bits:=0) h k hq;have hi0:bH g w 0=0->g.i=0:=fun h=>by
  have:=(oP (jD h).2.2.2.2).1;omega
 unfold Qd;generalize oB w g q=r at h4⊢;obtain⟨k,ws,u,b,f⟩:=g;by_cases he:bH ⟨k,ws,u,b,f⟩ w 0=0
 ·have hf:=hi0 he;simp only at hf;subst hf;rw[if_neg (fun h=>h he)];rw[he]at h2;have e3:dR ⟨k,ws,u,b,0⟩=bV k:=by unfold dR;simp
  rw[e3]at h3;by_cases hk:bV k=true
  ·have h5:=h4 he hk;rw[if_pos hk];rw[hk]at h3;refine ae pok Tryz.func69 MV ?_;conv=>whnf
   repeat' first|((first|refine O6.mk _ rfl ?_|refine O8.mk _ aK ?_|refine aa h1 ?_|refine jd (h2 true) rfl ?_|refine aa h3 ?_|refine aa h5 ?_|refine HpP.force ?_);conv=>whnf)|(intro t ht;cases t<;>conv=>whnf)
   all_goals first|exact fin rfl|(exfalso;simp at ht;done)
  ·rw[if_neg hk];have hk:bV k=false:=by simpa using hk
   rw[hk]at h3;refine ae pok Tryz.func69 MV ?_;conv=>whnf
   repeat' first|((first|refine O6.mk _ rfl ?_|refine O8.mk _ aK ?_|refine aa h1 ?_|refine jd (h2 true) rfl ?_|refine aa h3 ?_|refine HpP.force ?_);conv=>whnf)|(intro t ht;cases t<;>conv=>whnf)
   all_goals first|exact fin rfl|(exfalso;simp at ht;done)
 ·rw[if_pos he];generalize bH ⟨k,ws,u,b,f⟩ w 0=e at h2 he⊢;refine ae pok Tryz.func69 MV ?_;conv=>whnf
  repeat' first|((first|refine O6.mk _ rfl ?_|refine O8.mk _ aK ?_|refine aa h1 ?_|refine jd (h2 true) rfl ?_|refine HpP.force ?_);conv=>whnf)|(intro t ht;cases t<;>conv=>whnf)
  all_goals first|exact fin rfl|(exfalso;simp at ht;first|done|exact he ht)
theorem MB:aq Tryz.f126=true:=ar
theorem uk(w bits:Int)(l:List Gt)(t:Bool)(hn:l.length<=1000)(hws:∀ g,g∈l->g.ws.length<=1000):PC Pr G 126 [ei w bits l t] (if dm w bits l=0 then .tup [.bool (l.all dR),iD 0] else .tup [.bool false,iD (dm w bits l)]):=by
 have h1:=nP (G:=G) w bits l t hn hws;have h2:=Nv (G:=G) l t 144 [] [] dR hn fun g _=>CK g;generalize (l.all dR)=r at h2⊢;generalize dm w bits l=e at h1⊢;by_cases he:e=0
 ·subst he;rw[if_pos rfl];refine ae pok Tryz.func126 MB ?_;conv=>whnf
  repeat' first|((first|refine O6.mk _ rfl ?_|refine aa h1 ?_|refine aa h2 ?_);conv=>whnf)|(intro t ht;cases t<;>conv=>whnf)
  all_goals first|exact fin rfl|(exfalso;simp at ht;done)
 ·rw[if_neg he];refine ae pok Tryz.func126 MB ?_;conv=>whnf
  repeat' first|((first|refine O6.mk _ rfl ?_|refine aa h1 ?_);conv=>whnf)|(intro t ht;cases t<;>conv=>whnf)
  all_goals first|exact fin rfl|(exfalso;simp at ht;first|done|exact he ht)
end Go.Tz
namespace Go.Tz
open Go Go.AL Go.Proofs Go.Ma
variable{G:Nat->Option (List D)}
def AY(k l:Nat):Nat×Nat:=match k,l with
 | _,0=>(0,0)
 | 4,2=>(2,2)
 | 4,l=>(4-l,0)
 | 5,1=>(2,0)
 | 5,2=>(1,2)
 | 6,1=>(2,2)
 | 6,2=>(1,0)
 | 5,l=>(l,0)
 | 6,l=>(l,0)
 | k,l=>if l=k then(l,0) else(l,2)
theorem XE:aq Tryz.f202=true:=ar
theorem ZJ{k l:Nat}{K L:Int}(hK:K=k)(hL:L=l)(h1:1<=k)(h2:k<=6)(h3:l<=3):PC Pr G 202 [iD K,iD L] (.tup [iD (AY k l).1,iD (AY k l).2]):=by
 have hk:k=1\/k=2\/k=3\/k=4\/k=5\/k=6:=qad;have hl:l=0\/l=1\/l=2\/l=3:=qad;rcases hk with rfl|rfl|rfl|rfl|rfl|rfl
 all_goals first|obtain rfl:K=1:=hK|obtain rfl:K=2:=hK|obtain rfl:K=3:=hK|obtain rfl:K=4:=hK|obtain rfl:K=5:=hK|obtain rfl:K=6:=hK
 all_goals
  rcases hl with rfl|rfl|rfl|rfl
 all_goals first|obtain rfl:L=0:=hL|obtain rfl:L=1:=hL|obtain rfl:L=2:=hL|obtain rfl:L=3:=hL
 all_goals
  refine ae pok Tryz.func202 XE ?_;conv=>whnf
  repeat' first|((first|refine aQ ?_|refine bF rfl ?_);conv=>whnf)|(intro t ht;cases t<;>conv=>whnf)
  all_goals first|exact fin rfl|(exfalso;simp at ht;done)
theorem sq{w a l:Nat}(hw:w<=12)(ha:a<w)(hl:l<=3){q:Ps}(hq:Vl w q):nf (eg q a l)=aU (gp a (nf q)) (eL a (decide (l=1)||decide (l=2)) (decide (l=2)||decide (l=3)))/\Vl w (eg q a l):=by
 obtain⟨X,Z,P,rfl,h1,h2,h3⟩:=hq;have hp:(2:Nat)^w<=2^12:=js qaj hw;exact⟨Tm qad qad qad hl,UD hw h1 h2 ha hl h3⟩
theorem Nn{a:Nat}{e:E}(h:e.1<4)(hx:e.2.testBit a=false)(hz:e.2.testBit (12+a)=false):gp a e=e:=by
 refine du ?_ ?_
 ·simp only[gp,hx,hz];simp;omega
 ·simp only[gp,hx,hz];simp[cd]
theorem sm{w a:Nat}(hw:w<=12)(ha:a<w){q:Ps}(hq:Vl w q):nf (eg q a 0)=gp a (nf q)/\Vl w (eg q a 0):=by
 obtain⟨h1,h2⟩:=sq (l:=0) hw ha qaj hq;have h0:eL a false false=e1:=qhf;refine⟨?_,h2⟩;have h1:nf (eg q a 0)=aU (gp a (nf q)) (eL a false false):=h1;rw[h1,h0,iU _ (qU _ _)]
theorem NP{w k a:Nat}(hw:w<=12)(h1:1<=k)(h2:k<=6)(ha:a<w)(b:Nat){q:Ps}(hq:Vl w q){l:Nat}(hl:l<=3)(hx:(nf q).2.testBit a=(decide (l=1)||decide (l=2)))(hz:(nf q).2.testBit (12+a)=(decide (l=2)||decide (l=3))) :
  zJ (AY k l).2 (eg q a (AY k l).1)=qo w k a b q:=by
 have hll:(AY k l).1<=3/\(AY k l).2<=100:=by
  have hk:k=1\/k=2\/k=3\/k=4\/k=5\/k=6:=qad;have hl:l=0\/l=1\/l=2\/l=3:=qad;rcases hk with rfl|rfl|rfl|rfl|rfl|rfl<;>rcases hl with rfl|rfl|rfl|rfl<;>decide
 obtain⟨w1,w2⟩:=sq hw ha hll.1 hq;obtain⟨a1,a2⟩:=uX _ hll.2 w2;refine Qe hw (.inl ⟨h1,h2,ha⟩) hq a2 ?_;rw[a1,w1,Sc h1 h2 qad (ux q),hx,hz];have hk:k=1\/k=2\/k=3\/k=4\/k=5\/k=6:=qad;have hl:l=0\/l=1\/l=2\/l=3:=qad;rcases hk with rfl|rfl|rfl|rfl|rfl|rfl<;>rcases hl with rfl|rfl|rfl|rfl<;>rfl
def qF(w n l:Int):Ps:=eg ⟨w,0,0,0⟩ n l
theorem XX:aq Tryz.f252=true:=ar
theorem LV(w n l:Int)(hn:0<=n):PC Pr G 252 [iD w,iD n,iD l] (qF w n l).d:=by
 have h:=pq (G:=G) ⟨w,0,0,0⟩ n l hn;unfold qF;generalize eg ⟨w,0,0,0⟩ n l=m at h⊢;refine ae pok Tryz.func252 XX ?_;conv=>whnf
 repeat' first|((first|refine O6.mk _ rfl ?_|refine O8.mk _ aK ?_|refine aa h ?_|refine HpP.force ?_);conv=>whnf)
 exact fin rfl
theorem UJ{w n l:Nat}(hw:w<=12)(hn:n<w)(hl:l<=3):nf (qF w n l)=eL n (decide (l=1)||decide (l=2)) (decide (l=2)||decide (l=3))/\Vl w (qF w n l):=by
 have hv:Vl w ⟨w,0,0,0⟩:=⟨0,0,0,rfl,sk w,sk w,by decide⟩
 obtain⟨h1,h2⟩:=sq hw hn hl hv;have h0:gp n (nf ⟨w,0,0,0⟩)=e1:=by
  show gp n (nf (mk w 0 0 0))=e1;rw[df];simp[gp,rI,cd,e1]
 refine⟨?_,h2⟩;have h1:nf (qF w n l)=_:=h1;rw[h1,h0,eP _ (CN _ _ _)]
theorem Wm{w n m:Nat}(hw:w<=12)(hn:n<w)(hm:m<w)(hnm:n≠m){l j:Nat}(hl:l<=3)(hj:j<=3):nf (eg (qF w n l) m j)=aU (eL n (decide (l=1)||decide (l=2)) (decide (l=2)||decide (l=3))) (eL m (decide (j=1)||decide (j=2)) (decide (j=2)||decide (j=3)))/\Vl w (eg (qF w n l) m j):=by
 obtain⟨a1,a2⟩:=UJ hw hn hl;obtain⟨b1,b2⟩:=sq hw hm hj a2;refine⟨?_,b2⟩;rw[b1,a1,Nn (CN _ _ _)]
 ·rw[RK _ _ _ qad,decide_eq_false hnm,Uw]
 ·rw[RL _ _ _ qad,decide_eq_false hnm,Uw]
theorem eh{a b:Int}(hne:a≠b){k:Bool->Prop}(h:k false):∀ t,(a==b)=t->k t:=fun t e=>by
 have e2:false=t:=(beq_false_of_ne hne).symm.trans e;exact e2 ▸ h
theorem jk:aq Tryz.f203=true:=ar
theorem BI{w k a b l:Nat}{K L:Int}(hK:K=k)(hL:L=l){u:Bool}{bb i:Int}(hw:w<=12)(h1:9<=k)(h2:k<=11)(ha:a<w)(hb:b<w)(hab:a≠b)(hl:l=1\/l=3)(s:Bool) :
  PC Pr G 203 [iD w,(Gt.mk K [(a:Int),(b:Int)] u bb i).d,iD (if s then a else b:Nat),iD L] (gI w k a b (if s then a else b) l).d:=by
 have hk:k=9\/k=10\/k=11:=qad;have hg:gR w k a b:=.inr ⟨h1,h2,ha,hb,hab⟩;have hab':(a:Int)≠b:=qad;have hba':(b:Int)≠a:=qad;obtain⟨t1,t2,t3,t4,t5,t6,t7,t8,t9,t10,t11,t12⟩:=IL (a:=a) (b:=b) qad qad hab;have t4:gE 9 a b (eL b false true)=aU (eL b false true) (eL a false true):=by
  rw[t4];refine du ?_ (Hy _ _);simp only[aU,eZ,kO]
 have al:=fun n j=>LV (G:=G) w (n:Nat) j (mf _);have wi:=fun(q:Ps) (n:Nat) j=>pq (G:=G) q n j (mf _);have e1:cO .i64 (aD .i64 (a:Int) b) (a:Int)=b:=by rw[ak qad,iY qad qad];omega
 have e2:cO .i64 (aD .i64 (a:Int) b) (b:Int)=a:=by rw[ak qad,iY qad qad];omega
 have one:∀{n m j:Nat},n<w->m<w->j=1\/j=3->gE k a b (eL n (decide (l=1)||decide (l=2)) (decide (l=2)||decide (l=3)))=eL m (decide (j=1)||decide (j=2)) (decide (j=2)||decide (j=3))->gI w k a b n l=qF w m j:=@fun n m j hn hm hj e=>by
  obtain⟨c1,c2⟩:=UJ hw hm (show j<=3 by omega);exact(tj hw hg hn c2 (c1.trans e.symm)).symm
 have two:∀{n m j:Nat},n<w->m<w->n≠m->j=1\/j=3->gE k a b (eL n (decide (l=1)||decide (l=2)) (decide (l=2)||decide (l=3)))=aU (eL n (decide (l=1)||decide (l=2)) (decide (l=2)||decide (l=3))) (eL m (decide (j=1)||decide (j=2)) (decide (j=2)||decide (j=3)))->gI w k a b n l=eg (qF w n l) m j:=@fun n m j hn hm hnm hj e=>by
  obtain⟨c1,c2⟩:=Wm hw hn hm hnm (show l<=3 by omega) (show j<=3 by omega);exact(tj hw hg hn c2 (c1.trans e.symm)).symm
 rcases hk with rfl|rfl|rfl
 all_goals first|obtain rfl:K=9:=hK|obtain rfl:K=10:=hK|obtain rfl:K=11:=hK
 all_goals rcases hl with rfl|rfl
 all_goals first|obtain rfl:L=1:=hL|obtain rfl:L=3:=hL
 all_goals cases s
 all_goals simp only[if_true,QZ,if_false]
 ·have e:=one (n:=b) (m:=b) (j:=1) hb hb qaj t3;have hA:=al b 1;rw[e];generalize qF w (b:Nat) (1:Nat)=r at hA⊢;refine ae pok Tryz.func203 jk ?_;conv=>whnf
  repeat' first|((first|refine O6.mk _ rfl ?_|refine O8.mk _ aK ?_|refine aJ ci ?_|refine aQ ?_|refine bF rfl ?_|refine eh hba' ?_|refine aa hA ?_|refine HpP.force ?_);conv=>whnf)
  all_goals first|exact fin rfl|(exfalso;simp at ht;done)
 ·have e:=two (n:=a) (m:=b) (j:=1) ha hb hab qaj t1;have hA:=al a 1;have hW:=wi (qF w (a:Nat) (1:Nat)) b 1;rw[e];generalize qF w (a:Nat) (1:Nat)=r at hA hW⊢;generalize eg r (b:Nat) (1:Nat)=r' at hW⊢;refine ae pok Tryz.func203 jk ?_;conv=>whnf
  repeat' first|((first|refine O6.mk _ rfl ?_|refine O8.mk _ aK ?_|refine aJ ci ?_|refine aQ ?_|refine aa hA ?_|refine aa hW ?_|refine HpP.force ?_);conv=>whnf)
  all_goals first|exact fin rfl|(exfalso;simp at ht;done)
 ·have e:=two (n:=b) (m:=a) (j:=3) hb ha (fun q=>hab q.symm) qaj t4;have hA:=al b 3;have hW:=wi (qF w (b:Nat) (3:Nat)) a 3;rw[e];generalize qF w (b:Nat) (3:Nat)=r at hA hW⊢;generalize eg r (a:Nat) (3:Nat)=r' at hW⊢;refine ae pok Tryz.func203 jk ?_;conv=>whnf
  repeat' first|((first|refine O6.mk _ rfl ?_|refine O8.mk _ aK ?_|refine aJ ci ?_|refine aQ ?_|refine eh hba' ?_|refine aa hA ?_|refine aa hW ?_|refine HpP.force ?_);conv=>whnf)
  all_goals first|exact fin rfl|(exfalso;simp at ht;done)
 ·have e:=one (n:=a) (m:=a) (j:=3) ha ha qaj t2;have hA:=al a 3;rw[e];generalize qF w (a:Nat) (3:Nat)=r at hA⊢;refine ae pok Tryz.func203 jk ?_;conv=>whnf
  repeat' first|((first|refine O6.mk _ rfl ?_|refine O8.mk _ aK ?_|refine aJ ci ?_|refine aQ ?_|refine bF rfl ?_|refine eh hab' ?_|refine aa hA ?_|refine HpP.force ?_);conv=>whnf)
  all_goals first|exact fin rfl|(exfalso;simp at ht;done)
 ·have e:=two (n:=b) (m:=a) (j:=3) hb ha (fun q=>hab q.symm) qaj t7;have hA:=al b 1;have hW:=wi (qF w (b:Nat) (1:Nat)) a 3;rw[e];generalize qF w (b:Nat) (1:Nat)=r at hA hW⊢;generalize eg r (a:Nat) (3:Nat)=r' at hW⊢;refine ae pok Tryz.func203 jk ?_;conv=>whnf
  repeat' first|((first|refine O6.mk _ rfl ?_|refine O8.mk _ aK ?_|refine aJ ci ?_|refine aQ ?_|refine bF rfl ?_|rw[e2]|refine aa hA ?_|refine aa hW ?_|refine HpP.force ?_);conv=>whnf)
  all_goals first|exact fin rfl|(exfalso;simp at ht;done)
 ·have e:=two (n:=a) (m:=b) (j:=3) ha hb hab qaj t5;have hA:=al a 1;have hW:=wi (qF w (a:Nat) (1:Nat)) b 3;rw[e];generalize qF w (a:Nat) (1:Nat)=r at hA hW⊢;generalize eg r (b:Nat) (3:Nat)=r' at hW⊢;refine ae pok Tryz.func203 jk ?_;conv=>whnf
  repeat' first|((first|refine O6.mk _ rfl ?_|refine O8.mk _ aK ?_|refine aJ ci ?_|refine aQ ?_|refine bF rfl ?_|rw[e1]|refine aa hA ?_|refine aa hW ?_|refine HpP.force ?_);conv=>whnf)
  all_goals first|exact fin rfl|(exfalso;simp at ht;done)
 ·have e:=one (n:=b) (m:=b) (j:=3) hb hb qaj t8;have hA:=al b 3;rw[e];generalize qF w (b:Nat) (3:Nat)=r at hA⊢;refine ae pok Tryz.func203 jk ?_;conv=>whnf
  repeat' first|((first|refine O6.mk _ rfl ?_|refine O8.mk _ aK ?_|refine aJ ci ?_|refine aQ ?_|refine bF rfl ?_|refine aa hA ?_|refine HpP.force ?_);conv=>whnf)
  all_goals first|exact fin rfl|(exfalso;simp at ht;done)
 ·have e:=one (n:=a) (m:=a) (j:=3) ha ha qaj t6;have hA:=al a 3;rw[e];generalize qF w (a:Nat) (3:Nat)=r at hA⊢;refine ae pok Tryz.func203 jk ?_;conv=>whnf
  repeat' first|((first|refine O6.mk _ rfl ?_|refine O8.mk _ aK ?_|refine aJ ci ?_|refine aQ ?_|refine bF rfl ?_|refine aa hA ?_|refine HpP.force ?_);conv=>whnf)
  all_goals first|exact fin rfl|(exfalso;simp at ht;done)
 ·have e:=one (n:=b) (m:=a) (j:=1) hb ha qaj t11;have hA:=al a 1;have hA':=al b 1;rw[e];generalize qF w (a:Nat) (1:Nat)=r at hA⊢;generalize qF w (b:Nat) (1:Nat)=r' at hA';refine ae pok Tryz.func203 jk ?_;conv=>whnf
  repeat' first|((first|refine O6.mk _ rfl ?_|refine O8.mk _ aK ?_|refine aJ ci ?_|refine aQ ?_|refine bF rfl ?_|rw[e2]|refine aa hA ?_|refine aa (hA') ?_|refine HpP.force ?_);conv=>whnf)
  all_goals first|exact fin rfl|(exfalso;simp at ht;done)
 ·have e:=one (n:=a) (m:=b) (j:=1) ha hb qaj t9;have hA:=al b 1;have hA':=al a 1;rw[e];generalize qF w (b:Nat) (1:Nat)=r at hA⊢;generalize qF w (a:Nat) (1:Nat)=r' at hA';refine ae pok Tryz.func203 jk ?_;conv=>whnf
  repeat' first|((first|refine O6.mk _ rfl ?_|refine O8.mk _ aK ?_|refine aJ ci ?_|refine aQ ?_|refine bF rfl ?_|rw[e1]|refine aa hA ?_|refine aa (hA') ?_|refine HpP.force ?_);conv=>whnf)
  all_goals first|exact fin rfl|(exfalso;simp at ht;done)
 ·have e:=one (n:=b) (m:=a) (j:=3) hb ha qaj t12;have hA:=al a 3;have hA':=al b 3;rw[e];generalize qF w (a:Nat) (3:Nat)=r at hA⊢;generalize qF w (b:Nat) (3:Nat)=r' at hA';refine ae pok Tryz.func203 jk ?_;conv=>whnf
  repeat' first|((first|refine O6.mk _ rfl ?_|refine O8.mk _ aK ?_|refine aJ ci ?_|refine aQ ?_|refine bF rfl ?_|rw[e2]|refine aa hA ?_|refine aa (hA') ?_|refine HpP.force ?_);conv=>whnf)
  all_goals first|exact fin rfl|(exfalso;simp at ht;done)
 ·have e:=one (n:=a) (m:=b) (j:=3) ha hb qaj t10;have hA:=al b 3;have hA':=al a 3;rw[e];generalize qF w (b:Nat) (3:Nat)=r at hA⊢;generalize qF w (a:Nat) (3:Nat)=r' at hA';refine ae pok Tryz.func203 jk ?_;conv=>whnf
  repeat' first|((first|refine O6.mk _ rfl ?_|refine O8.mk _ aK ?_|refine aJ ci ?_|refine aQ ?_|refine bF rfl ?_|rw[e1]|refine aa hA ?_|refine aa (hA') ?_|refine HpP.force ?_);conv=>whnf)
  all_goals first|exact fin rfl|(exfalso;simp at ht;done)
end Go.Tz
namespace Go.Tz
open Go Go.AL Go.Proofs Go.Ma
variable{G:Nat->Option (List D)}
theorem tk{w k a b n l:Nat}:nf (gI w k a b n l)=gE k a b (eL n (decide (l=1)||decide (l=2)) (decide (l=2)||decide (l=3))):=xb w (wH _ _ _ _)
theorem DE{w k a b n:Nat}(hw:w<=12)(h:gR w k a b)(hn:n<w){q:Ps}(hq:Vl w q):bc q (gI w k a b n 0)=q:=by
 have hv:=kU (l:=0) hw h hn;refine nX hw (dy hw hq hv) hq ?_;rw[dT hw hq hv,tk];have h0:eL n (decide (0=1)||decide (0=2)) (decide (0=2)||decide (0=3))=e1:=qhf;rw[h0,FR (pJ hw h),iU _ (ux q)]
theorem DF{w k a b n:Nat}(hw:w<=12)(h:gR w k a b)(hn:n<w){q:Ps}(hq:Vl w q):zJ 1 (bc (bc q (gI w k a b n 1)) (gI w k a b n 3))=bc q (gI w k a b n 2):=by
 have v1:=kU (l:=1) hw h hn;have v2:=kU (l:=2) hw h hn;have v3:=kU (l:=3) hw h hn;have m1:=dy hw hq v1;have m2:=dy hw m1 v3;obtain⟨s1,s2⟩:=uX 1 qaj m2;refine nX hw s2 (dy hw hq v2) (s1.trans ?_);rw[dT hw m1 v3,dT hw hq v1,dT hw hq v2,tk,tk,tk,bx,<- Jj,<- jl (pJ hw h),<- NN];have:=Nm (n:=n) qad true true;show aU _ _=aU _ (gE k a b (eL n true true));rw[this];rfl
def zi(q:Ps)(n:Nat):Nat:=if(nf q).2.testBit n&&(nf q).2.testBit (12+n) then 2 else if(nf q).2.testBit n then 1 else if(nf q).2.testBit (12+n) then 3 else 0
theorem Jc(q:Ps)(n:Nat):zi q n<=3:=by
 unfold zi;split
 ·exact qaj
 ·split
  ·exact qaj
  ·split<;>decide
theorem ZC(q:Ps)(n:Nat):(nf q).2.testBit n=(decide (zi q n=1)||decide (zi q n=2)):=by
 unfold zi;cases (nf q).2.testBit n<;>cases (nf q).2.testBit (12+n)<;>simp
theorem ZD(q:Ps)(n:Nat):(nf q).2.testBit (12+n)=(decide (zi q n=2)||decide (zi q n=3)):=by
 unfold zi;cases (nf q).2.testBit n<;>cases (nf q).2.testBit (12+n)<;>simp
theorem tq{w n:Nat}(hw:w<=12)(hn:n<w){q:Ps}(hq:Vl w q):bj q.x q.z n=zi q n:=by
 obtain⟨X,Z,P,rfl,h1,h2,h3⟩:=hq;have hp:(2:Nat)^w<=2^12:=js qaj hw;show bj (X:Int) (Z:Int) n=_;rw[eG qad qad qad];unfold zi;rw[df];dsimp only;rw[BS qad qad,xU qad];cases X.testBit n<;>cases Z.testBit n<;>simp
theorem Uo{w k a b:Nat}(hw:w<=12)(h:gR w k a b)(hk:9<=k){q:Ps}(hq:Vl w q):bc (bc (eg (eg q a 0) b 0) (gI w k a b a (zi q a))) (gI w k a b b (zi q b))=qo w k a b q:=by
 obtain⟨ha,hb,hab,hk2⟩:a<w/\b<w/\a≠b/\k<=11:=qej;obtain⟨a1,a2⟩:=sm hw ha hq;obtain⟨b1,b2⟩:=sm hw hb a2;have v1:=kU (l:=zi q a) hw h ha;have v2:=kU (l:=zi q b) hw h hb;have m1:=dy hw b2 v1;refine Qe hw h hq (dy hw m1 v2) ?_;rw[dT hw m1 v2,dT hw b2 v1,b1,a1,tk,tk,<- ZC,<- ZD,<- ZC,<- ZD,<- Sd hk hk2 qad qad hab (ux q)]
theorem Mx:aq Tryz.f122=true:=ar
theorem EH{w k a b:Nat}{q:Ps}{K:Int}(hK:K=k){u:Bool}{bb i:Int}(hw:1<=w/\w<=12)(hk1:1<=k)(hk2:k<=6)(ha:a<w)(hq:Vl w q):PC Pr G 122 [q.d,(Gt.mk K [(a:Int)] u bb i).d] (qo w k a b q).d:=by
 have hfin:=NP hw.2 hk1 hk2 ha b hq (Jc q a) (ZC q a) (ZD q a);have hl:=jb (G:=G) q.w q.x q.z q.p (a:Int) (mf _);rw[tq hw.2 ha hq]at hl;have h1:=ZJ (G:=G) hK rfl hk1 hk2 (Jc q a);have h2:=pq (G:=G) q a (AY k (zi q a)).1 (mf _);rw[<- hfin];unfold zJ;generalize eg q a (AY k (zi q a)).1=r at h2⊢;generalize AY k (zi q a)=o at h1 h2⊢;generalize ((zi q a:Nat):Int)=l at hl h1;refine ae pok Tryz.func122 Mx ?_;conv=>whnf
 repeat' first|((first|refine O6.mk _ rfl ?_|refine O8.mk _ aK ?_|refine aJ ci ?_|refine aQ ?_|refine ab hl ?_|refine ab h1 ?_|refine ab h2 ?_|refine HpP.force ?_);conv=>whnf)
 all_goals first|exact fin rfl|(exfalso;simp at ht;done)
theorem Dt{q:Ps}{w:Nat}(hq:Vl w q)(n:Int)(hn:0<=n):PC Pr G 103 [q.d,iD n] (iD (bj q.x q.z n)):=jb q.w q.x q.z q.p n hn
theorem EI{w k a b:Nat}{q:Ps}{K:Int}(hK:K=k){u:Bool}{bb i:Int}(hw:1<=w/\w<=12)(hk1:9<=k)(hk2:k<=11)(ha:a<w)(hb:b<w)(hab:a≠b)(hq:Vl w q):PC Pr G 122 [q.d,(Gt.mk K [(a:Int),(b:Int)] u bb i).d] (qo w k a b q).d:=by
 have hg:gR w k a b:=.inr ⟨hk1,hk2,ha,hb,hab⟩;have hfin:=Uo hw.2 hg hk1 hq;have hwq:=dr hq;obtain⟨_,va⟩:=sm hw.2 ha hq;obtain⟨_,vb⟩:=sm hw.2 hb va;have w1:=pq (G:=G) q a 0 (mf _);have w2:=pq (G:=G) (eg q a 0) b 0 (mf _);have la:=Dt (G:=G) hq (a:Int) (mf _);have lb:=Dt (G:=G) hq (b:Int) (mf _);rw[tq hw.2 ha hq]at la;rw[tq hw.2 hb hq]at lb;have xa1:PC Pr G 203 [iD w,(Gt.mk K [(a:Int),(b:Int)] u bb i).d,iD a,iD 1] (gI w k a b a 1).d:=BI hK rfl hw.2 hk1 hk2 ha hb hab (.inl rfl) true;have xa3:PC Pr G 203 [iD w,(Gt.mk K [(a:Int),(b:Int)] u bb i).d,iD a,iD 3] (gI w k a b a 3).d:=BI hK rfl hw.2 hk1 hk2 ha hb hab (.inr rfl) true;have xb1:PC Pr G 203 [iD w,(Gt.mk K [(a:Int),(b:Int)] u bb i).d,iD b,iD 1] (gI w k a b b 1).d:=BI hK rfl hw.2 hk1 hk2 ha hb hab (.inl rfl) false;have xb3:PC Pr G 203 [iD w,(Gt.mk K [(a:Int),(b:Int)] u bb i).d,iD b,iD 3] (gI w k a b b 3).d:=BI hK rfl hw.2 hk1 hk2 ha hb hab (.inr rfl) false;have va0:=fun l=>kU (l:=l) hw.2 hg ha;have vb0:=fun l=>kU (l:=l) hw.2 hg hb;have m0a:=fun{r} (hr:Vl w r)=>DE hw.2 hg ha hr;have m0b:=fun{r} (hr:Vl w r)=>DE hw.2 hg hb hr;have m2a:=fun{r} (hr:Vl w r)=>DF hw.2 hg ha hr;have m2b:=fun{r} (hr:Vl w r)=>DF hw.2 hg hb hr;have hla:=Jc q a;have hlb:=Jc q b;have hvm:=fun{r s} (hr:Vl w r) (hs:Vl w s)=>dy hw.2 hr hs;generalize eg q a 0=r1 at w1 w2 va vb hfin;generalize eg r1 b 0=r0 at w2 vb hfin;generalize gI w k a b a=ia at xa1 xa3 va0 m0a m2a hfin;generalize gI w k a b b=ib at xb1 xb3 vb0 m0b m2b hfin;generalize zi q a=l1 at la hla hfin;generalize zi q b=l2 at lb hlb hfin;have hmc:=fun{r s:Ps} (hr:Vl w r) (hs:Vl w s)=>mF (G:=G) r s (by rw[dr hr];omega) (by rw[dr hs,dr hr]);rw[<- hfin];have v1:=hvm vb (va0 l1);obtain⟨qw,qx,qz,qp⟩:=q;obtain rfl:qw=w:=hwq;refine ae pok Tryz.func122 Mx ?_;conv=>whnf
 repeat' first|((first|refine O6.mk _ rfl ?_|refine O8.mk _ aK ?_|refine aJ ci ?_|refine ab w1 ?_|refine ab w2 ?_|refine HpP.force ?_);conv=>whnf)|(intro t ht;cases t<;>conv=>whnf)
 refine ax pok (fun j=>⟨[(2,.ptr 0 4 0 0),(3,.ptr 1 4 0 0),(4,.ptr 2 4 0 0),(7,.ptr 3 4 0 0),(8,.d (iD j))],[(0,some (.arr 4 [[.d (iD w),.d (iD qx),.d (iD qz),.d (iD qp)]])),(1,some (.arr 4 [[.d (iD K),.d (aP [(a:Int),(b:Int)] u),.d (iD bb),.d (iD i)]])),(2,some (.arr 4 [[.d (iD 0),.d (iD 0),.d (iD 0),.d (iD 0)]])),(3,some (.arr 4 [(if j=0 then r0 else if j=1 then bc r0 (ia l1) else bc (bc r0 (ia l1)) (ib l2)).l.map AV.d]))],4⟩) (2) (fun _=>True) (trivial) ?_ ar ?_ ?_
 ·exact nr
 ·intro j A_j h_j I_j N_j;have e_j:aD .i64 (j:Int) 1=((j+1:Nat):Int):=ak eH;have hj:j=0\/j=1:=qad;rcases hj with rfl|rfl
  ·simp only[if_true];have hnx:(if 0+1=0 then r0 else if 0+1=1 then bc r0 (ia l1) else bc (bc r0 (ia l1)) (ib l2))=bc r0 (ia l1):=rfl;generalize (if 0+1=0 then r0 else if 0+1=1 then bc r0 (ia l1) else bc (bc r0 (ia l1)) (ib l2))=o at hnx N_j;have hl:l1=0\/l1=1\/l1=2\/l1=3:=qad;rcases hl with rfl|rfl|rfl|rfl
   ·have hle:PC Pr G 103 [.agg [iD w,iD qx,iD qz,iD qp],iD a] (iD 0):=la;rw[m0a vb]at hnx;subst hnx;conv=>whnf
    repeat (refine O6.mk _ rfl ?_;conv=>whnf)
    intro t ht;cases t
    ·exact bu
    conv=>whnf
    repeat' first|((first|refine O6.mk _ rfl ?_|refine aJ ci ?_|refine bF rfl ?_|refine aa hle ?_);conv=>whnf)
    refine N_j _ ?_ ?_
    ·exact cY
    ·exact VF
   ·have hle:PC Pr G 103 [.agg [iD w,iD qx,iD qz,iD qp],iD a] (iD 1):=la;have hm:=hmc vb (va0 1);rw[<- hnx]at hm;generalize ia 1=d at xa1 hm;obtain⟨cw,cx,cz,cp⟩:=r0;conv=>whnf
    repeat (refine O6.mk _ rfl ?_;conv=>whnf)
    intro t ht;cases t
    ·exact bu
    conv=>whnf
    repeat' first|((first|refine O6.mk _ rfl ?_|refine O8.mk _ aK ?_|refine aJ ci ?_|refine aQ ?_|refine bF rfl ?_|refine aa hle ?_|refine ab xa1 ?_|refine ab hm ?_|refine HpP.force ?_);conv=>whnf)
    refine N_j _ ?_ ?_
    ·exact cY
    ·exact VF
   ·have hle:PC Pr G 103 [.agg [iD w,iD qx,iD qz,iD qp],iD a] (iD 2):=la;rw[<- m2a vb]at hnx;have hm:=hmc vb (va0 1);have hm2:=hmc (hvm vb (va0 1)) (va0 3);generalize ia 1=d at xa1 hm hm2 hnx;generalize ia 3=d3 at xa3 hm2 hnx;generalize bc r0 d=m at hm hm2 hnx;generalize bc m d3=m2 at hm2 hnx;subst hnx;obtain⟨cw,cx,cz,cp⟩:=r0;conv=>whnf
    repeat (refine O6.mk _ rfl ?_;conv=>whnf)
    intro t ht;cases t
    ·exact bu
    conv=>whnf
    repeat' first|((first|refine O6.mk _ rfl ?_|refine O8.mk _ aK ?_|refine aJ ci ?_|refine aQ ?_|refine bF rfl ?_|refine aa hle ?_|refine ab xa1 ?_|refine ab xa3 ?_|refine ab hm ?_|refine ab hm2 ?_|refine HpP.force ?_);conv=>whnf)
    refine N_j _ ?_ ?_
    ·exact cY
    ·exact VF
   ·have hle:PC Pr G 103 [.agg [iD w,iD qx,iD qz,iD qp],iD a] (iD 3):=la;have hm:=hmc vb (va0 3);rw[<- hnx]at hm;generalize ia 3=d at xa3 hm;obtain⟨cw,cx,cz,cp⟩:=r0;conv=>whnf
    repeat (refine O6.mk _ rfl ?_;conv=>whnf)
    intro t ht;cases t
    ·exact bu
    conv=>whnf
    repeat' first|((first|refine O6.mk _ rfl ?_|refine O8.mk _ aK ?_|refine aJ ci ?_|refine aQ ?_|refine bF rfl ?_|refine aa hle ?_|refine ab xa3 ?_|refine ab hm ?_|refine HpP.force ?_);conv=>whnf)
    refine N_j _ ?_ ?_
    ·exact cY
    ·exact VF
  ·have ec:(if 1=0 then r0 else if 1=1 then bc r0 (ia l1) else bc (bc r0 (ia l1)) (ib l2))=bc r0 (ia l1):=rfl;rw[ec];have hnx:(if 1+1=0 then r0 else if 1+1=1 then bc r0 (ia l1) else bc (bc r0 (ia l1)) (ib l2))=bc (bc r0 (ia l1)) (ib l2):=rfl;generalize (if 1+1=0 then r0 else if 1+1=1 then bc r0 (ia l1) else bc (bc r0 (ia l1)) (ib l2))=o at hnx N_j;generalize bc r0 (ia l1)=r at v1 hnx⊢;have hl:l2=0\/l2=1\/l2=2\/l2=3:=qad;rcases hl with rfl|rfl|rfl|rfl
   ·have hle:PC Pr G 103 [.agg [iD w,iD qx,iD qz,iD qp],iD b] (iD 0):=lb;rw[m0b v1]at hnx;subst hnx;conv=>whnf
    repeat (refine O6.mk _ rfl ?_;conv=>whnf)
    intro t ht;cases t
    ·exact bu
    conv=>whnf
    repeat' first|((first|refine O6.mk _ rfl ?_|refine aJ ci ?_|refine bF rfl ?_|refine aa hle ?_);conv=>whnf)
    refine N_j _ ?_ ?_
    ·exact cY
    ·exact VF
   ·have hle:PC Pr G 103 [.agg [iD w,iD qx,iD qz,iD qp],iD b] (iD 1):=lb;have hm:=hmc v1 (vb0 1);rw[<- hnx]at hm;generalize ib 1=d at xb1 hm;obtain⟨cw,cx,cz,cp⟩:=r;conv=>whnf
    repeat (refine O6.mk _ rfl ?_;conv=>whnf)
    intro t ht;cases t
    ·exact bu
    conv=>whnf
    repeat' first|((first|refine O6.mk _ rfl ?_|refine O8.mk _ aK ?_|refine aJ ci ?_|refine aQ ?_|refine bF rfl ?_|refine aa hle ?_|refine ab xb1 ?_|refine ab hm ?_|refine HpP.force ?_);conv=>whnf)
    refine N_j _ ?_ ?_
    ·exact cY
    ·exact VF
   ·have hle:PC Pr G 103 [.agg [iD w,iD qx,iD qz,iD qp],iD b] (iD 2):=lb;rw[<- m2b v1]at hnx;have hm:=hmc v1 (vb0 1);have hm2:=hmc (hvm v1 (vb0 1)) (vb0 3);generalize ib 1=d at xb1 hm hm2 hnx;generalize ib 3=d3 at xb3 hm2 hnx;generalize bc r d=m at hm hm2 hnx;generalize bc m d3=m2 at hm2 hnx;subst hnx;obtain⟨cw,cx,cz,cp⟩:=r;conv=>whnf
    repeat (refine O6.mk _ rfl ?_;conv=>whnf)
    intro t ht;cases t
    ·exact bu
    conv=>whnf
    repeat' first|((first|refine O6.mk _ rfl ?_|refine O8.mk _ aK ?_|refine aJ ci ?_|refine aQ ?_|refine bF rfl ?_|refine aa hle ?_|refine ab xb1 ?_|refine ab xb3 ?_|refine ab hm ?_|refine ab hm2 ?_|refine HpP.force ?_);conv=>whnf)
    refine N_j _ ?_ ?_
    ·exact cY
    ·exact VF
   ·have hle:PC Pr G 103 [.agg [iD w,iD qx,iD qz,iD qp],iD b] (iD 3):=lb;have hm:=hmc v1 (vb0 3);rw[<- hnx]at hm;generalize ib 3=d at xb3 hm;obtain⟨cw,cx,cz,cp⟩:=r;conv=>whnf
    repeat (refine O6.mk _ rfl ?_;conv=>whnf)
    intro t ht;cases t
    ·exact bu
    conv=>whnf
    repeat' first|((first|refine O6.mk _ rfl ?_|refine O8.mk _ aK ?_|refine aJ ci ?_|refine aQ ?_|refine bF rfl ?_|refine aa hle ?_|refine ab xb3 ?_|refine ab hm ?_|refine HpP.force ?_);conv=>whnf)
    refine N_j _ ?_ ?_
    ·exact cY
    ·exact VF
 ·intro A_last I_last;have e2:(if 2=0 then r0 else if 2=1 then bc r0 (ia l1) else bc (bc r0 (ia l1)) (ib l2))=bc (bc r0 (ia l1)) (ib l2):=rfl;rw[e2];generalize bc (bc r0 (ia l1)) (ib l2)=o;conv=>whnf
  repeat (refine O6.mk _ rfl ?_;conv=>whnf)
  intro t ht;cases t;rotate_left
  ·exact bu
  conv=>whnf
  repeat' first|((first|refine O6.mk _ rfl ?_|refine O8.mk _ aK ?_|refine HpP.force ?_);conv=>whnf)
  exact fin rfl
 ·exact Fl
end Go.Tz
namespace Go.Tz
open Go Go.AL Go.Proofs Go.Ma
variable{G:Nat->Option (List D)}
def dF(w:Nat)(g:Gt)(l:List Ps):List Ps:=af (l.map (oB w g)) (2*w)
theorem Ui{w:Nat}(hw:w<=12){g:Gt}{bits:Int}(hg:bH g w bits=0)(hk:bV g.k=true){q:Ps}(hq:Vl w q):Vl w (oB w g q):=BD hw (Dc hg hk).1 hq
theorem xN{w:Nat}(hw:w<=12){g:Gt}{bits:Int}(hg:bH g w bits=0)(hk:bV g.k=true){l:List Ps}(hv:∀ q,q∈l->Vl w q):∀ q,q∈l.map (oB w g)->Vl w q:=fun q hq=>by
 obtain⟨r,hr,rfl⟩:=bm.1 hq;exact Ui hw hg hk (hv r hr)
theorem Cw(w:Nat)(g:Gt)(l:List Ps):(dF w g l).length=l.length:=by simp[dF,cZ]
theorem Rk{w:Nat}(hw:w<=12){g:Gt}{bits:Int}(hg:bH g w bits=0)(hk:bV g.k=true){l:List Ps}(hv:∀ q,q∈l->Vl w q):∀ q,q∈dF w g l->Vl w q:=GP hw (xN hw hg hk hv) _
theorem vN{w:Nat}{g:Gt}{bits:Int}(hg:bH g w bits=0)(hk:bV g.k=true){l:List Ps}(h:SOk w l):SOk w (dF w g l):=Rl (Dc hg hk).1 h
theorem Cx{w:Nat}{g:Gt}{bits:Int}(hg:bH g w bits=0)(hk:bV g.k=true){l:List Ps}(h:SOk w l):af (dF w g l) (2*w)=dF w g l:=Bn (uu (Dc hg hk).1 h)
theorem MA:aq Tryz.f125=true:=ar
theorem mi{w:Nat}(hw:1<=w/\w<=12){k b i:Int}{ws:List Int}{u:Bool}(hg:bH ⟨k,ws,u,b,0⟩ w 0=0)(hk:bV k=true)(l:List Ps)(t:Bool)(hn:l.length<=1000)(hv:∀ q,q∈l->Vl w q) :
  PO Pr G 125 [cf w l t,(Gt.mk k ws u b i).d] (.agg [.d (iD w),.sl 0 4 0 l.length l.length true]) [(0,some (ap 4 ((dF w ⟨k,ws,u,b,0⟩ l).map Ps.l)))] 1:=by
 have hwl:ws.length<=1000:=by
  have h:=(jD hg).2.1;simp only at h;have:uf k<=3:=by unfold uf;split<;>(try split)<;>(try split)<;>omega
  omega
 have hgv:=xN hw.2 hg hk hv;have hc:=lx (G:=G) hw (l.map (oB w ⟨k,ws,u,b,0⟩)) false TM hgv;have ht:∀ q,Vl w q->PC Pr G 69 [q.d,(Gt.mk k ws u b 0).d] (.tup [(oB w ⟨k,ws,u,b,0⟩ q).d,iD 0]):=fun q hq=>by
  have:=tK (G:=G) hw ⟨k,ws,u,b,0⟩ hwl hq;unfold Qd at this;rw[if_neg (fun h=>h hg),if_pos hk]at this;exact this
 show PO Pr G 125 _ _ [(0,some (ap 4 ((af (l.map (oB w ⟨k,ws,u,b,0⟩)) (2*w)).map Ps.l)))] 1;generalize oB w ⟨k,ws,u,b,0⟩=F at hc ht⊢;have hlen:(l.map F).length=l.length:=aR;rw[hlen]at hc;generalize af (l.map F) (2*w)=R at hc⊢;refine⟨bg Tryz.func125 MA,bk (K:=fun v H _=>v = .agg [.d (iD w),.sl 5 4 0 l.length l.length true]/\H.get 5=some (ap 4 (R.map Ps.l))) (bi pok Tryz.func125 MA ?_) ?_⟩
 ·conv=>whnf
  repeat' first|((first|refine O6.mk _ rfl ?_|refine O8.mk _ aK ?_|refine HpP.force ?_);conv=>whnf)
  refine ax pok (fun j=>⟨[(3,.ptr 1 4 0 0),(4,.ptr 2 2 0 0),(5,.ptr 3 2 0 0),(15,.d (az l t)),(16,.d (iD (l.map Ps.l).length)),(17,.d (iD j))],[(1,some (.arr 4 [[.d (iD k),.d (aP ws u),.d (iD b),.d (iD 0)]])),(2,some (.arr 2 [[.d (iD 0),.d (.sl [] true)]])),(3,some (.arr 2 [[.d (iD w),.sl 4 4 0 j j false]])),(4,some (ap 4 (((l.take j).map F).map Ps.l)))],5⟩) (l.length) (fun _=>True) (trivial) ?_ ar ?_ ?_
  ·exact qik
  ·intro j A_j h_j I_j N_j;have e_j:aD .i64 (j:Int) 1=((j+1:Nat):Int):=ak eH;have hj:=ht l[j] (hv _ (ey h_j));have hsn:((l.take (j+1)).map F).map Ps.l=((l.take j).map F).map Ps.l++[(F l[j]).l]:=qgb;have hml:(((l.take j).map F).map Ps.l).length=j:=qdm;generalize ((l.take j).map F).map Ps.l=M at hsn hml;generalize F l[j]=r at hj hsn;conv=>whnf
   repeat (refine O6.mk _ rfl ?_;conv=>whnf)
   intro t ht;cases t
   ·exact bu
   conv=>whnf
   repeat' first|((first|refine O6.mk _ (by first|rfl|exact gG h_j) ?_|refine O8.mk _ aK ?_|(refine aJ VD ?_)|refine aa hj ?_|rw[hJ]|refine HpP.force ?_);conv=>whnf)
   refine N_j _ ?_ ?_
   ·exact cY
   ·first|refine aO [(4,8)] ?_ ?_ ?_ trivial|refine aI [(4,8)] rfl rfl ?_ ?_ ?_ trivial
    ·exact qar
    ·exact ZY
    ·exact iI
  ·intro A_last I_last;have hT:l.take l.length=l:=pT (cF _);rw[hT];conv=>whnf
   repeat (refine O6.mk _ rfl ?_;conv=>whnf)
   intro t ht;cases t;rotate_left
   ·exact bu
   conv=>whnf
   repeat' first|((first|refine O6.mk _ rfl ?_|refine O8.mk _ aK ?_|refine Pd hc rfl aR ?_|refine HpP.force ?_);conv=>whnf)
   refine fin ⟨rfl,?_⟩;show some (Blk.ren _ (ap 4 _))=_;rw[aE]
 ·rintro v H n ⟨rfl,h2⟩;refine⟨_,_,1,?_,rfl,rfl,rfl⟩;first|refine aO [(0,5)] ?_ ?_ ?_ trivial|refine aI [(0,5)] rfl rfl ?_ ?_ ?_ trivial
  ·exact gn
  ·exact ZZ
  ·exact iI
end Go.Tz
namespace Go.Tz
open Go Go.AL Go.Proofs Go.Ma
variable{G:Nat->Option (List D)}
theorem EJ{w:Nat}(hw:1<=w/\w<=12){g:Gt}{bits:Int}(h:bH g w bits=0)(hk:bV g.k=true){q:Ps}(hq:Vl w q):PC Pr G 122 [q.d,g.d] (oB w g q).d:=by
 obtain⟨h1,h2,h3⟩:=Dc h hk;unfold oB;obtain⟨k,ws,u,b,f⟩:=g;simp only at h1 h2 h3 hk;generalize gK ⟨k,ws,u,b,f⟩=K at h1 h2 h3⊢;generalize gA ⟨k,ws,u,b,f⟩=A at h1 h3⊢;generalize gB ⟨k,ws,u,b,f⟩=B at h1 h3⊢;rw[h3];rcases h1 with⟨k1,k2,ha⟩|⟨k1,k2,ha,hb,hab⟩
 ·have e:xZ K A B=[(A:Int)]:=if_pos k2;rw[e];exact EH h2 hw k1 k2 ha hq
 ·have e:xZ K A B=[(A:Int),(B:Int)]:=if_neg qad;rw[e];exact EI h2 hw k1 k2 ha hb hab hq
theorem M6:aq Tryz.f44=true:=ar
theorem qJ{w:Nat}(hw:1<=w/\w<=12)(g:Gt){bits:Int}(hg:bH g w bits=0)(hk:bV g.k=true)(l:List Ps)(t:Bool)(hpos:0<l.length)(hn:l.length<=1000)(hv:∀ q,q∈l->Vl w q) :
  PC Pr G 44 [cf w l t,g.d] (cf w (dF w g l) false):=by
 have hgv:=xN hw.2 hg hk hv;have hc:=ve (G:=G) w (l.map (oB w g)) false w TM (by simpa using hpos) (fun q hq=>dr (hgv q hq)) qad qad;rw[gx]at hc;have ht:=fun q hq=>EJ (G:=G) hw hg hk (q:=q) hq;show PC Pr G 44 _ (cf w (af (l.map (oB w g)) (2*w)) false);generalize oB w g=F at hc ht⊢;generalize af (l.map F) (2*w)=R at hc⊢;obtain⟨k,ws,u,b,i⟩:=g;refine ae pok Tryz.func44 M6 ?_;conv=>whnf
 repeat' first|((first|refine O6.mk _ rfl ?_|refine O8.mk _ aK ?_|refine HpP.force ?_);conv=>whnf)
 refine ax pok (fun j=>⟨[(2,.ptr 0 2 0 0),(3,.ptr 1 4 0 0),(4,.ptr 2 2 0 0),(5,.ptr 3 2 0 0),(6,.d (iD j))],[(0,some (.arr 2 [[.d (iD w),.d (az l t)]])),(1,some (.arr 4 [[.d (iD k),.d (aP ws u),.d (iD b),.d (iD i)]])),(2,some (.arr 2 [[.d (iD 0),.d (.sl [] true)]])),(3,some (.arr 2 [[.d (iD w),.sl 4 4 0 j j false]])),(4,some (ap 4 (((l.take j).map F).map Ps.l)))],5⟩) (l.length) (fun _=>True) (trivial) ?_ ar ?_ ?_
 ·exact qik
 ·intro j A_j h_j I_j N_j;have e_j:aD .i64 (j:Int) 1=((j+1:Nat):Int):=ak eH;have hj:=ht l[j] (hv _ (ey h_j));have hsn:((l.take (j+1)).map F).map Ps.l=((l.take j).map F).map Ps.l++[(F l[j]).l]:=qgb;have hml:(((l.take j).map F).map Ps.l).length=j:=qdm;generalize ((l.take j).map F).map Ps.l=M at hsn hml;generalize F l[j]=r at hj hsn;conv=>whnf
  repeat (refine O6.mk _ rfl ?_;conv=>whnf)
  intro t ht;cases t
  ·exact bu
  conv=>whnf
  repeat' first|((first|refine O6.mk _ (by first|rfl|exact gG h_j) ?_|refine O8.mk _ aK ?_|(refine aJ VD ?_)|refine ab hj ?_|rw[hJ]|refine HpP.force ?_);conv=>whnf)
  refine N_j _ ?_ ?_
  ·exact cY
  ·first|refine aO [(4,6)] ?_ ?_ ?_ trivial|refine aI [(4,6)] rfl rfl ?_ ?_ ?_ trivial
   ·exact qar
   ·exact ZY
   ·exact iI
 ·intro A_last I_last;have hT:l.take l.length=l:=pT (cF _);rw[hT];conv=>whnf
  repeat (refine O6.mk _ rfl ?_;conv=>whnf)
  intro t ht;cases t;rotate_left
  ·exact bu
  conv=>whnf
  repeat' first|((first|refine O6.mk _ rfl ?_|refine O8.mk _ aK ?_|refine DR hc rfl aR ?_|refine HpP.force ?_);conv=>whnf)
  exact fin rfl
theorem NT{a e:D}{nm sz N:Nat}{t:Bool}{es:List (List D)}(hN:N=es.length):∀(i:Nat) (v:AV) (d:D),[AV.agg [.d a,.sl nm sz 0 N N t],.d e][i]?=some v->[D.agg [a,.sl es t],e][i]?=some d->AsD [(nm,some (ap sz es))] v d:=fun i v d h1 h2=>by
 match i,h1,h2 with
 | 0,h1,h2 =>
  simp at h1 h2;subst h1 h2;exact qK (.d _) (fR (ao nm _ []) hN)
 | 1,h1,h2=>simp at h1 h2;subst h1 h2;exact .d _
 | i+2,h1,_=>simp at h1
theorem KI{f:FuncId}{a e:D}{nm sz N:Nat}{t:Bool}{es:List (List D)}{v:AV}{M:AHeap}{n:Nat}{H:AHeap}{nx:Nat}{k:AV->AHeap->Nat->Prop}(h:PO Pr G f [.agg [a,.sl es t],e] v M n)(hg:H.get nm=some (ap sz es))(hN:N=es.length)
  (hk:k (v.ren (· + nx)) (M.shift nx++gF [nm] H) (nx+n)):P3 Pr G f [.agg [.d a,.sl nm sz 0 N N t],.d e] H nx k:=by
 refine⟨h.fn,jP (HL:=[(nm,some (ap sz es))]) (L:=[nm]) (fc h.call ?_) rfl (ri hg) (NT hN)⟩;rintro v' N' m ⟨rfl,rfl,rfl⟩;exact hk
def kY(w:Nat)(gs:List Gt):List Ps:=gs.foldl (fun l g=>dF w g l) (dC w)
theorem DH{w:Nat}{gs:List Gt}{i:Nat}(h:i<gs.length):kY w (gs.take (i+1))=dF w gs[i] (kY w (gs.take i)):=by
 unfold kY;rw[aC h,Lm];rfl
theorem Lw(w:Nat):(dC w).length=w:=A7
theorem Fj(w:Nat):∀ q,q∈dC w->Vl w q:=fun q hq=>by
 obtain⟨i,hi,rfl⟩:=bm.1 hq;exact⟨0,2^i,0,rfl,sk w,Fq qaj (cJ.1 hi),by decide⟩
theorem Jm(w:Nat):∀(gs:List Gt) (l:List Ps),(gs.foldl (fun l g=>dF w g l) l).length=l.length
 | [],_=>rfl
 | g::gs,l=>by rw[VZ,Jm w gs,Cw]
theorem Gq{w:Nat}(hw:w<=12){bits:Int}:∀(gs:List Gt) (l:List Ps),(∀ g,g∈gs->bH g w bits=0/\bV g.k=true)->(∀ q,q∈l->Vl w q)->∀ q,q∈gs.foldl (fun l g=>dF w g l) l->Vl w q
 | [],_,_,hv=>hv
 | g::gs,l,hg,hv=>Gq hw gs (dF w g l) (fun x hx=>hg x (eJ _ hx)) (Rk hw (hg g aR).1 (hg g aR).2 hv)
theorem WW:aq Tryz.f124=true:=ar
theorem M4:aq Tryz.f42=true:=ar
theorem Gd(k:Int):PC Pr G 42 [iD k] (.bool (bV k)):=by
 refine ae pok Tryz.func42 M4 ?_;conv=>whnf
 repeat' first|(intro t ht;cases t<;>conv=>whnf)
 all_goals
  refine fin ?_;refine Kq ?_;simp at *;unfold bV;simp;omega
theorem sJ{α:Type}{p:α->Bool}{l:List α}{i:Nat}(h:i<l.length)(h1:p l[i]=false):l.all p=false:=List.all_eq_false.2 ⟨l[i],ey h,by simp[h1]⟩
theorem CJ(w b:Int)(l:List Gt)(t:Bool)(hn:l.length<=1000):PC Pr G 124 [ei w b l t] (.bool (l.all dR)):=by
 refine ae pok Tryz.func124 WW ?_;conv=>whnf
 skip;refine ax pok (fun i=>⟨[(1,.ptr 0 3 0 0),(3,.d (iD i))],[(0,some (.arr 3 [[.d (iD w),.d (iD b),.d (bN l t)]]))],1⟩) (l.length) (fun i=>∀ g,g∈l.take i->dR g=true) aR ?_ ar ?_ ?_
 ·exact nr
 ·intro i A_i h_i I_i N_i;have e_i:aD .i64 (i:Int) 1=((i+1:Nat):Int):=ak eH;have hk:=Gd (G:=G) l[i].k;have hst:dR l[i]=true->∀ g,g∈l.take (i+1)->dR g=true:=fun h g hg=>by
   rw[aC h_i,ft,mb]at hg;rcases hg with q|q
   ·exact I_i g q
   ·rw[q];exact h
  have hno:dR l[i]=false->l.all dR=false:=sJ h_i;have hc:dR l[i]=(decide (l[i].i=0)&&bV l[i].k):=rfl;rw[hc]at hst hno;generalize bV l[i].k=kb at hk hst hno;conv=>whnf
  repeat (refine O6.mk _ rfl ?_;conv=>whnf)
  intro t ht;cases t
  ·exact bu
  conv=>whnf
  repeat' first|((first|refine O6.mk _ G8 ?_|refine aJ ci ?_|fail);conv=>whnf)|(refine cc hk ?_)|(intro t ht;cases t<;>conv=>whnf)
  ·refine fin ?_;refine Kq ?_;rw[hno qht]
  ·refine N_i _ ?_ ?_
   ·exact hst qht
   ·exact yv
  ·refine fin ?_;refine Kq ?_;rw[hno qht]
 ·intro A_last I_last;rw[pS]at I_last;conv=>whnf
  repeat (refine O6.mk _ rfl ?_;conv=>whnf)
  intro t ht;cases t;rotate_left
  ·exact bu
  conv=>whnf
  skip;refine fin ?_;refine Kq ?_;rw[lh.2 I_last]
end Go.Tz
namespace Go.Tz
open Go Go.AL Go.Proofs Go.Ma
variable{G:Nat->Option (List D)}
theorem oZ{k b i:Int}{ws:List Int}{u:Bool}{w bits:Int}(hk:bV k=true)(h:bH ⟨k,ws,u,b,i⟩ w bits=0):bH ⟨k,ws,u,b,0⟩ w 0=0:=by
 obtain⟨h1,h2,h3,h4,h5⟩:=jD h;obtain⟨b1,b2,b3,b4⟩:=oP h5;have hk:=of_decide_eq_true hk;simp only at *;unfold bH;simp only;rw[if_neg h1,if_neg qf4,if_neg (by rw[h3];simp),if_neg (by rw[h4];simp)];exact Mi H8 H8
def nu(w b:Int)(l:List Gt):Int:=if dm w b l≠0 then dm w b l else if l.all dR=true then 0 else 7
theorem iy{w b:Int}{l:List Gt}(h:nu w b l=0):dm w b l=0/\l.all dR=true:=by
 unfold nu at h;split at h
 ·contradiction
 ·rename_i h1;split at h
  ·rename_i h2;exact⟨by simpa using h1,h2⟩
  ·cases h
theorem Dd{w:Nat}{b:Int}{l:List Gt}(h:nu w b l=0):(1<=w/\w<=12) /\ ∀ g,g∈l->bH g w b=0/\bV g.k=true:=by
 obtain⟨h1,h2⟩:=iy h;obtain⟨a1,_,_,a4⟩:=cj h1;refine⟨by omega,fun g hg=>⟨a4 g hg,?_⟩⟩;have:=lh.1 h2 g hg;unfold dR at this;simp at this;exact this.2
theorem MR:aq Tryz.f46=true:=ar
theorem xc{w:Nat}{b:Int}{l:List Gt}(h:nu w b l=0)(t:Bool)(hn:l.length<=1000)(hws:∀ g,g∈l->g.ws.length<=1000):PC Pr GG 46 [ei w b l t] (.tup [cf w (kY w l) false,iD 0]):=by
 obtain⟨hw,hgs⟩:=Dd h;obtain⟨h1,h2⟩:=iy h;have c1:=zW (G:=GG) w b l t hn hws;have c2:=CJ (G:=GG) w b l t hn;have c3:=tY hw.1 hw.2;unfold zD at c3;rw[h1]at c1;rw[h2]at c2;refine ae pok Tryz.func46 MR ?_;conv=>whnf
 repeat' first|((first|refine O6.mk _ rfl ?_|refine O8.mk _ aK ?_|refine aa c1 ?_|refine aa c2 ?_|refine aa c3 ?_|refine HpP.force ?_);conv=>whnf)|(intro t ht;cases t<;>conv=>whnf)
 ·refine ax pok (fun i=>⟨[(1,.ptr 0 3 0 0),(2,.ptr 1 2 0 0),(5,.ptr 2 2 0 0),(7,.d (iD i))],[(0,some (.arr 3 [[.d (iD w),.d (iD b),.d (bN l t)]])),(1,some (.arr 2 [[.d (iD 0),.d (.sl [] true)]])),(2,some (.arr 2 [[.d (iD w),.d (az (kY w (l.take i)) false)]]))],3⟩) (l.length) (fun _=>True) (trivial) ?_ ar ?_ ?_
  ·exact nr
  ·intro i A_i h_i I_i N_i;have e_i:aD .i64 (i:Int) 1=((i+1:Nat):Int):=ak eH;obtain⟨g1,g2⟩:=hgs _ (ey h_i);have hlen:(kY w (l.take i)).length=w:=LD;have hvl:∀ q,q∈kY w (l.take i)->Vl w q:=Gq hw.2 _ _ (fun g hg=>hgs g (Ci hg)) (Fj w);have ha:=qJ (G:=GG) hw l[i] g1 g2 (kY w (l.take i)) false qad qad hvl;have hsn:=DH (w:=w) h_i;rw[<- hsn]at ha;generalize kY w (l.take i)=m at ha⊢;conv=>whnf
   repeat (refine O6.mk _ rfl ?_;conv=>whnf)
   intro t ht;cases t
   ·exact bu
   conv=>whnf
   repeat' first|((first|refine O6.mk _ G8 ?_|refine O8.mk _ aK ?_|refine aJ ci ?_|refine ab ha ?_|refine HpP.force ?_);conv=>whnf)
   refine N_i _ ?_ ?_
   ·exact cY
   ·exact yv
  ·intro A_last I_last;rw[pS];conv=>whnf
   repeat (refine O6.mk _ rfl ?_;conv=>whnf)
   intro t ht;cases t;rotate_left
   ·exact bu
   conv=>whnf
   repeat' first|((first|refine O6.mk _ rfl ?_|refine O8.mk _ aK ?_|refine HpP.force ?_);conv=>whnf)
   exact fin rfl
 all_goals (exfalso;simp at ht;done)
theorem nY{w b:Int}{l:List Gt}(h:nu w b l≠0)(t:Bool)(hn:l.length<=1000)(hws:∀ g,g∈l->g.ws.length<=1000):PC Pr GG 46 [ei w b l t] (.tup [cf 0 [] true,iD (nu w b l)]):=by
 have c1:=zW (G:=GG) w b l t hn hws;have c2:=CJ (G:=GG) w b l t hn;unfold nu at h⊢;by_cases he:dm w b l=0
 ·rw[if_neg (fun q=>q he)]at h⊢;by_cases hl:l.all dR=true
  ·rw[if_pos hl]at h;exact absurd rfl h
  ·rw[if_neg hl];rw[he]at c1;rw[show l.all dR=false by simpa using hl]at c2;refine ae pok Tryz.func46 MR ?_;conv=>whnf
   repeat' first|((first|refine O6.mk _ rfl ?_|refine O8.mk _ aK ?_|refine aa c1 ?_|refine aa c2 ?_|refine HpP.force ?_);conv=>whnf)|(intro t ht;cases t<;>conv=>whnf)
   all_goals first|exact fin rfl|(exfalso;simp at ht;done)
 ·rw[if_pos he];generalize dm w b l=e at c1 he⊢;refine ae pok Tryz.func46 MR ?_;conv=>whnf
  repeat' first|((first|refine O6.mk _ rfl ?_|refine O8.mk _ aK ?_|refine aa c1 ?_|refine HpP.force ?_);conv=>whnf)|(intro t ht;cases t<;>conv=>whnf)
  all_goals first|exact fin rfl|(exfalso;simp at ht;exact he ht)
def JP:Nat->Bool
 | 0=>false
 | _+1=>true
theorem Ih:aq Tryz.f49=true:=ar
theorem yo{w:Nat}{b:Int}{l:List Gt}(h:nu w b l=0)(t:Bool)(hn:l.length<=1000)(hws:∀ g,g∈l->g.ws.length<=1000):PO Pr GG 49 [ei w b l t] (Tx w w (JP l.length)) [(0,some (ap 4 ((kY w l).map Ps.l)))] 1:=by
 obtain⟨hw,hgs⟩:=Dd h;obtain⟨h1,h2⟩:=iy h;have c1:=uk (G:=GG) w b l t hn hws;rw[if_pos h1,h2]at c1;have c3:=Fi hw;refine⟨bg Tryz.func49 Ih,bk (K:=fun v H _=>v = .tup [.agg [.d (iD w),.sl 2 4 0 w w (JP l.length)],.d (iD 0)]/\H.get 2=some (ap 4 ((kY w l).map Ps.l))) (bi pok Tryz.func49 Ih ?_) ?_⟩
 ·conv=>whnf
  repeat' first|((first|refine O6.mk _ rfl ?_|refine O8.mk _ aK ?_|refine aa c1 ?_|refine aY c3 ?_|refine HpP.force ?_);conv=>whnf)|(intro t ht;cases t<;>conv=>whnf)
  ·refine ax pok (fun i=>⟨[(2,.ptr 1 2 0 0),(6,.ptr 3 2 0 0),(25,.d (bN l t)),(26,.d (iD (l.map Gt.l).length)),(27,.d (iD i))],[(1,some (.arr 2 [[.d (iD 0),.d (.sl [] true)]])),(2,some (ap 4 ((kY w (l.take i)).map Ps.l))),(3,some (.arr 2 [[.d (iD w),.sl 2 4 0 w w (JP i)]]))],4⟩) (l.length) (fun _=>True) (trivial) ?_ ar ?_ ?_
   ·refine ah cW ?_ ?_ trivial
    ·exact gn
    ·repeat' first|exact trivial|refine⟨⟨di rfl,_,rfl,by first|rfl|assumption|exact(show some (Blk.ren _ (ap 4 ((dC w).map Ps.l)))=some (ap 4 ((dC w).map Ps.l)) from by rw[aE]),by first|exact ay rfl|exact aj _ _ _|exact au rfl⟩,?_⟩
   ·intro i A_i h_i I_i N_i;have e_i:aD .i64 (i:Int) 1=((i+1:Nat):Int):=ak eH;obtain⟨g1,g2⟩:=hgs _ (ey h_i);have hlen:(kY w (l.take i)).length=w:=LD;have hvl:∀ q,q∈kY w (l.take i)->Vl w q:=Gq hw.2 _ _ (fun g hg=>hgs g (Ci hg)) (Fj w);have hsn:=DH (w:=w) h_i;have hgl:(l.map Gt.l)[(i:Int).toNat]?=some (l[i]).l:=wK h_i;generalize l[i]=g at g1 g2 hsn hgl;obtain⟨gk,gws,gu,gb,gi⟩:=g;have ha:=mi (G:=GG) hw (i:=gi) (oZ g2 g1) g2 (kY w (l.take i)) (JP i) qad hvl;have e:dF w ⟨gk,gws,gu,gb,0⟩ (kY w (l.take i))=kY w (l.take (i+1)):=hsn.symm;rw[e,hlen]at ha;generalize kY w (l.take i)=m at ha hlen⊢;have hml:w=(m.map Ps.l).length:=qgn;conv=>whnf
    repeat (refine O6.mk _ rfl ?_;conv=>whnf)
    intro t ht;cases t
    ·exact bu
    conv=>whnf
    repeat' first|((first|refine O6.mk _ qfs ?_|refine O8.mk _ aK ?_|refine aJ ci ?_|refine KI ha rfl hml ?_|refine HpP.force ?_);conv=>whnf)
    refine N_i _ ?_ ?_
    ·exact cY
    ·first|refine aO [(2,5)] ?_ ?_ ?_ trivial|refine aI [(2,5)] rfl rfl ?_ ?_ ?_ trivial
     ·exact Ch
     ·exact qa3
     ·exact iI
   ·intro A_last I_last;rw[pS];conv=>whnf
    repeat (refine O6.mk _ rfl ?_;conv=>whnf)
    intro t ht;cases t;rotate_left
    ·exact bu
    conv=>whnf
    repeat' first|((first|refine O6.mk _ rfl ?_|refine O8.mk _ aK ?_|refine HpP.force ?_);conv=>whnf)
    exact fin ⟨rfl,rfl⟩
  all_goals (exfalso;simp at ht;done)
 ·exact qh1
end Go.Tz
namespace Go.Tz
open Go Go.AL Go.Proofs Go.Ma
variable{G:Nat->Option (List D)}
theorem pL{w b:Int}{l:List Gt}(h:nu w b l≠0)(t:Bool)(hn:l.length<=1000)(hws:∀ g,g∈l->g.ws.length<=1000):PC Pr GG 49 [ei w b l t] (.tup [cf 0 [] true,iD (nu w b l)]):=by
 have c1:=uk (G:=GG) w b l t hn hws;unfold nu at h⊢;by_cases he:dm w b l=0
 ·rw[if_neg (fun q=>q he)]at h⊢;by_cases hl:l.all dR=true
  ·rw[if_pos hl]at h;exact absurd rfl h
  ·rw[if_neg hl];rw[if_pos he,show l.all dR=false by simpa using hl]at c1;refine ae pok Tryz.func49 Ih ?_;conv=>whnf
   repeat' first|((first|refine O6.mk _ rfl ?_|refine O8.mk _ aK ?_|refine aa c1 ?_|refine HpP.force ?_);conv=>whnf)|(intro t ht;cases t<;>conv=>whnf)
   all_goals first|exact fin rfl|(exfalso;simp at ht;done)
 ·rw[if_pos he];rw[if_neg he]at c1;generalize dm w b l=e at c1 he⊢;refine ae pok Tryz.func49 Ih ?_;conv=>whnf
  repeat' first|((first|refine O6.mk _ rfl ?_|refine O8.mk _ aK ?_|refine aa c1 ?_|refine HpP.force ?_);conv=>whnf)|(intro t ht;cases t<;>conv=>whnf)
  all_goals first|exact fin rfl|(exfalso;simp at ht;exact he ht)
def Ke(w:Int)(l:List Ps)(g:Gt):Int:=if bD w l≠0 then bD w l else if bH g w 0≠0 then bH g w 0 else if bV g.k=true then 0 else 7
theorem Wn{w:Int}{l:List Ps}{g:Gt}(h:Ke w l g=0):∃ W:Nat,w=W/\SOk W l/\bH g W 0=0/\bV g.k=true:=by
 unfold Ke at h;split at h
 ·contradiction
 ·rename_i h1;obtain⟨W,rfl,hs⟩:=jT (show bD w l=0 by simpa using h1);split at h
  ·contradiction
  ·rename_i h2;split at h
   ·rename_i h3;exact⟨W,rfl,hs,by simpa using h2,h3⟩
   ·cases h
theorem CH:aq Tryz.f47=true:=ar
theorem dE{w:Nat}{l:List Ps}(h:SOk w l):l.length<=1000:=qdn
theorem Rm{w:Nat}{l:List Ps}{g:Gt}(h:Ke w l g=0)(t:Bool)(hn:g.ws.length<=1000):PO Pr GG 47 [cf w l t,g.d] (Tx w l.length true) [(0,some (ap 4 ((dF w g l).map Ps.l)))] 1:=by
 obtain⟨W,hW,hs,hg,hk⟩:=Wn h;obtain rfl:W=w:=qad;have hw:1<=W/\W<=12:=⟨hs.lo,hs.hi⟩
 have hlen:=hs.len;have c1:=cT W l t (dE hs);rw[kZ hs]at c1;have h0:0<l.length:=qad;have c2:=tK (G:=GG) hw g hn (hs.vl _ (ey h0));unfold Qd at c2;rw[if_neg (fun q=>q hg),if_pos hk]at c2;have hgl:(l.map Ps.l)[(0:Int).toNat]?=some (l[0]).l:=gG h0;obtain⟨k,ws,u,b,i⟩:=g;have c3:=mi (G:=GG) hw (i:=i) (oZ hk hg) hk l t (dE hs) hs.vl;have e:dF W ⟨k,ws,u,b,0⟩ l=dF W ⟨k,ws,u,b,i⟩ l:=rfl;rw[e]at c3;generalize dF W ⟨k,ws,u,b,i⟩ l=R at c3⊢;generalize oB W ⟨k,ws,u,b,i⟩ l[0]=r at c2;generalize l[0]=q0 at c2 hgl;generalize hN:l.length=N at c3⊢;refine⟨bg Tryz.func47 CH,bk (K:=fun v H _=>∃ m,v = .tup [.agg [.d (iD W),.sl m 4 0 N N true],.d (iD 0)]/\H.get m=some (ap 4 (R.map Ps.l))/\m=4) (bi pok Tryz.func47 CH ?_) ?_⟩
 ·conv=>whnf
  repeat' first|((first|refine O6.mk _ qfs ?_|refine O8.mk _ aK ?_|refine aJ ci ?_|refine aa c1 ?_|refine ab c2 ?_|refine aY c3 ?_|refine HpP.force ?_);conv=>whnf)|(intro t ht;cases t<;>conv=>whnf)
  ·refine fin ⟨_,rfl,?_,rfl⟩;show some (Blk.ren _ (ap 4 _))=_;rw[aE]
  all_goals (exfalso;simp at ht;done)
 ·rintro v H n ⟨m,rfl,h2,rfl⟩;refine⟨_,_,1,?_,rfl,rfl,rfl⟩;first|refine aO [(0,4)] ?_ ?_ ?_ trivial|refine aI [(0,4)] rfl rfl ?_ ?_ ?_ trivial
  ·exact gn
  ·exact ZZ
  ·exact iI
theorem vO{w:Int}{l:List Ps}{g:Gt}(h:Ke w l g≠0)(t:Bool)(hl:l.length<=1000)(hn:g.ws.length<=1000):PC Pr GG 47 [cf w l t,g.d] (.tup [cf 0 [] true,iD (Ke w l g)]):=by
 have c1:=cT w l t hl;unfold Ke at h⊢;by_cases hc:bD w l=0
 ·obtain⟨W,rfl,hs⟩:=jT hc;have hw:1<=W/\W<=12:=⟨hs.lo,hs.hi⟩
  have hlen:=hs.len;have h0:0<l.length:=qad;have c2:=tK (G:=GG) hw g hn (hs.vl _ (ey h0));have hgl:(l.map Ps.l)[(0:Int).toNat]?=some (l[0]).l:=gG h0;unfold Qd at c2;rw[hc]at c1;rw[if_neg (fun q=>q hc)]at h⊢;generalize oB W g l[0]=r at c2;generalize l[0]=q0 at c2 hgl;by_cases he:bH g W 0=0
  ·rw[if_neg (fun q=>q he)]at h c2⊢;by_cases hk:bV g.k=true
   ·rw[if_pos hk]at h;exact absurd rfl h
   ·rw[if_neg hk]at c2⊢;obtain⟨k,ws,u,b,i⟩:=g;refine ae pok Tryz.func47 CH ?_;conv=>whnf
    repeat' first|((first|refine O6.mk _ qfs ?_|refine O8.mk _ aK ?_|refine aJ ci ?_|refine aa c1 ?_|refine ab c2 ?_|refine HpP.force ?_);conv=>whnf)|(intro t ht;cases t<;>conv=>whnf)
    all_goals first|exact fin rfl|(exfalso;simp at ht;done)
  ·rw[if_pos he]at c2⊢;generalize bH g W 0=e at c2 he⊢;obtain⟨k,ws,u,b,i⟩:=g;refine ae pok Tryz.func47 CH ?_;conv=>whnf
   repeat' first|((first|refine O6.mk _ qfs ?_|refine O8.mk _ aK ?_|refine aJ ci ?_|refine aa c1 ?_|refine ab c2 ?_|refine HpP.force ?_);conv=>whnf)|(intro t ht;cases t<;>conv=>whnf)
   all_goals first|exact fin rfl|(exfalso;simp at ht;first|done|exact he ht)
 ·rw[if_pos hc];generalize bD w l=e at c1 hc⊢;refine ae pok Tryz.func47 CH ?_;conv=>whnf
  repeat' first|((first|refine O6.mk _ rfl ?_|refine O8.mk _ aK ?_|refine aJ ci ?_|refine aa c1 ?_|refine HpP.force ?_);conv=>whnf)|(intro t ht;cases t<;>conv=>whnf)
  all_goals first|exact fin rfl|(exfalso;simp at ht;exact hc ht)
def Al(w:Int)(l:List Ps)(p:Ps):Int:=if bD w l≠0 then bD w l else if dg p≠0 then dg p else if p.w≠w\/p.p.tmod 2=1 then 7 else 0
theorem pck_p{p:Ps}(h:dg p=0):0<=p.p/\p.p<=3:=by
 unfold dg at h;split at h
 ·cases h
 ·split at h
  ·cases h
  ·split at h
   ·cases h
   ·exact qad
theorem Am{w:Int}{l:List Ps}{p:Ps}(h:Al w l p=0):∃ W:Nat,w=W/\SOk W l/\Vl W p/\p.p.tmod 2=0:=by
 unfold Al at h;split at h
 ·contradiction
 ·rename_i h1;obtain⟨W,rfl,hs⟩:=jT (show bD w l=0 by simpa using h1);split at h
  ·contradiction
  ·rename_i h2;have h2:dg p=0:=qf4;split at h
   ·cases h
   ·rename_i h3;have hp:=pck_p h2;refine⟨W,rfl,hs,QB (by rw[<- ed];exact h2) qad,?_⟩;rw[VW hp.1]at h3⊢;omega
theorem Ig:aq Tryz.f48=true:=ar
theorem wv{w:Nat}{l:List Ps}{p:Ps}(h:Al w l p=0)(t:Bool):PC Pr GG 48 [cf w l t,p.d] (.tup [iD (nk l p),iD 0]):=by
 obtain⟨W,hW,hs,hp,hpp⟩:=Am h;obtain rfl:W=w:=qad;have c1:=cT W l t (dE hs);rw[kZ hs]at c1;have c2:=iR (G:=GG) p;rw[qm ⟨hs.lo,hs.hi⟩ hp]at c2;have c3:=gh hs t hp;have hpw:=dr hp;generalize nk l p=e at c3⊢;obtain⟨pw,px,pz,pp⟩:=p;obtain rfl:pw=W:=hpw;have hpp:pp.tmod 2=0:=hpp;refine ae pok Tryz.func48 Ig ?_;conv=>whnf
 repeat' first|((first|refine O6.mk _ rfl ?_|refine aJ ci ?_|refine aa c1 ?_|refine aa c2 ?_|refine aa c3 ?_);conv=>whnf)|(intro t ht;cases t<;>conv=>whnf)
 all_goals first|exact fin rfl|(exfalso;simp[hpp]at ht;done)
theorem iq{w:Int}{l:List Ps}{p:Ps}(h:Al w l p≠0)(t:Bool)(hl:l.length<=1000):PC Pr GG 48 [cf w l t,p.d] (.tup [iD 0,iD (Al w l p)]):=by
 have c1:=cT w l t hl;have c2:=iR (G:=GG) p;unfold Al at h⊢;by_cases hc:bD w l=0
 ·rw[if_neg (fun q=>q hc)]at h⊢;rw[hc]at c1;by_cases hp:dg p=0
  ·rw[if_neg (fun q=>q hp)]at h⊢;rw[hp]at c2;by_cases h3:p.w≠w\/p.p.tmod 2=1
   ·rw[if_pos h3];obtain⟨pw,px,pz,pp⟩:=p;refine ae pok Tryz.func48 Ig ?_;conv=>whnf
    repeat' first|((first|refine O6.mk _ rfl ?_|refine aJ ci ?_|refine aa c1 ?_|refine aa c2 ?_);conv=>whnf)|(intro t ht;cases t<;>conv=>whnf)
    all_goals first|exact fin rfl|(exfalso;simp at h3 ht;done)|(exfalso;simp at *;simp_all;done)
   ·rw[if_neg h3]at h;exact absurd rfl h
  ·rw[if_pos hp];generalize dg p=e at c2 hp⊢;refine ae pok Tryz.func48 Ig ?_;conv=>whnf
   repeat' first|((first|refine O6.mk _ rfl ?_|refine aJ ci ?_|refine aa c1 ?_|refine aa c2 ?_);conv=>whnf)|(intro t ht;cases t<;>conv=>whnf)
   all_goals first|exact fin rfl|(exfalso;simp at ht;first|done|exact hp ht)|(exfalso;simp_all;done)
 ·rw[if_pos hc];generalize bD w l=e at c1 hc⊢;refine ae pok Tryz.func48 Ig ?_;conv=>whnf
  repeat' first|((first|refine O6.mk _ rfl ?_|refine aa c1 ?_);conv=>whnf)|(intro t ht;cases t<;>conv=>whnf)
  all_goals first|exact fin rfl|(exfalso;simp at ht;exact hc ht)
end Go.Tz
