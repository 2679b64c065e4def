import Derived.Test.YtehjjpbpdfnnfaaGreatDoorM00
import Derived.Test.YtehjjpbpdfnnfaaGreatDoorM10
namespace Go.Tz
open Go Go.AL Go.Proofs
noncomputable def VI(f:FuncId)(ds:List D)(d:D):Bool:=match rn f ds with
 | some e=>dB e d
 | none=>false
theorem tD{f:FuncId}{ds:List D}{d:D}(h:VI f ds d=true):PC Pr GG f ds d:=by
 unfold VI at h;split at h
 ·rename_i e he;rw[<- Na _ _ h];exact kL he
 ·cases h
def J9:Option Nat->Nat->List D
 | none,_=>Lz 0 0 0 0 0
 | some p,m=>Lz (if p=0 then 1 else if p=2 then -1 else 0) 0 (if p=1 then 1 else if p=3 then -1 else 0) 0 m
abbrev uE(p:Option Nat)(m:Nat):D:=.agg (J9 p m)
theorem mul75a:((List.range 13).all fun m=>VI 75 [uE (some 0) 0,uE (some 0) m] (.tup [uE (some 0) m,iD 0]))=true:=by kernel_rfl
theorem mul75b:((List.range 13).all fun m=>VI 75 [uE (some 1) 0,uE (some 0) m] (.tup [uE (some 1) m,iD 0]))=true:=by kernel_rfl
theorem mul75c:((List.range 13).all fun m=>VI 75 [uE (some 2) 0,uE (some 0) m] (.tup [uE (some 2) m,iD 0]))=true:=by kernel_rfl
theorem mul75d:((List.range 13).all fun m=>VI 75 [uE (some 3) 0,uE (some 0) m] (.tup [uE (some 3) m,iD 0]))=true:=by kernel_rfl
theorem mul75{p m:Nat}(hp:p<4)(hm:m<=12):PC Pr GG 75 [uE (some p) 0,uE (some 0) m] (.tup [uE (some p) m,iD 0]):=by
 have h:((List.range 13).all fun m=>VI 75 [uE (some p) 0,uE (some 0) m] (.tup [uE (some p) m,iD 0]))=true:=match p,hp with
  | 0,_=>mul75a
  | 1,_=>mul75b
  | 2,_=>mul75c
  | 3,_=>mul75d
  | p+4,h=>absurd h (by omega)
 exact tD (lh.1 h m (cJ.2 (by omega)))
theorem mul93a:((List.range 13).all fun m=>VI 93 [uE (some 0) 0,uE (some 0) m] (.tup [uE (some 0) m,iD 0]))=true:=by kernel_rfl
theorem mul93b:((List.range 13).all fun m=>VI 93 [uE (some 1) 0,uE (some 0) m] (.tup [uE (some 1) m,iD 0]))=true:=by kernel_rfl
theorem mul93c:((List.range 13).all fun m=>VI 93 [uE (some 2) 0,uE (some 0) m] (.tup [uE (some 2) m,iD 0]))=true:=by kernel_rfl
theorem mul93d:((List.range 13).all fun m=>VI 93 [uE (some 3) 0,uE (some 0) m] (.tup [uE (some 3) m,iD 0]))=true:=by kernel_rfl
theorem mul93{p m:Nat}(hp:p<4)(hm:m<=12):PC Pr GG 93 [uE (some p) 0,uE (some 0) m] (.tup [uE (some p) m,iD 0]):=by
 have h:((List.range 13).all fun m=>VI 93 [uE (some p) 0,uE (some 0) m] (.tup [uE (some p) m,iD 0]))=true:=match p,hp with
  | 0,_=>mul93a
  | 1,_=>mul93b
  | 2,_=>mul93c
  | 3,_=>mul93d
  | p+4,h=>absurd h (by omega)
 exact tD (lh.1 h m (cJ.2 (by omega)))
theorem B9{m:Nat}(hm:m<=12):PC Pr GG 78 [iD m] (.tup [uE (some 0) m,iD 0]):=by
 have h:((List.range 13).all fun m:Nat=>VI 78 [iD m] (.tup [uE (some 0) m,iD 0]))=true:=ar;exact tD (lh.1 h m (cJ.2 qad))
theorem C4{m:Nat}(hm:m<=12):PC Pr GG 92 [iD m] (.tup [uE (some 0) m,iD 0]):=by
 have h:((List.range 13).all fun m:Nat=>VI 92 [iD m] (.tup [uE (some 0) m,iD 0]))=true:=ar;exact tD (lh.1 h m (cJ.2 qad))
theorem OI{q:Nat}(hq:q<40):PC Pr GG 165 [iD (2*q:Nat)] (uE (some (q%4)) 0):=by
 have h:((List.range 40).all fun q:Nat=>VI 165 [iD (2*q:Nat)] (uE (some (q%4)) 0))=true:=ar;exact tD (lh.1 h q (cJ.2 hq))
theorem Tp{q:Nat}(hq:q<8):PC Pr GG 94 [iD (2*q:Nat)] (uE (some (q%4)) 0):=by
 have h:((List.range 8).all fun q:Nat=>VI 94 [iD (2*q:Nat)] (uE (some (q%4)) 0))=true:=ar;exact tD (lh.1 h q (cJ.2 hq))
end Go.Tz
namespace Go.Tz
open Go Go.AL Go.Proofs Go.Ma
theorem E3:((List.range 4096).all fun k=>(List.range 12).all fun i=>if k.testBit i then(k^^^2^i)+2^i==k else k^^^2^i==k+2^i)=true:=ar
theorem xa_ok{k i:Nat}(hk:k<4096)(hi:i<12):if k.testBit i then(k^^^2^i)+2^i=k else k^^^2^i=k+2^i:=by
 have:=lh.1 (lh.1 E3 k (cJ.2 hk)) i (cJ.2 hi);split at this
 ·rename_i h;rw[if_pos h];simpa using this
 ·rename_i h;rw[if_neg h];simpa using this
theorem Ua:((List.range 12).all fun i=>decide (cU .i64 (cO .i64 1 (fH .i64 2 1)) (i:Int) = -((2^i:Nat):Int))&&decide (cU .i64 (cO .i64 1 (fH .i64 2 0)) (i:Int)=((2^i:Nat):Int)))=true:=ar
theorem Vy{i:Nat}(hi:i<12):2^i<=2048:=js qaj (show i<=11 by omega)
theorem NG{k i:Nat}(hk:k<4096)(hi:i<12):aD .i64 (k:Int) (cU .i64 (cO .i64 1 (fH .i64 2 (if k.testBit i then 1 else 0))) (i:Int))=((k^^^2^i:Nat):Int):=by
 have h:=lh.1 Ua i (cJ.2 hi);simp only[li,decide_eq_true_eq]at h;obtain⟨g1,g2⟩:=h;have hx:=xa_ok hk hi;have hp:=Vy hi;by_cases hb:k.testBit i=true
 ·rw[if_pos hb]at hx⊢;rw[g1];clear g1 g2;generalize 2^i=p at hx hp⊢;rw[rj qad qad];omega
 ·rw[if_neg hb]at hx⊢;rw[g2];clear g1 g2;generalize 2^i=p at hx hp⊢;rw[rj qad qad];omega
theorem Tk(X i:Nat):X%2^(i+1)=X%2^i^^^(if X.testBit i then 2^i else 0):=by
 refine Fs fun j=>?_;rw[gy,QX,QX];by_cases e:j=i
 ·subst e;cases h:X.testBit j<;>simp
 ·have h1:(if X.testBit i then 2^i else 0).testBit j=false:=by
   split
   ·rw[ll];simp;omega
   ·exact Cj j
  rw[h1];have:(j<i+1) ↔ (j<i):=qad;simp[this]
abbrev IG(X k i:Nat):Nat:=k^^^(X%2^i)
abbrev Da(P X Z k i:Nat):Nat:=P+ig i (X &&& Z)+2*ig i (Z &&& k)
theorem Sa(X k i:Nat):(IG X k i).testBit i=k.testBit i:=by
 rw[gy,QX];simp
theorem xk:∀(k n:Nat),ig k n<=k
 | 0,_=>cF _
 | k+1,n=>by
  have:=xk k n;simp only[ig];cases n.testBit k<;>simp<;>omega
theorem Vw{w:Nat}(hw:w<=12){X Z P k:Nat}(hX:X<2^w)(hZ:Z<2^w)(hk:k<2^w):nv (nf (mk w X Z P)) k=Da P X Z k w%4:=by
 have hp:2^w<=4096:=js qaj hw;rw[df];unfold nv;have h1:=xS (X:=X) (Z:=Z) (X':=k) (Z':=0) qad qad;rw[Nat.mul_zero,Lq]at h1;dsimp only;rw[h1];obtain⟨d,hd⟩:∃ d,12=w+d:=⟨12-w,by omega⟩
 have e1:ig 12 (X &&& Z)=ig w (X &&& Z):=by rw[hd,oe (J1 X hZ)]
 have e2:ig 12 (Z &&& k)=ig w (Z &&& k):=by rw[hd,oe (J1 Z hk)]
 rw[e1,e2];unfold Da;by_cases h:ig w (Z &&& k)%2=1
 ·rw[decide_eq_true h];show(_+2*1)%4=_;omega
 ·rw[decide_eq_false h];show(_+2*0)%4=_;omega
theorem Xm:aq Tryz.f175=true:=ar
theorem CZ{w X Z P k:Nat}(hw:w<=12)(hX:X<2^w)(hZ:Z<2^w)(hP:P<4)(hk:k<2^w):PC Pr GG 175 [(mk w X Z P).d,iD k] (.tup [iD (k^^^X:Nat),iD (Da P X Z k w%4:Nat)]):=by
 have hp:2^w<=4096:=js qaj hw;refine ae pok Tryz.func175 Xm ?_;conv=>whnf
 repeat' first|((first|refine O6.mk _ rfl ?_|refine O8.mk _ aK ?_|refine aJ ny ?_|refine HpP.force ?_);conv=>whnf)|(intro t ht;cases t<;>conv=>whnf)
 refine ax pok (fun i=>⟨[(1,.d (iD (IG X k i:Nat))),(2,.ptr 0 4 0 0),(6,.d (iD (Da P X Z k i:Nat))),(7,.d (iD i))],[(0,some (.arr 4 [[.d (iD w),.d (iD X),.d (iD Z),.d (iD P)]]))],1⟩) (w) (fun _=>True) (trivial) ?_ ar ?_ ?_
 ·refine ah cW ?_ ?_ trivial
  ·repeat' first|exact trivial|refine⟨⟨by first|rfl|assumption|exact congrArg (fun n:Nat=>AV.d (iD n)) (show k=IG X k 0 by unfold IG;rw[Nat.pow_zero,E1,zF])|exact congrArg (fun n:Nat=>AV.d (iD n)) (show P=Da P X Z k 0 from rfl),rfl⟩,?_⟩
  ·exact lZ
 ·intro i A_i h_i I_i N_i;have e_i:aD .i64 (i:Int) 1=((i+1:Nat):Int):=ak eH;have hi12:i<12:=qad;have hkl:IG X k i<4096:=uU (pn hk (JS (Nat.mod_le _ _) hX)) hp;have hbv:dI .i64 (iX .i64 (IG X k i:Nat) (i:Int)) 1=if(IG X k i).testBit i then 1 else 0:=dX qad qad
  have hst:=NG hkl hi12;have hmx:=Tk X i;have hk1:IG X k (i+1)=IG X k i^^^(if X.testBit i then 2^i else 0):=by unfold IG;rw[hmx,py]
  have hl:=jb (G:=GG) w X Z P i qad;rw[eG qad qad qad]at hl;have p1:=xk i (X &&& Z);have p2:=xk i (Z &&& k);have hn1:Da P X Z k (i+1)=Da P X Z k i+(X.testBit i&&Z.testBit i).toNat+2*(Z.testBit i&&k.testBit i).toNat:=by
   unfold Da;simp only[ig,Fo];omega
  rw[Sa]at hbv hst;have hnl:Da P X Z k i<=40:=by unfold Da;omega
  generalize IG X k i=kk at hbv hst hk1 hkl;generalize Da P X Z k i=nn at hn1 hnl;generalize IG X k (i+1)=kk' at hk1 N_i;generalize Da P X Z k (i+1)=nn' at hn1 N_i;have a0:aD .i64 (nn:Int) (fH .i64 2 0)=((nn:Nat):Int):=ak (b:=0) qad;have a1:aD .i64 (nn:Int) (fH .i64 2 1)=((nn+2:Nat):Int):=ak (b:=2) qad;have b0:aD .i64 (aD .i64 (nn:Int) 1) (fH .i64 2 0)=((nn+1:Nat):Int):=by
   rw[show aD .i64 (nn:Int) 1=((nn+1:Nat):Int) from ak (b:=1) qad];exact ak (b:=0) qad
  have b1:aD .i64 (aD .i64 (nn:Int) 1) (fH .i64 2 1)=((nn+3:Nat):Int):=by
   rw[show aD .i64 (nn:Int) 1=((nn+1:Nat):Int) from ak (b:=1) qad];exact ak (b:=2) qad
  cases hbx:X.testBit i<;>cases hbz:Z.testBit i<;>cases hbk:k.testBit i;all_goals
   simp only[hbx,hbz,hbk,Bool.and_true,Uw,Bool.true_and,Bool.false_and,Bool.and_self,QZ,if_true,if_false,Bool.toNat_true,Bool.toNat_false,zF]at hl hbv hst hk1 hn1;conv=>whnf
   repeat (refine O6.mk _ rfl ?_;conv=>whnf)
   intro t ht;cases t
   ·exact bu
   conv=>whnf
   repeat' first|((first|refine O6.mk _ rfl ?_|refine O8.mk _ aK ?_|refine aJ ny ?_|rw[hbv]|refine aa hl ?_|refine ab hl ?_|refine aQ ?_|refine bF rfl ?_|refine HpP.force ?_);conv=>whnf)|(intro t ht;cases t<;>conv=>whnf)
   refine N_i _ ?_ ?_
   ·exact cY
   ·refine ah cW ?_ ?_ trivial
    ·repeat' first|exact trivial|refine⟨⟨by first|rfl|assumption|exact congrArg (fun n=>AV.d (iD n)) e_i|exact congrArg (fun n=>AV.d (iD n)) (hst.trans (congrArg (fun n:Nat=>(n:Int)) hk1.symm))|exact congrArg (fun n:Nat=>AV.d (iD n)) hk1.symm|exact congrArg (fun n=>AV.d (iD n)) (a0.trans qad)|exact congrArg (fun n=>AV.d (iD n)) (a1.trans qad)|exact congrArg (fun n=>AV.d (iD n)) (b0.trans qad)|exact congrArg (fun n=>AV.d (iD n)) (b1.trans qad)|exact congrArg (fun n:Nat=>AV.d (iD n)) (show nn=nn' by omega)|fail,rfl⟩,?_⟩
    ·exact lZ
 ·intro A_last I_last;have e1:IG X k w=k^^^X:=by unfold IG;rw[Uz hX]
  have e2:(Da P X Z k w:Int).tmod 4=((Da P X Z k w%4:Nat):Int):=qer;rw[<- e1];conv=>whnf
  repeat (refine O6.mk _ rfl ?_;conv=>whnf)
  intro t ht;cases t;rotate_left
  ·exact bu
  conv=>whnf
  repeat' first|((first|refine O6.mk _ rfl ?_|refine O8.mk _ aK ?_|refine aJ ny ?_|rw[e2]|refine HpP.force ?_);conv=>whnf)|(intro t ht;cases t<;>conv=>whnf)
  exact fin rfl
end Go.Tz
namespace Go.Tz
open Go Go.AL Go.Proofs Go.Ma
theorem Dw{G:Nat->Option (List D)}{P:Program}{n b:Nat}{ms:List Nat}{c:Code}{st:St}{k k':Exit->St->Prop}(h:P2 P G n b ms c st k)(hk:∀ e s,k e s->k' e s):P2 P G n b ms c st k':=by
 refine⟨fun r=>?_⟩;intro X C a hR hX;cases h with
 | mk h =>
  refine wpIn_mono (h r X C a hR hX) ?_;rintro e a' w' ⟨st',ms',C',rfl,⟨hm,q⟩,h3,h4⟩;exact⟨st',ms',C',rfl,⟨hm,hk _ _ q⟩,h3,h4⟩
theorem Dv{G:Nat->Option (List D)}{P:Program}{n b:Nat}{ms:List Nat}{c:Code}{st:St}{k:Exit->St->Prop}{ρ:Type}(J:ρ->St)(Q:ρ->Prop)(x:Exit)(h:P2 P G n b ms c st fun e s=>∃ r,Q r/\e=x/\Sub G b ms s (J r))(hk:∀ r,Q r->k x (J r)):P2 P G n b ms c st k:=by
 refine kf (Dw h ?_);rintro e s ⟨r,q,rfl,hs⟩;exact⟨J r,hs,hk r q⟩
theorem Gw{w:Nat}(hw:w<=12){l:List Ps}(hlen:l.length=w)(hv:∀ q,q∈l->Vl w q):∀ n,(∀ j,j<w->Vl w ((ld l n).1 j))/\(ld l n).2<=w
 | 0=>⟨fun j hj=>by simp only[ld,jI,ew (show j<l.length by omega),Hw];exact hv _ (ey _),dW _⟩
 | n+1=>by
  obtain⟨q1,q2⟩:=Gw hw hlen hv n;simp only[ld,DP];split
  ·exact⟨q1,q2⟩
  ·rename_i f hf;rw[hlen]at hf⊢;obtain⟨p3,p2,_⟩:=fv hf;have p4:(ld l n).2<w:=qad;exact⟨MZ hw (pk q1 p4 p2) p4,p4⟩
theorem MC:aq Tryz.f174=true:=ar
theorem Gx{w:Nat}(hw:1<=w/\w<=12)(l:List Ps)(t:Bool)(hlen:l.length=w)(hv:∀ q,q∈l->Vl w q):bq Pr GG 174 [.d (cf w l t)] [] 0 fun v H _=>v = .sl 2 4 0 w w false/\H.get 2=some (ap 4 ((List.range w).map fun j=>Ps.l ((ld l w).1 j))):=by
 refine bi pok Tryz.func174 MC ?_;conv=>whnf
 repeat' first|((first|refine O6.mk _ rfl ?_|refine O8.mk _ aK ?_|refine aJ (by first|exact ko _|exact⟨rfl,by decide,by simp only[ef,jj];omega⟩|assumption|exact⟨by kernel_rfl,rfl⟩|decide|omega|exact⟨rfl,by decide,by simp only[ef,jj];omega⟩) ?_|rw[rY]|refine HpP.force ?_);conv=>whnf)|(intro t ht;cases t<;>conv=>whnf)
 have hpv:=Gw hw.2 hlen hv;refine ax pok (fun n=>⟨[(1,.ptr 0 2 0 0),(3,.sl 2 4 0 w w false),(4,.d (iD (ld l n).2)),(5,.d (iD n))],[(0,some (.arr 2 [[.d (iD w),.d (az l t)]])),(2,some (ap 4 ((List.range w).map fun j=>Ps.l ((ld l n).1 j))))],3⟩) (w) (fun _=>True) (trivial) ?_ ar ?_ ?_
 ·refine ah cW ?_ ?_ trivial
  ·repeat' first|exact trivial|refine⟨⟨by first|rfl|assumption|(show AV.sl 2 4 0 (0+_) (0+_) false=_;simp[hlen]),rfl⟩,?_⟩
  ·repeat' first|exact trivial|refine⟨⟨di rfl,_,rfl,by first|rfl|assumption|(rw[<- hlen];exact congrArg some (xn l)),by first|exact ay rfl|exact aj _ _ _|exact au rfl⟩,?_⟩
 ·intro n A_n h_n I_n N_n;have e_n:aD .i64 (n:Int) 1=((n+1:Nat):Int):=ak eH;obtain⟨hvr,han⟩:=hpv n;have hnx:ld l (n+1)=DP w n (ld l n):=by rw[<- hlen];rfl
  unfold DP at hnx;generalize hR:ld l n=s at hvr han hnx⊢;obtain⟨rf,a⟩:=s;dsimp only at hvr han hnx⊢;conv=>whnf
  repeat (refine O6.mk _ rfl ?_;conv=>whnf)
  intro t ht;cases t
  ·exact bu
  conv=>whnf
  repeat' first|((first|refine O6.mk _ rfl ?_|refine O8.mk _ aK ?_|refine aJ ny ?_|refine HpP.force ?_);conv=>whnf)|(intro t ht;cases t<;>conv=>whnf)
  refine Dv (fun r:Int=>⟨[(1,.ptr 0 2 0 0),(3,.sl 2 4 0 w w false),(4,.d (iD a)),(5,.d (iD n)),(6,.d (iD r))],[(0,some (.arr 2 [[.d (iD w),.d (az l t)]])),(2,some (ap 4 ((List.range w).map fun j=>Ps.l (rf j))))],3⟩) (fun r=>FND rf w (2*n) a r) (.exit 2) ?_ ?_
  ·refine fy (σ:={ p:Nat×Int // (p.2 = -1/\a<=p.1/\p.1<=w /\ ∀ j,a<=j->j<p.1->da (rf j) (2*n:Nat)=false) \/ ∃ f:Nat,p.2=f/\p.1=f+1/\a<=f/\f<w/\da (rf f) (2*n:Nat)=true /\ ∀ j,a<=j->j<f->da (rf j) (2*n:Nat)=false })
    (fun s=>⟨[(1,.ptr 0 2 0 0),(3,.sl 2 4 0 w w false),(4,.d (iD a)),(5,.d (iD n)),(6,.d (iD s.1.2)),(7,.d (iD s.1.1))],[(0,some (.arr 2 [[.d (iD w),.d (az l t)]])),(2,some (ap 4 ((List.range w).map fun j=>Ps.l (rf j))))],3⟩) (fun s=>if s.1.2<0 then w+1-s.1.1 else 0) ⟨(a,-1),.inl ⟨rfl,cF _,han,fun j h1 h2=>by omega⟩⟩ ?_ ar ?_
   ·exact nr
   ·rintro⟨⟨i,r⟩,hir⟩ A hA;dsimp only at hir hA⊢;rcases hir with⟨rfl,h1,h2,h3⟩|⟨f,rfl,rfl,h1,h2,h3,h4⟩
    ·have e1:aD .i64 (i:Int) 1=((i+1:Nat):Int):=ak (b:=1) qad;rcases wa1 i w with hi|hge
     rotate_left
     ·obtain rfl:i=w:=by omega
      conv=>whnf
      repeat (refine O6.mk _ rfl ?_;conv=>whnf)
      intro t ht;cases t;rotate_left
      ·exact bu
      conv=>whnf
      repeat' first|((first|refine O6.mk _ rfl ?_|refine O8.mk _ aK ?_|refine aJ ny ?_|refine HpP.force ?_);conv=>whnf)|(intro t ht;cases t<;>conv=>whnf)
      refine⟨-1,.inl ⟨rfl,h3⟩,rfl,?_⟩;refine ah cW ?_ ?_ trivial
      ·exact gn
      ·exact lZ
     have hb:=oO (rf i) n;conv=>whnf
     repeat (refine O6.mk _ rfl ?_;conv=>whnf)
     intro t ht;cases t
     ·exact bu
     conv=>whnf
     repeat' first|((first|refine O6.mk _ (by first|rfl|exact fj (f:=fun j=>Ps.l (rf j)) hi) ?_|refine O8.mk _ aK ?_|refine aJ TL ?_|refine HpP.force ?_);conv=>whnf)|(intro t ht;cases t<;>conv=>whnf)
     ·exact xt
     ·have hbf:da (rf i) (2*n:Nat)=false:=by
       rw[hb];exact decide_eq_false qf5
      refine hA _ ⟨(i+1,-1),.inl ⟨rfl,by show a<=i+1;omega,hi,fun j a1 a2=>?_⟩⟩ ?_ (by show(if(-1:Int)<0 then w+1-(i+1) else 0)<if(-1:Int)<0 then w+1-i else 0;rw[if_pos qaj,if_pos qaj];omega)
      ·have a2:j<i+1:=a2;by_cases e:j=i
       ·subst e;exact hbf
       ·exact h3 j a1 qad
      ·refine ah cW ?_ ?_ trivial
       ·exact qd8
       ·exact lZ
     ·have hbt:da (rf i) (2*n:Nat)=true:=by
       rw[hb];exact decide_eq_true qf5
      refine hA _ ⟨(i+1,i),.inr ⟨i,rfl,rfl,h1,hi,hbt,fun j a1 a2=>h3 j a1 a2⟩⟩ ?_ (by show(if(i:Int)<0 then w+1-(i+1) else 0)<if(-1:Int)<0 then w+1-i else 0;rw[if_neg qad,if_pos qaj];omega);refine ah cW ?_ ?_ trivial
      ·exact qd8
      ·exact lZ
    ·conv=>whnf
     repeat' first|((first|refine O6.mk _ rfl ?_|refine O8.mk _ aK ?_|refine aJ ny ?_|refine HpP.force ?_);conv=>whnf)|(intro t ht;cases t<;>conv=>whnf)
     ·exact qjf
     ·exact qjf
     ·exact lQ
  ·intro r hr;have hfo:=Vj hr;rcases hfo with⟨rfl,hfo⟩|⟨f,rfl,hf1,hf2,hfo⟩
   ·rw[hfo]at hnx;dsimp only at hnx;conv=>whnf
    repeat' first|((first|refine O6.mk _ rfl ?_|refine O8.mk _ aK ?_|refine aJ ny ?_|refine HpP.force ?_);conv=>whnf)|(intro t ht;cases t<;>conv=>whnf)
    ·exact xt
    ·refine N_n _ ?_ ?_
     ·exact cY
     ·refine ah cW ?_ ?_ trivial
      ·repeat' first|exact trivial|refine⟨⟨by first|rfl|assumption|exact congrArg (fun n=>AV.d (iD n)) e_n|(rw[hnx];rfl),rfl⟩,?_⟩
      ·exact VC
   ·rw[hfo]at hnx;dsimp only at hnx;have haN:a<w:=qad;have e6:aD .i64 (a:Int) 1=((a+1:Nat):Int):=ak (b:=1) qad;conv=>whnf
    repeat' first|((first|(refine O6.mk _ qc9 ?_)|refine O8.mk _ (by first|exact fr (x:=[_,_,_,_]) haN|exact fr (x:=[_,_,_,_]) hf2|(simp only[List.set,bU,List.take,List.drop,JV,uV,yf,List.length];rfl)|rfl) ?_|refine aJ TL ?_|refine HpP.force ?_);conv=>whnf)|(intro t ht;cases t<;>conv=>whnf)
    ·have hgv:=pk hvr haN hf2;have hsw:∀ j,(if j=f then [iD (rf a).w,iD (rf a).x,iD (rf a).z,iD (rf a).p] else if j=a then [iD (rf f).w,iD (rf f).x,iD (rf f).z,iD (rf f).p] else Ps.l (rf j))=Ps.l (bO (bn rf a f) a (2*n) 0 j):=by
      intro j;have e:bO (bn rf a f) a (2*n) 0 j=bn rf a f j:=by simp[bO]
      rw[e];unfold bn;by_cases j1:j=f<;>by_cases j2:j=a
      ·subst j1 j2;rw[if_pos rfl,if_pos rfl];rfl
      ·rw[if_pos j1,if_neg j2,if_pos j1];rfl
      ·rw[if_neg j1,if_pos j2,if_pos j2];rfl
      ·rw[if_neg j1,if_neg j2,if_neg j2,if_neg j1]
     generalize bn rf a f=g at hnx hgv hsw;refine ax pok (fun k=>⟨[(1,.ptr 0 2 0 0),(3,.sl 2 4 0 w w false),(4,.d (iD a)),(5,.d (iD n)),(8,.d (iD k))],[(0,some (.arr 2 [[.d (iD w),.d (az l t)]])),(2,some (ap 4 ((List.range w).map fun j=>Ps.l (bO g a (2*n) k j))))],3⟩) (w) (fun _=>True) (trivial) ?_ ar ?_ ?_
     ·refine ah cW ?_ ?_ trivial
      ·exact gn
      ·exact qcq
     ·intro k A_k h_k I_k N_k;have e_k:aD .i64 (k:Int) 1=((k+1:Nat):Int):=ak eH;have hra:=vZ g a (2*n) k;have hrk:=vf g a (2*n) k k (cF _);have hset:=@wc g a (2*n) k;have hsame:=@oT g a (2*n) k;have hb:=oO (g k) n;have hgk:=hgv k h_k;have hga:=hgv a haN;rw[<- hrk]at hgk hb;rw[<- hra]at hga;have ht2:=mF (G:=GG) (bO g a (2*n) k k) (bO g a (2*n) k a) (by rw[dr hgk];omega) (by rw[dr hgk,dr hga]);rw[<- hra,<- hrk]at hset;rw[<- hrk]at hsame;generalize bO g a (2*n) k=r at hra hrk hset hsame hb ht2 hgk hga;generalize hme:bc (r k) (r a)=m at ht2 hset;conv=>whnf
      repeat (refine O6.mk _ rfl ?_;conv=>whnf)
      intro t ht;cases t
      ·exact bu
      conv=>whnf
      repeat' first|((first|refine O6.mk _ qef ?_|refine O8.mk _ qc1 ?_|refine aJ TL ?_|refine aa ht2 ?_|refine ab ht2 ?_|refine HpP.force ?_);conv=>whnf)|(intro t ht;cases t<;>conv=>whnf)
      ·have hka:k=a:=by simp at ht;omega
       have e:bO g a (2*n) (k+1)=r:=hsame fun q=>q.1 hka;refine N_k _ ?_ ?_
       ·exact cY
       ·exact qit
      ·have e:bO g a (2*n) (k+1)=r:=by
        refine hsame fun q=>?_;rw[hb]at q;have:=of_decide_eq_true q.2;unfold gY at this;rw[this]at ht;cases ht
       refine N_k _ ?_ ?_
       ·exact cY
       ·exact qit
      ·have hka:k≠a:=by intro e;subst e;simp at *
       have e:=hset hka (by rw[hb];exact decide_eq_true qf5);have hblk:∀ j,(if j=k then [iD m.w,iD m.x,iD m.z,iD m.p] else Ps.l (r j))=Ps.l (bO g a (2*n) (k+1) j):=by
        intro j;rw[e];dsimp only;split<;>rfl
       refine N_k _ ?_ ?_
       ·exact cY
       ·refine ah cW ?_ ?_ trivial
        ·exact Jz
        ·exact qcn
     ·intro A_last I_last;conv=>whnf
      repeat (refine O6.mk _ rfl ?_;conv=>whnf)
      intro t ht;cases t;rotate_left
      ·exact bu
      conv=>whnf
      repeat' first|((first|refine O6.mk _ rfl ?_|refine O8.mk _ aK ?_|refine aJ ny ?_|refine HpP.force ?_);conv=>whnf)|(intro t ht;cases t<;>conv=>whnf)
      refine N_n _ ?_ ?_
      ·exact cY
      ·refine ah cW ?_ ?_ trivial
       ·repeat' first|exact trivial|refine⟨⟨by first|rfl|assumption|exact congrArg (fun n=>AV.d (iD n)) e_n|(rw[hnx];exact congrArg (fun n=>AV.d (iD n)) e6)|(rw[hnx];rfl),rfl⟩,?_⟩
       ·exact VC
    ·exact qfa
 ·intro A_last I_last;conv=>whnf
  repeat (refine O6.mk _ rfl ?_;conv=>whnf)
  intro t ht;cases t;rotate_left
  ·exact bu
  conv=>whnf
  repeat' first|((first|refine O6.mk _ rfl ?_|refine O8.mk _ aK ?_|refine aJ ny ?_|refine HpP.force ?_);conv=>whnf)|(intro t ht;cases t<;>conv=>whnf)
  exact fin ⟨rfl,rfl⟩
theorem KH{w:Nat}(hw:1<=w/\w<=12)(l:List Ps)(t:Bool)(hlen:l.length=w)(hv:∀ q,q∈l->Vl w q):PO Pr GG 174 [cf w l t] (.sl 0 4 0 w w false) [(0,some (ap 4 ((List.range w).map fun j=>Ps.l ((ld l w).1 j))))] 1:=by
 refine⟨bg Tryz.func174 MC,bk (Gx hw l t hlen hv) ?_⟩;rintro v H n ⟨rfl,hg⟩;refine⟨_,_,1,?_,rfl,rfl,rfl⟩;first|refine aO [(0,2)] ?_ ?_ ?_ trivial|refine aI [(0,2)] rfl rfl ?_ ?_ ?_ trivial
 ·exact gn
 ·exact qaw
 ·exact iI
end Go.Tz
namespace Go.Tz
open Go Go.AL Go.Proofs Go.Ma
def Qm(q:Ps)(k:Nat):Bool:=decide (q.x≠0)||decide (nv (nf q) k=0)
def rR(w:Nat)(rf:Nat->Ps)(k i:Nat):Bool:=(List.range i).all fun j=>Qm (rf j) k
theorem wC{w k:Nat}(hw:w<=12){q:Ps}(hq:Vl w q)(hk:k<2^w):PC Pr GG 175 [q.d,iD k] (.tup [iD (k^^^q.x.toNat:Nat),iD (nv (nf q) k:Nat)]):=by
 obtain⟨X,Z,P,rfl,h1,h2,h3⟩:=hq;rw[Vw hw h1 h2 hk];exact CZ hw h1 h2 h3 hk
theorem tst1{x:Int}{p:Bool}(h:(x != 0)=true):true=(true&&(decide (x≠0)||p)):=by
 have:x≠0:=uz;simp[this]
theorem tst2{x:Int}{k:Nat}{p:Prop}(h:(x != 0)=false)(h2:(((k^^^x.toNat:Nat):Int)==(k:Int))=false):p:=by
 have:x=0:=uz;subst this;simp at h2
theorem tst3{x:Int}{n:Nat}(h:(x != 0)=false)(h2:((n:Int)==0)=false):false=(true&&(decide (x≠0)||decide (n=0))):=by
 have h3:x=0:=uz;have h4:n≠0:=qf4;simp[h3,h4]
theorem tst4{x:Int}{n:Nat}(h2:((n:Int)==0)=true):true=(true&&(decide (x≠0)||decide (n=0))):=by
 have h4:n=0:=qf4;simp[h4]
theorem jW{sz N:Nat}{f g:Nat->List D}(h:∀ j,f j=g j):Blk.arr sz (((List.range N).map f).map fun el=>el.map AV.d)=ap sz ((List.range N).map g):=qgh
theorem Kk{sz N:Nat}{f g:Nat->List D}(h:∀ j,j<N->f j=g j):Blk.arr sz (((List.range N).map f).map fun el=>el.map AV.d)=ap sz ((List.range N).map g):=by
 have e:(List.range N).map f=(List.range N).map g:=xX fun j hj=>h j (cJ.1 hj);rw[e];rfl
theorem bp{b c:Bool}{k:Bool->Prop}(h:b=c)(hk:k c):∀ t,b=t->k t:=fun t e=>by
 have:c=t:=h.symm.trans e;exact this ▸ hk
def tgF(t:Bool):Nat->Bool
 | 0=>t
 | _+1=>false
theorem LX{rf:Nat->Ps}{lst a i:Nat}:fK lst ((List.range (min (i+1) a)).map rf)=if i<a then Nc (fK lst ((List.range (min i a)).map rf)) (rf i) else fK lst ((List.range (min i a)).map rf):=by
 by_cases h:i<a
 ·rw[if_pos h,show min (i+1) a=i+1 by omega,show min i a=i by omega,Fa,nh];unfold fK;rw[Lm];rfl
 ·rw[if_neg h,show min (i+1) a=a by omega,show min i a=a by omega]
theorem Va:aq Tryz.f91=true:=ar
theorem yg{w lst a:Nat}(hw:1<=w/\w<=12)(l:List Ps)(t:Bool)(hlen:l.length=w)(hv:∀ q,q∈l->Vl w q){rf:Nat->Ps}(hrf:(ld l w).1=rf)(ha:a<=w)
  (hlt:lst<2^w) (hT:rR w rf lst w=true) (hF:∀ k,k<lst->rR w rf k w=false) (hx:∀ j,j<w->((rf j).x=0 ↔ a<=j)) {L:List E} (hL:Good L) (hsup:oK L lst) (hgen:∀ j,j<w->Gen L (nf (rf j))) (hD:∀ i,i<=a->Dbl L w lst (fK lst ((List.range i).map rf))/\(fK lst ((List.range i).map rf)).2.length=2^i) :
  bq Pr GG 91 [.d (cf w l t)] [] 0 fun v H _=>∃ nm,v = .tup [.sl nm 1 0 (2^w) (2^w) true,.d (iD a)]/\H.get nm=some (ap 1 ((List.range (2^w)).map fun j=>[iD ((fK lst ((List.range a).map rf)).1 j)])):=by
 have hpt:=KH hw l t hlen hv;have hrv:=(Gw hw.2 hlen hv w).1;rw[hrf]at hpt hrv;have hp12:2^w<=4096:=js qaj hw.2;have hsh:cU .i64 1 (w:Int)=((2^w:Nat):Int):=cq qad;refine bi pok Tryz.func91 Va ?_;conv=>whnf
 repeat' first|((first|refine O6.mk _ rfl ?_|refine O8.mk _ aK ?_|refine aJ ny ?_|refine aY hpt ?_|refine HpP.force ?_);conv=>whnf)|(intro t ht;cases t<;>conv=>whnf)
 refine Dv (fun _:Unit=>⟨[(1,.ptr 0 2 0 0),(4,.sl 1 4 0 w w false),(5,.d (iD lst))],[(0,some (.arr 2 [[.d (iD w),.d (az l t)]])),(1,some (ap 4 ((List.range w).map fun j=>Ps.l (rf j))))],2⟩) (fun _=>True) (.exit 0) ?_ ?_
 ·refine ax pok (fun k=>⟨[(1,.ptr 0 2 0 0),(4,.sl 1 4 0 w w false),(5,.d (iD (if k=lst+1 then(lst:Int) else -1))),(6,.d (iD k))],[(0,some (.arr 2 [[.d (iD w),.d (az l t)]])),(1,some (ap 4 ((List.range w).map fun j=>Ps.l (rf j))))],2⟩) ((lst+1)) (fun _=>True) (trivial) ?_ ar ?_ ?_
  ·refine ah cW ?_ ?_ trivial
   ·exact gn
   ·repeat' first|exact trivial|refine⟨⟨di rfl,_,rfl,by first|rfl|assumption|(show some (Blk.ren _ (ap 4 _))=_;rw[aE]),by first|exact ay rfl|exact aj _ _ _|exact au rfl⟩,?_⟩
  ·intro k A_k h_k I_k N_k;have e_k:aD .i64 (k:Int) 1=((k+1:Nat):Int):=ak eH;have e5:(if k=lst+1 then(lst:Int) else -1) = -1:=if_neg qad;rw[e5];conv=>whnf
   repeat' first|((first|refine O6.mk _ rfl ?_|refine O8.mk _ aK ?_|refine aJ ny ?_|rw[hsh]|refine HpP.force ?_);conv=>whnf)|(intro t ht;cases t<;>conv=>whnf)
   ·exact absurd ht (by simp only[decide_eq_false_iff_not];omega)
   ·exact xt
   ·refine ax pok (fun i=>⟨[(1,.ptr 0 2 0 0),(4,.sl 1 4 0 w w false),(5,.d (iD (-1))),(6,.d (iD k)),(7,.d (.bool (rR w rf k i))),(8,.d (iD i))],[(0,some (.arr 2 [[.d (iD w),.d (az l t)]])),(1,some (ap 4 ((List.range w).map fun j=>Ps.l (rf j))))],2⟩) (w) (fun _=>True) (trivial) ?_ ar ?_ ?_
    ·exact nr
    ·intro i A_i h_i I_i N_i;have e_i:aD .i64 (i:Int) 1=((i+1:Nat):Int):=ak eH;have hpre:rR w rf k (i+1)=(rR w rf k i&&Qm (rf i) k):=by
      unfold rR;rw[Fa,List.all_append];simp
     have hfl:=wC hw.2 (hrv i h_i) (show k<2^w by omega);have htb:Qm (rf i) k=(decide ((rf i).x≠0)||decide (nv (nf (rf i)) k=0)):=rfl;have hxx:=(jv hw.2 (hrv i h_i)).2.2;generalize rR w rf k i=b at hpre;cases b;all_goals
      conv=>whnf
      repeat (refine O6.mk _ rfl ?_;conv=>whnf)
      intro t ht;cases t
      ·exact bu
      conv=>whnf
      repeat' first|((first|refine O6.mk _ qd1 ?_|refine O8.mk _ aK ?_|refine aJ TL ?_|refine aa hfl ?_|refine ab hfl ?_|refine HpP.force ?_);conv=>whnf)|(intro t ht;cases t<;>conv=>whnf)
      all_goals
       refine N_i _ ?_ ?_
       ·exact cY
       ·refine ah cW ?_ ?_ trivial
        ·repeat' first|exact trivial|refine⟨⟨by first|rfl|assumption|exact congrArg (fun n=>AV.d (iD n)) e_i|(refine congrArg (fun b=>AV.d (.bool b)) ?_;rw[hpre,htb];first|rfl|exact tst2 LH LH|exact tst3 LH LH|exact tst4 LH|exact tst1 LH),rfl⟩,?_⟩
        ·exact lZ
    ·intro A_last I_last;have hTk:rR w rf k w=decide (k=lst):=by
      by_cases e:k=lst
      ·rw[e,hT];simp
      ·rw[hF k qad];simp[e]
     have ek:aD .i64 (k:Int) 1=((k+1:Nat):Int):=e_k;by_cases e:k=lst
     ·rw[decide_eq_true e]at hTk;rw[hTk];conv=>whnf
      repeat (refine O6.mk _ rfl ?_;conv=>whnf)
      intro t ht;cases t;rotate_left
      ·exact bu
      conv=>whnf
      repeat' first|((first|refine O6.mk _ rfl ?_|refine O8.mk _ aK ?_|refine aJ ny ?_|refine HpP.force ?_);conv=>whnf)|(intro t ht;cases t<;>conv=>whnf)
      refine N_k _ ?_ ?_
      ·exact cY
      ·refine ah cW ?_ ?_ trivial
       ·repeat' first|exact trivial|refine⟨⟨by first|rfl|assumption|exact congrArg (fun n=>AV.d (iD n)) e_k|(rw[if_pos (show k+1=lst+1 by omega)];rw[<- e];rfl),rfl⟩,?_⟩
       ·exact lZ
     ·rw[decide_eq_false e]at hTk;rw[hTk];conv=>whnf
      repeat (refine O6.mk _ rfl ?_;conv=>whnf)
      intro t ht;cases t;rotate_left
      ·exact bu
      conv=>whnf
      repeat' first|((first|refine O6.mk _ rfl ?_|refine O8.mk _ aK ?_|refine aJ ny ?_|refine HpP.force ?_);conv=>whnf)|(intro t ht;cases t<;>conv=>whnf)
      refine N_k _ ?_ ?_
      ·exact cY
      ·refine ah cW ?_ ?_ trivial
       ·repeat' first|exact trivial|refine⟨⟨by first|rfl|assumption|exact congrArg (fun n=>AV.d (iD n)) e_k|(rw[if_neg (show ¬ k+1=lst+1 by omega)];rfl),rfl⟩,?_⟩
       ·exact lZ
  ·intro A_last I_last;rw[if_pos rfl];conv=>whnf
   repeat' first|((first|refine O6.mk _ rfl ?_|refine O8.mk _ aK ?_|refine aJ ny ?_|rw[hsh]|refine HpP.force ?_);conv=>whnf)|(intro t ht;cases t<;>conv=>whnf)
   ·exact qjv
   ·exact qjv
   ·exact lQ
 ·intro _ _;obtain⟨N,hN⟩:∃ N,N=2^w:=⟨_,rfl⟩
  rw[<- hN]at hsh hlt hp12⊢;conv=>whnf
  repeat' first|((first|refine O6.mk _ rfl ?_|refine O8.mk _ aK ?_|(refine aJ (by first|exact⟨mf _,rfl,by show 8*(((N:Nat):Int)).toNat<=281474976710656;rw[gx];omega,by decide,by decide⟩|assumption|exact⟨by kernel_rfl,rfl⟩|decide|omega|exact⟨rfl,by decide,by simp only[ef,jj];omega⟩) ?_)|rw[hsh]|refine HpP.force ?_);conv=>whnf)|(intro t ht;cases t<;>conv=>whnf)
  have hrow:∀ j,j<w->((rf j).x==0)=decide (a<=j):=fun j hj=>by
   rw[tV,beq_iff_eq,decide_eq_true_eq];exact hx j hj
  refine ax pok (fun k=>⟨[(4,.sl 1 4 0 w w false),(5,.d (iD lst)),(11,.sl 2 1 0 N N true),(12,.d (iD k))],[(1,some (ap 4 ((List.range w).map fun j=>Ps.l (rf j)))),(2,some (ap 1 ((List.range N).map fun j=>[iD (if j<k then -1 else 0)])))],3⟩) (N) (fun _=>True) (trivial) ?_ ar ?_ ?_
  ·refine ah cW ?_ ?_ trivial
   ·exact gn
   ·repeat' first|exact trivial|refine⟨⟨di rfl,_,rfl,by first|rfl|assumption|exact congrArg some (congrArg (Blk.arr 1) (by rw[gx,JD,pU];rfl)),by first|exact ay rfl|exact aj _ _ _|exact au rfl⟩,?_⟩
  ·intro k A_k h_k I_k N_k;have e_k:aD .i64 (k:Int) 1=((k+1:Nat):Int):=ak eH;have hst:∀ j,(if j=k then [iD (-1)] else [iD (if j<k then(-1:Int) else 0)])=[iD (if j<k+1 then(-1:Int) else 0)]:=fun j=>by
    by_cases e:j=k
    ·rw[if_pos e,if_pos qad]
    ·rw[if_neg e];have:(j<k+1) ↔ (j<k):=qad;simp only[this]
   conv=>whnf
   repeat (refine O6.mk _ rfl ?_;conv=>whnf)
   intro t ht;cases t
   ·exact bu
   conv=>whnf
   repeat' first|((first|refine O6.mk _ (by first|rfl|exact fj h_k) ?_|refine O8.mk _ (by first|exact fr (x:=[_]) h_k|(simp only[List.set,bU,List.take,List.drop,JV,uV,yf,List.length];rfl)|rfl) ?_|refine aJ TL ?_|refine HpP.force ?_);conv=>whnf)|(intro t ht;cases t<;>conv=>whnf)
   refine N_k _ ?_ ?_
   ·exact cY
   ·refine ah cW ?_ ?_ trivial
    ·exact Jz
    ·repeat' first|exact trivial|refine⟨⟨di rfl,_,rfl,by first|rfl|assumption|exact congrArg some (jW hst),by first|exact ay rfl|exact aj _ _ _|exact au rfl⟩,?_⟩
  ·intro A_last I_last;have hst:∀ j,j<N->(if j=lst then [iD 0] else [iD (if j<N then(-1:Int) else 0)])=[iD ((fK lst ((List.range 0).map rf)).1 j)]:=fun j hj=>by
    show _=[iD (if j=lst then(0:Int) else -1)];by_cases e:j=lst
    ·rw[if_pos e,if_pos e]
    ·rw[if_neg e,if_neg e,if_pos hj]
   conv=>whnf
   repeat (refine O6.mk _ rfl ?_;conv=>whnf)
   intro t ht;cases t;rotate_left
   ·exact bu
   conv=>whnf
   repeat' first|((first|refine O6.mk _ (by first|rfl|exact fj hlt) ?_|refine O8.mk _ (by first|exact fr (x:=[_]) hlt|(simp only[List.set,bU,List.take,List.drop,JV,uV,yf,List.length];rfl)|rfl) ?_|refine aJ TL ?_|refine HpP.force ?_);conv=>whnf)|(intro t ht;cases t<;>conv=>whnf)
   refine ax pok (fun i=>⟨[(4,.sl 1 4 0 w w false),(11,.sl 2 1 0 N N true),(13,.sl 3 1 0 (fK lst ((List.range (min i a)).map rf)).2.length (fK lst ((List.range (min i a)).map rf)).2.length (decide (min i a=0))),(14,.d (iD (min i a:Nat))),(15,.d (iD i))],[(1,some (ap 4 ((List.range w).map fun j=>Ps.l (rf j)))),(2,some (ap 1 ((List.range N).map fun j=>[iD ((fK lst ((List.range (min i a)).map rf)).1 j)]))),(3,some (ap 1 (cS (fK lst ((List.range (min i a)).map rf)).2)))],4⟩) (w) (fun _=>True) (trivial) ?_ ar ?_ ?_
   ·refine ah cW ?_ ?_ trivial
    ·repeat' first|exact trivial|refine⟨⟨by first|rfl|assumption|(rw[Nat.zero_min];rfl),rfl⟩,?_⟩
    ·repeat' first|exact trivial|refine⟨⟨di rfl,_,rfl,by first|rfl|assumption|(rw[Nat.zero_min];exact congrArg some (Kk hst))|(rw[Nat.zero_min];rfl),by first|exact ay rfl|exact aj _ _ _|exact au rfl⟩,?_⟩
   ·intro i A_i h_i I_i N_i;have e_i:aD .i64 (i:Int) 1=((i+1:Nat):Int):=ak eH;have hnx:=LX (rf:=rf) (lst:=lst) (a:=a) (i:=i);obtain⟨hDi,hDl⟩:=hD (min i a) (Nat.min_le_right _ _);generalize fK lst ((List.range (min (i+1) a)).map rf)=s' at hnx N_i;generalize fK lst ((List.range (min i a)).map rf)=s at hnx hDi hDl⊢;by_cases hia:i<a
    ·rw[if_pos hia]at hnx;have hxe:((rf i).x==0)=false:=by rw[hrow i h_i];exact decide_eq_false qad
     have em:min i a=i:=qad;have em1:min (i+1) a=i+1:=qad;rw[em1]at N_i;rw[em]at hDl⊢;conv=>whnf
     repeat (refine O6.mk _ rfl ?_;conv=>whnf)
     intro t ht;cases t
     ·exact bu
     conv=>whnf
     repeat' first|((first|refine O6.mk _ qd1 ?_|refine O8.mk _ aK ?_|refine aJ TL ?_|refine bp hxe ?_|refine HpP.force ?_);conv=>whnf)|(intro t ht;cases t<;>conv=>whnf)
     clear em em1;generalize hT0:decide (i=0)=T;have hT1:decide (i+1=0)=false:=decide_eq_false qad;rw[hT1]at N_i;have hM:s.2.length<=2048:=by
      rw[hDl];exact js qaj (show i<=11 by omega)
     have hM1:0<s.2.length:=by rw[hDl];exact sk i
     have hrun:∀ j,Dbl L w lst ((s.2.reverse.take j).foldl (nl (rf i)) s)/\((s.2.reverse.take j).foldl (nl (rf i)) s).2=s.2++(s.2.reverse.take j).map (· ^^^ (rf i).x.toNat):=fun j =>
      Av hw.2 hL (hrv i h_i) (hgen i h_i) hsup _ s hDi fun c hc=>VT.1 (Ci hc)
     have hi1:cO .i64 ((s.2.length:Nat):Int) 1=((s.2.length:Nat):Int)-1-((0:Nat):Int):=qes;refine ax pok (fun j=>⟨[(4,.sl 1 4 0 w w false),(11,.sl 2 1 0 N N true),(13,.sl 3 1 0 (s.2.length+j) (s.2.length+j) (tgF T j)),(14,.d (iD (i+1:Nat))),(15,.d (iD i)),(16,.d (iD (((s.2.length:Nat):Int)-1-((j:Nat):Int))))],[(1,some (ap 4 ((List.range w).map fun j=>Ps.l (rf j)))),(2,some (ap 1 ((List.range N).map fun q=>[iD (((s.2.reverse.take j).foldl (nl (rf i)) s).1 q)]))),(3,some (ap 1 (cS ((s.2.reverse.take j).foldl (nl (rf i)) s).2)))],4⟩) (s.2.length) (fun _=>True) (trivial) ?_ ar ?_ ?_
     ·refine ah cW ?_ ?_ trivial
      ·repeat' first|exact trivial|refine⟨⟨by first|rfl|assumption|exact congrArg (fun n=>AV.d (iD n)) (ak (b:=1) qad)|exact congrArg (fun n=>AV.d (iD n)) hi1,rfl⟩,?_⟩
      ·repeat' first|exact trivial|refine⟨⟨di rfl,_,rfl,by first|rfl|assumption|rfl,by first|exact ay rfl|exact aj _ _ _|exact au rfl⟩,?_⟩
     ·intro j A_j h_j I_j N_j;have e_j:aD .i64 (j:Int) 1=((j+1:Nat):Int):=ak eH;obtain⟨hS,hSe⟩:=hrun j;have hk:((s.2.length:Nat):Int)-1-((j:Nat):Int)=((s.2.length-1-j:Nat):Int):=qad;have hk1:cO .i64 ((s.2.length-1-j:Nat):Int) 1=((s.2.length:Nat):Int)-1-((j+1:Nat):Int):=qes;have hjr:j<s.2.reverse.length:=by rw[wdz];exact h_j
      have hkl:s.2.length-1-j<s.2.length:=qad;have hce:s.2.reverse[j]=s.2[s.2.length-1-j]:=List.getElem_reverse hjr;have hcm:s.2[s.2.length-1-j]∈s.2:=ey hkl;have hstep:(s.2.reverse.take (j+1)).foldl (nl (rf i)) s=nl (rf i) ((s.2.reverse.take j).foldl (nl (rf i)) s) (s.2[s.2.length-1-j]):=by
       rw[aC hjr,Lm,hce];rfl
      have hfk:((cS ((s.2.reverse.take j).foldl (nl (rf i)) s).2).map fun el=>el.map AV.d)[0+((s.2.length-1-j:Nat):Int).toNat]?=some ([iD (s.2[s.2.length-1-j]:Nat)].map AV.d):=by
       rw[hSe,gx,jj];unfold cS;rw[nh,nh,VX (by simpa using hkl)];simp[ew hkl]
      have hcS:s.2[s.2.length-1-j]∈((s.2.reverse.take j).foldl (nl (rf i)) s).2:=by rw[hSe];exact ft.2 (.inl hcm)
      have hfl0:(cS ((s.2.reverse.take j).foldl (nl (rf i)) s).2).length=s.2.length+j:=by
       rw[hSe];unfold cS;rw[ef,LN,ef,BZ,wdz];omega
      rw[hk];generalize s.2.length-1-j=k at hk hk1 hkl hce hcm hstep hfk hcS⊢;generalize s.2[k]=c at hce hcm hstep hfk hcS;generalize (s.2.reverse.take (j+1)).foldl (nl (rf i)) s=S' at hstep N_j;generalize (s.2.reverse.take j).foldl (nl (rf i)) s=S at hS hSe hstep hfk hcS hfl0⊢;obtain⟨g,g1,g2,g3⟩:=hS.mem c hcS;have hv4:=tu g lst;generalize nv g lst=v0 at g3 hv4;have hcN:=hS.lt c hcS;have hfl:=wC hw.2 (hrv i h_i) hcN;have hto:c^^^(rf i).x.toNat<N:=by rw[hN];exact pn hcN (jv hw.2 (hrv i h_i)).2.1
      rw[<- hN]at hcN;have hn4:=tu (nf (rf i)) c;have hS':∀ q,(if q=c^^^(rf i).x.toNat then [iD ((v0+nv (nf (rf i)) c)%4:Nat)] else [iD (S.1 q)])=[iD (S'.1 q)]:=fun q=>by
       rw[hstep];show _=[iD (if q=c^^^(rf i).x.toNat then(S.1 c+nv (nf (rf i)) c)%4 else S.1 q)];by_cases e:q=c^^^(rf i).x.toNat
       ·rw[if_pos e,if_pos e,g3];rfl
       ·rw[if_neg e,if_neg e]
      have hS2:cS S'.2=cS S.2++[[iD (c^^^(rf i).x.toNat:Nat)]]:=by
       rw[hstep];show cS (S.2++[c^^^(rf i).x.toNat])=_;simp[cS]
      generalize nv (nf (rf i)) c=n at hfl hn4 hS';generalize c^^^(rf i).x.toNat=to at hfl hto hS' hS2;have hadd:aD .i64 (v0:Int) (n:Int)=((v0+n:Nat):Int):=ak qad;have hmod:((v0+n:Nat):Int).tmod 4=(((v0+n)%4:Nat):Int):=qer;have hgc:(fun q=>[iD (S.1 q)]) c=[iD (v0:Nat)]:=by dsimp only;rw[g3]
      clear hstep g3;generalize cS S.2=F at hfk hfl0 hS2⊢;generalize cS S'.2=F' at hS2 N_j;conv=>whnf
      repeat (refine O6.mk _ rfl ?_;conv=>whnf)
      intro t ht;cases t
      ·exact bu
      conv=>whnf
      repeat' first|((first|refine O6.mk _ (by first|rfl|exact hfk|exact fj (f:=fun j=>Ps.l (rf j)) h_i|exact dh (x:=[_]) hcN hgc|exact fj hto) ?_|refine O8.mk _ (by first|exact fr (x:=[_]) hto|(simp only[List.set,bU,List.take,List.drop,JV,uV,yf,List.length];rfl)|rfl) ?_|(refine aJ (by first|exact⟨mf _,by omega⟩|exact cF _|exact⟨by rw[ef];exact hfl0,by decide,by show(2*(s.2.length+j+1)+192)*8<=281474976710656;omega⟩|assumption|exact⟨by kernel_rfl,rfl⟩|decide|omega|exact⟨rfl,by decide,by simp only[ef,jj];omega⟩) ?_)|refine aa hfl ?_|refine ab hfl ?_|rw[hadd]|rw[hmod]|rw[hJ]|refine HpP.force ?_);conv=>whnf)|(intro t ht;cases t<;>conv=>whnf)
      refine N_j _ ?_ ?_
      ·exact cY
      ·first|refine aO [(3,5)] ?_ ?_ ?_ trivial|refine aI [(3,5)] rfl rfl ?_ ?_ ?_ trivial
       ·repeat' first|exact trivial|refine⟨⟨by first|rfl|assumption|exact congrArg (fun n=>AV.d (iD n)) e_j|exact congrArg (fun n=>AV.d (iD n)) hk1,rfl⟩,?_⟩
       ·repeat' first|exact trivial|refine⟨⟨di rfl,_,rfl,by first|rfl|assumption|exact aw rfl (by first|rfl|assumption|exact aw rfl qgr|exact aw rfl (congrArg some (jW hS'))|exact congrArg some (jW hS'))|exact aw rfl qgr|exact aw rfl (congrArg some (jW hS'))|exact congrArg some (jW hS'),by first|exact ay rfl|exact aj _ _ _|exact au rfl⟩,?_⟩
       ·exact iI
     ·intro A_last I_last;have hlast:=(hrun s.2.length).2;have hrl:s.2.reverse.take s.2.length=s.2.reverse:=pT (by rw[wdz];exact cF _);have hkm:((s.2.length:Nat):Int)-1-((s.2.length:Nat):Int) = -1:=qad;have hs':s'=s.2.reverse.foldl (nl (rf i)) s:=hnx;rw[hrl]at hlast⊢;rw[hkm];rw[<- hs']at hlast⊢;have hl2:s'.2.length=s.2.length+s.2.length:=by rw[hlast,LN,ef,wdz]
      have htg:tgF T s.2.length=false:=by
       obtain⟨m,hm⟩:∃ m,s.2.length=m+1:=⟨s.2.length-1,by omega⟩
       rw[hm];rfl
      rw[htg,<- hl2];conv=>whnf
      repeat (refine O6.mk _ rfl ?_;conv=>whnf)
      intro t ht;cases t;rotate_left
      ·exact bu
      conv=>whnf
      repeat' first|((first|refine O6.mk _ rfl ?_|refine O8.mk _ aK ?_|refine aJ ny ?_|refine HpP.force ?_);conv=>whnf)|(intro t ht;cases t<;>conv=>whnf)
      refine N_i _ ?_ ?_
      ·exact cY
      ·exact yv
    ·rw[if_neg hia]at hnx;subst hnx;have hxe:((rf i).x==0)=true:=by rw[hrow i h_i];exact decide_eq_true qad
     have em:min (i+1) a=min i a:=qad;rw[em]at N_i;conv=>whnf
     repeat (refine O6.mk _ rfl ?_;conv=>whnf)
     intro t ht;cases t
     ·exact bu
     conv=>whnf
     repeat' first|((first|refine O6.mk _ qd1 ?_|refine O8.mk _ aK ?_|refine aJ TL ?_|refine bp hxe ?_|refine HpP.force ?_);conv=>whnf)|(intro t ht;cases t<;>conv=>whnf)
     refine N_i _ ?_ ?_
     ·exact cY
     ·exact yv
   ·intro A_last I_last;rw[show min w a=a by omega];conv=>whnf
    repeat (refine O6.mk _ rfl ?_;conv=>whnf)
    intro t ht;cases t;rotate_left
    ·exact bu
    conv=>whnf
    repeat' first|((first|refine O6.mk _ rfl ?_|refine O8.mk _ aK ?_|refine aJ ny ?_|refine HpP.force ?_);conv=>whnf)|(intro t ht;cases t<;>conv=>whnf)
    refine fin ⟨2,rfl,?_⟩;rfl
theorem zQ{w lst a:Nat}(hw:1<=w/\w<=12)(l:List Ps)(t:Bool)(hlen:l.length=w)(hv:∀ q,q∈l->Vl w q){rf:Nat->Ps}(hrf:(ld l w).1=rf)(ha:a<=w)
  (hlt:lst<2^w) (hT:rR w rf lst w=true) (hF:∀ k,k<lst->rR w rf k w=false) (hx:∀ j,j<w->((rf j).x=0 ↔ a<=j)) {L:List E} (hL:Good L) (hsup:oK L lst) (hgen:∀ j,j<w->Gen L (nf (rf j))) (hD:∀ i,i<=a->Dbl L w lst (fK lst ((List.range i).map rf))/\(fK lst ((List.range i).map rf)).2.length=2^i) :
  PO Pr GG 91 [cf w l t] (.tup [.sl 0 1 0 (2^w) (2^w) true,.d (iD a)]) [(0,some (ap 1 ((List.range (2^w)).map fun j=>[iD ((fK lst ((List.range a).map rf)).1 j)])))] 1:=by
 refine⟨bg Tryz.func91 Va,bk (yg hw l t hlen hv hrf ha hlt hT hF hx hL hsup hgen hD) ?_⟩;rintro v H n ⟨nm,rfl,hg⟩;refine⟨_,_,1,?_,rfl,rfl,rfl⟩;first|refine aO [(0,nm)] ?_ ?_ ?_ trivial|refine aI [(0,nm)] rfl rfl ?_ ?_ ?_ trivial
 ·exact gn
 ·exact qaw
 ·exact iI
end Go.Tz
namespace Go.Tz
open Go Go.AL Go.Proofs Go.Ma
theorem UQ:aq Tryz.f19=true:=ar
abbrev pv(val:Nat->Option Nat)(m N:Nat):List (List D):=(List.range N).map fun b=>J9 (val b) m
theorem EU{val:Nat->Option Nat}{m k:Nat}:pv val m (k+1)=pv val m k++[J9 (val k) m]:=by
 unfold pv;rw[Fa,nh];rfl
theorem Lh{w lst a:Nat}{f:Nat->Int}(hw:1<=w/\w<=12)(l:List Ps)(t:Bool)(ha:a<=12)(hlt:lst<2^w)(h91:PO Pr GG 91 [cf w l t] (.tup [.sl 0 1 0 (2^w) (2^w) true,.d (iD a)]) [(0,some (ap 1 ((List.range (2^w)).map fun j=>[iD (f j)])))] 1)
  (hf:∀ k,k<2^w->f k = -1 \/ ∃ p:Nat,p<4/\f k=p) (h0:f lst=0) (h1:∀ k,k<lst->f k = -1) :
  bq Pr GG 19 [.d (cf w l t)] [] 0 fun v H _=>∃ nm,v = .sl nm 5 0 (2^w) (2^w) false/\H.get nm=some (ap 5 (pv (ns f) a (2^w))):=by
 have hp12:2^w<=4096:=js qaj hw.2;obtain⟨N,hN⟩:∃ N,N=2^w:=⟨_,rfl⟩
 rw[<- hN]at hlt h91 hf hp12⊢;have hr:=C4 ha;refine bi pok Tryz.func19 UQ ?_;conv=>whnf
 repeat' first|((first|refine O6.mk _ rfl ?_|refine O8.mk _ aK ?_|refine aJ ny ?_|refine aY h91 ?_|refine aa hr ?_|refine ab hr ?_|refine HpP.force ?_);conv=>whnf)|(intro t ht;cases t<;>conv=>whnf)
 refine ax pok (fun k=>⟨[(3,.sl 1 1 0 N N true),(5,.ptr 2 5 0 0),(7,.d (iD (if k<=lst then -1 else 0))),(8,.sl 3 5 0 k k false),(9,.d (iD k))],[(1,some (ap 1 ((List.range N).map fun j=>[iD (f j)]))),(2,some (.arr 5 [(J9 (some 0) a).map AV.d])),(3,some (ap 5 (pv (ns f) a k)))],4⟩) (N) (fun _=>True) (trivial) ?_ ar ?_ ?_
 ·refine Sub.trans (fB (t:=8) (S:=5) (dW _) rfl) ?_;refine ah cW ?_ ?_ trivial
  ·repeat' first|exact trivial|refine⟨⟨by first|rfl|assumption|(rw[if_pos (dW _)];rfl),rfl⟩,?_⟩
  ·repeat' first|exact trivial|refine⟨⟨di rfl,_,rfl,by first|rfl|assumption|(show some (Blk.ren _ (ap 1 _))=_;rw[aE]),by first|exact ay rfl|exact aj _ _ _|exact au rfl⟩,?_⟩
 ·intro k A_k h_k I_k N_k;have e_k:aD .i64 (k:Int) 1=((k+1:Nat):Int):=ak eH;have hvs:=EU (val:=ns f) (m:=a) (k:=k);have hvl:(pv (ns f) a k).length=k:=aR;have hq:(2*(k+1)+192)*40<=281474976710656:=qad;rcases hf k qad with e|⟨p,hp,e⟩
  ·have hv:ns f k=none:=by unfold ns;rw[e];rfl
   rw[hv]at hvs;have hk1:(if k+1<=lst then(-1:Int) else 0)=if k<=lst then -1 else 0:=by
    by_cases q:k=lst
    ·rw[q,h0]at e;cases e
    ·have:(k+1<=lst) ↔ (k<=lst):=by omega
     simp only[this]
   rw[hk1]at N_k;have hgk:(fun j=>[iD (f j)]) k=[iD (-1)]:=by dsimp only;rw[e]
   generalize pv (ns f) a k=V at hvs hvl⊢;generalize pv (ns f) a (k+1)=V' at hvs N_k;generalize (if k<=lst then(-1:Int) else 0)=fi at N_k⊢;conv=>whnf
   repeat (refine O6.mk _ rfl ?_;conv=>whnf)
   intro t ht;cases t
   ·exact bu
   conv=>whnf
   repeat' first|((first|refine O6.mk _ qen ?_|refine O8.mk _ aK ?_|refine aJ qbo ?_|refine bp (show decide ((-1:Int)<0)=true from rfl) ?_|rw[hJ]|refine HpP.force ?_);conv=>whnf)|(intro t ht;cases t<;>conv=>whnf)
   refine N_k _ ?_ ?_
   ·exact cY
   ·first|refine aO [(3,5)] ?_ ?_ ?_ trivial|refine aI [(3,5)] rfl rfl ?_ ?_ ?_ trivial
    ·exact Jz
    ·exact qat
    ·exact iI
  ·have hlk:lst<=k:=by
    rcases wa1 k lst with q|q
    ·have:=h1 k q;omega
    ·exact q
   have hv:ns f k=some p:=by unfold ns;rw[e,if_neg qad];rfl
   rw[hv]at hvs;have hk1:(if k+1<=lst then(-1:Int) else 0)=0:=if_neg qad;rw[hk1]at N_k;have hgk:(fun j=>[iD (f j)]) k=[iD (p:Nat)]:=by dsimp only;rw[e]
   have hom:PC Pr GG 94 [iD (2*(4+p):Nat)] (uE (some p) 0):=by
    have:=Tp (q:=4+p) qad
    rwa [show(4+p)%4=p by omega]at this
   have hmu:=mul93 hp ha;have e4:aD .i64 4 (p:Int)=((4+p:Nat):Int):=ak (a:=4) qad;have e5:cO .i64 ((4+p:Nat):Int) 0=((4+p:Nat):Int):=iY (b:=0) qad qad;have e6:fH .i64 2 ((4+p:Nat):Int)=((2*(4+p):Nat):Int):=fk (a:=2) qad;have hpn:decide ((p:Int)<0)=false:=decide_eq_false qad;generalize pv (ns f) a k=V at hvs hvl⊢;generalize pv (ns f) a (k+1)=V' at hvs N_k;by_cases q:k=lst
   ·rw[if_pos qad];have IR:p=0:=by rw[q,h0]at e;omega
    subst IR;conv=>whnf
    repeat (refine O6.mk _ rfl ?_;conv=>whnf)
    intro t ht;cases t
    ·exact bu
    conv=>whnf
    repeat' first|((first|refine O6.mk _ qen ?_|refine O8.mk _ aK ?_|refine aJ qbo ?_|refine bp (show decide ((-1:Int)<0)=true from rfl) ?_|refine bp hpn ?_|rw[e4]|rw[e5]|rw[e6]|refine aa hom ?_|refine ab hom ?_|refine aa hmu ?_|refine ab hmu ?_|rw[hJ]|refine HpP.force ?_);conv=>whnf)|(intro t ht;cases t<;>conv=>whnf)
    refine N_k _ ?_ ?_
    ·exact cY
    ·exact qi2
   ·rw[if_neg qad];conv=>whnf
    repeat (refine O6.mk _ rfl ?_;conv=>whnf)
    intro t ht;cases t
    ·exact bu
    conv=>whnf
    repeat' first|((first|refine O6.mk _ qen ?_|refine O8.mk _ aK ?_|refine aJ qbo ?_|refine bp (show decide ((0:Int)<0)=false from rfl) ?_|refine bp hpn ?_|rw[e4]|rw[e5]|rw[e6]|refine aa hom ?_|refine ab hom ?_|refine aa hmu ?_|refine ab hmu ?_|rw[hJ]|refine HpP.force ?_);conv=>whnf)|(intro t ht;cases t<;>conv=>whnf)
    refine N_k _ ?_ ?_
    ·exact cY
    ·exact qi2
 ·intro A_last I_last;conv=>whnf
  repeat (refine O6.mk _ rfl ?_;conv=>whnf)
  intro t ht;cases t;rotate_left
  ·exact bu
  conv=>whnf
  repeat' first|((first|refine O6.mk _ rfl ?_|refine O8.mk _ aK ?_|refine aJ ny ?_|refine HpP.force ?_);conv=>whnf)|(intro t ht;cases t<;>conv=>whnf)
  exact fin ⟨3,rfl,rfl⟩
theorem Qy{w lst a:Nat}{f:Nat->Int}(hw:1<=w/\w<=12)(l:List Ps)(t:Bool)(ha:a<=12)(hlt:lst<2^w)(h91:PO Pr GG 91 [cf w l t] (.tup [.sl 0 1 0 (2^w) (2^w) true,.d (iD a)]) [(0,some (ap 1 ((List.range (2^w)).map fun j=>[iD (f j)])))] 1)
  (hf:∀ k,k<2^w->f k = -1 \/ ∃ p:Nat,p<4/\f k=p) (h0:f lst=0) (h1:∀ k,k<lst->f k = -1):PC Pr GG 19 [cf w l t] (.sl (pv (ns f) a (2^w)) false):=by
 refine de (bg Tryz.func19 UQ) (cu (Lh hw l t ha hlt h91 hf h0 h1) ?_);rintro v H _ ⟨nm,rfl,hg⟩;exact fg hg aR
end Go.Tz
namespace Go.Tz
open Go Go.AL Go.Proofs Go.Ma
theorem Hv{w:Nat}{l:List Ps}(h:SOk w l)(t:Bool):∃(lst m:Nat) (val:Nat->Option Nat),m<=12/\Amp (l.map nf) w lst m val/\PC Pr GG 19 [cf w l t] (.sl (pv val m (2^w)) false):=by
 have hw:1<=w/\w<=12:=⟨h.lo,h.hi⟩
 have hst:=cN h;obtain⟨pc,hp⟩:=OU h.hi h.len h.vl hst.good w (cF w);have hE:=Jx h.hi hp.pt;have hle:=hp.le;have hv:=fun j (hj:j<w)=>OW hp hj;obtain⟨s1,s2,s3⟩:=Oj h;generalize (ic w l w).2=lst at s1 s2 s3;have h91:=fun hT hF hx hgen hD=>zQ (lst:=lst) (a:=(ld l w).2) hw l t h.len h.vl rfl hp.le s2 hT hF hx hst.good s1 hgen hD;generalize ld l w=s at hp hE hle hv h91;obtain⟨rf,a⟩:=s;dsimp only at hp hE hle hv h91;have hx:∀ j,j<w->((rf j).x=0 ↔ a<=j):=fun j hj=>by
  obtain⟨_,_,x3⟩:=jv h.hi (hv j hj);constructor
  ·intro e;rcases wa1 j a with q|q
   ·exfalso;have hb:=hE.pt.bit (pc j,rf j) (bm.2 ⟨j,cJ.2 q,rfl⟩);have hb:(rf j).x.toNat.testBit (pc j)=true:=hb;rw[e]at hb;simp at hb
   ·exact q
  ·intro q;have:=hE.zero (rf j) (bm.2 ⟨j-a,cJ.2 qhs,by show rf (a+(j-a))=_;rw[show a+(j-a)=j by omega]⟩);rw[x3,this];rfl
 have hT:∀ k,rR w rf k w=true ↔ oK (l.map nf) k:=fun k=>by
  rw[TG h.hi hE];unfold rR;rw[lh];constructor
  ·intro q b hb;obtain⟨j,hj,rfl⟩:=bm.1 hb;have hj:j<w-a:=cJ.1 hj;have h1:=q (a+j) (cJ.2 qad);unfold Qm at h1;rw[decide_eq_false (by rw[(hx (a+j) qad).2 qad];simp)]at h1;simpa using h1
  ·intro q j hj;have hj:=cJ.1 hj;unfold Qm;rcases wa1 j a with c|c
   ·have hne:(rf j).x≠0:=fun e=>by have:=(hx j hj).1 e;omega
    rw[decide_eq_true hne];rfl
   ·have:=q (rf j) (bm.2 ⟨j-a,cJ.2 qhs,by show rf (a+(j-a))=_;rw[show a+(j-a)=j by omega]⟩);rw[decide_eq_true this];simp
 have hm:∀ j,j<w->rf j∈((List.range a).map fun j=>(pc j,rf j)).map (·.2)++paB w (rf,a):=fun j hj=>by
  rcases wa1 j a with q|q
  ·exact ft.2 (.inl (bm.2 ⟨_,bm.2 ⟨j,cJ.2 q,rfl⟩,rfl⟩))
  ·exact ft.2 (.inr (bm.2 ⟨j-a,cJ.2 qhs,by show rf (a+(j-a))=_;rw[show a+(j-a)=j by omega]⟩))
 have hgen:∀ j,j<w->Gen (l.map nf) (nf (rf j)):=fun j hj=>(hE.pt.same _).2 (bC hE.pt.good (bm.2 ⟨_,hm j hj,rfl⟩));have hA2:((List.range a).map fun j=>(pc j,rf j)).map (·.2)=(List.range a).map rf:=by rw[pU];rfl
 have hD:∀ i,i<=a->Dbl (l.map nf) w lst (fK lst ((List.range i).map rf))/\(fK lst ((List.range i).map rf)).2.length=2^i:=fun i hi=>by
  have:=Ad h.hi hst.good s1 s2 ((List.range a).map fun j=>(pc j,rf j)) i (fun b hb=>by
   obtain⟨j,hj,rfl⟩:=bm.1 hb;have hj:=cJ.1 hj;exact⟨hv j qad,hgen j qad⟩) B3
  have e:(((List.range a).map fun j=>(pc j,rf j)).take i).map (·.2)=(List.range i).map rf:=by
   rw[<- E0,List.take_range,pU,Uv hi];rfl
  rw[e]at this;exact⟨this.1,this.2.1⟩
 have hF:∀ k,k<lst->rR w rf k w=false:=fun k hk=>by
  cases e:rR w rf k w with
  | false=>rfl
  | true =>
   have:=s3 k ((hT k).1 e);omega
 obtain⟨am,ad⟩:=Rg h.hi hst.good hE s1 s2 fun k _ hk=>s3 k hk;rw[hA2]at am ad;have hlen:((List.range a).map fun j=>(pc j,rf j)).length=a:=aR;rw[hlen]at am;have h91':=h91 ((hT lst).2 s1) hF hx hgen hD;obtain⟨f1,f2⟩:=Kc hst.good am;have hf:∀ k,(fK lst ((List.range a).map rf)).1 k = -1 \/ ∃ p:Nat,p<4/\(fK lst ((List.range a).map rf)).1 k=p:=fun k=>by
  by_cases q:k∈(fK lst ((List.range a).map rf)).2
  ·obtain⟨g,_,_,g3⟩:=ad.mem k q;exact .inr ⟨_,tu g lst,g3⟩
  ·exact .inl (ad.out k q)
 refine⟨lst,a,_,by omega,am,Qy hw l t qad s2 h91' (fun k _=>hf k) ?_ fun k hk=>?_⟩
 ·unfold ns at f1;split at f1
  ·cases f1
  ·have:=ku f1;omega
 ·have h2:=f2 k hk;unfold ns at h2;split at h2
  ·rcases hf k with e|⟨p,_,e⟩
   ·exact e
   ·exact qad
  ·cases h2
end Go.Tz
namespace Go.Tz
open Go Go.AL Go.Proofs Go.Ma
def uI(a:Nat×Ps):List D:=[iD (a.1:Int),iD a.2.w,iD a.2.x,iD a.2.z,iD a.2.p]
abbrev F5(l:List (Nat×Ps))(t:Bool):D:=.sl (l.map uI) t
theorem N7:aq Tryz.f98=true:=ar
def ZT(q:Ps)(lst:Int):Int:=aD .i64 (aD .i64 q.p (Jl (IntKind.u64.wrap (dI .i64 q.x q.z)))) (fH .i64 2 (Jl (IntKind.u64.wrap (dI .i64 q.z lst))))
theorem ZU{w lst:Nat}(hw:w<=12){q:Ps}(hq:Vl w q)(hl:lst<2^w):∃ n:Nat,n<40/\ZT q lst=n/\n%4=nv (nf q) lst:=by
 have hp:2^w<=4096:=js qaj hw;obtain⟨X,Z,P,rfl,h1,h2,h3⟩:=hq;rw[Vw hw h1 h2 hl];obtain⟨d,hd⟩:∃ d,12=w+d:=⟨12-w,by omega⟩
 have e1:ig 12 (X &&& Z)=ig w (X &&& Z):=by rw[hd,oe (J1 X h2)]
 have e2:ig 12 (Z &&& lst)=ig w (Z &&& lst):=by rw[hd,oe (J1 Z hl)]
 have a1:X &&& Z<4096:=uU (J1 X h2) hp;have a2:Z &&& lst<4096:=uU (J1 Z hl) hp;have p1:=xk w (X &&& Z);have p2:=xk w (Z &&& lst);refine⟨Da P X Z lst w,by unfold Da;omega,?_,rfl⟩;unfold ZT mk;dsimp only;rw[ka qad qad,ka qad qad,Fd qad,Fd qad,AX a1,AX a2,e1,e2];unfold Da;generalize ig w (X &&& Z)=m at p1⊢;generalize ig w (Z &&& lst)=n at p2⊢;rw[ak qad,show fH .i64 2 (n:Int)=((2*n:Nat):Int) from fk (a:=2) qad,ak qad]
theorem Wh{w:Nat}(hw:w<=12):∀(A:List (Nat×Ps)) (s:Ps×Nat),(∀ a,a∈A->Vl w a.2)->Vl w s.1->s.2<2^w->Vl w (A.foldl Fe s).1/\(A.foldl Fe s).2<2^w
 | [],_,_,h1,h2=>⟨h1,h2⟩
 | a::A,s,hA,h1,h2=>by
  rw[VZ];refine Wh hw A _ (fun b hb=>hA b (eJ _ hb)) ?_ ?_<;>unfold Fe<;>split
  ·exact dy hw h1 (hA a aR)
  ·exact h1
  ·exact pn h2 (jv hw (hA a aR)).2.1
  ·exact h2
theorem ud{w:Nat}(hw:1<=w/\w<=12)(A:List (Nat×Ps))(t:Bool)(lst b:Nat)(hn:A.length<=12)(hl:lst<2^w)(hb:b<2^w)(hA:∀ a,a∈A->Vl w a.2/\a.1<12) :
  PC Pr GG 98 [F5 A t,iD lst,iD b,iD w] (uE (oC w A lst b) A.length):=by
 have hp:2^w<=4096:=js qaj hw.2;have hx:uK .i64 (lst:Int) (b:Int)=((lst^^^b:Nat):Int):=ke qad qad;have hu:lst^^^b<2^w:=pn hl hb;have hval:oC w A lst b=if(A.foldl Fe (⟨w,0,0,0⟩,lst^^^b)).2=0 then some (nv (nf (A.foldl Fe (⟨w,0,0,0⟩,lst^^^b)).1) lst) else none:=rfl
 rw[hval];clear hval;generalize lst^^^b=u at hx hu⊢;have hwy:=fun i=>Wh hw.2 (A.take i) (⟨w,0,0,0⟩,u) (fun a ha=>(hA a (Ci ha)).1) (BT w) hu;have hro:=B9 hn;refine ae pok Tryz.func98 N7 ?_;conv=>whnf
 repeat' first|((first|refine O6.mk _ rfl ?_|refine O8.mk _ aK ?_|rw[hx]|refine HpP.force ?_);conv=>whnf)
 refine ax pok (fun i=>⟨[(0,.d (F5 A t)),(1,.d (iD lst)),(8,.ptr 0 5 0 0),(9,.ptr 1 4 0 0),(10,.d (iD (((A.take i).foldl Fe (⟨w,0,0,0⟩,u)).2:Nat))),(23,.d (F5 A t)),(24,.d (iD (A.map uI).length)),(25,.d (iD i))],[(0,some (.arr 5 [[.d (iD 0),.d (iD 0),.d (iD 0),.d (iD 0),.d (iD 0)]])),(1,some (.arr 4 [((A.take i).foldl Fe (⟨w,0,0,0⟩,u)).1.l.map AV.d]))],2⟩) (A.length) (fun _=>True) (trivial) ?_ ar ?_ ?_
 ·exact nr
 ·intro i A_i h_i I_i N_i;have e_i:aD .i64 (i:Int) 1=((i+1:Nat):Int):=ak eH;obtain⟨v1,v2⟩:=hwy i;obtain⟨a1,a2⟩:=hA A[i] (ey h_i);have hst:(A.take (i+1)).foldl Fe (⟨w,0,0,0⟩,u)=Fe ((A.take i).foldl Fe (⟨w,0,0,0⟩,u)) A[i]:=by rw[aC h_i,Lm];rfl
  have hgi:(A.map uI)[(i:Int).toNat]?=some (uI A[i]):=by simp[ew h_i]
  generalize A[i]=f at a1 a2 hst hgi;generalize (A.take (i+1)).foldl Fe (⟨w,0,0,0⟩,u)=s' at hst N_i;generalize (A.take i).foldl Fe (⟨w,0,0,0⟩,u)=s at v1 v2 hst⊢;obtain⟨q,v⟩:=s;obtain⟨q',v'⟩:=s';obtain⟨k,r⟩:=f;dsimp only at v1 v2 a1 a2 N_i⊢;have hbit:dI .i64 (iX .i64 (v:Int) (k:Int)) 1=if v.testBit k then 1 else 0:=dX qad qad
  obtain⟨_,x2,x3⟩:=jv hw.2 a1;have hxr:uK .i64 (v:Int) r.x=((v^^^r.x.toNat:Nat):Int):=by rw[x3];exact ke qad qad
  have ht2:=jN (G:=GG) hw q [r] true aR v1 (by intro y hy;rw[mb.1 hy];exact a1);have hme:([r].foldl bc q)=bc q r:=rfl;rw[hme]at ht2;unfold Fe at hst;dsimp only at hst;cases hbk:v.testBit k
  ·rw[hbk]at hbit hst;rw[if_neg qaj]at hst hbit;cases hst;conv=>whnf
   repeat (refine O6.mk _ rfl ?_;conv=>whnf)
   intro t ht;cases t
   ·exact bu
   conv=>whnf
   repeat' first|((first|refine O6.mk _ qhi ?_|refine O8.mk _ aK ?_|refine aJ yd ?_|rw[hbit]|refine bp (show((0:Int)==1)=false from rfl) ?_|refine HpP.force ?_);conv=>whnf)
   refine N_i _ ?_ ?_
   ·exact cY
   ·exact yv
  ·rw[hbk]at hbit hst;rw[if_pos rfl]at hst hbit;generalize bc q r=m at ht2 hst;cases hst;conv=>whnf
   repeat (refine O6.mk _ rfl ?_;conv=>whnf)
   intro t ht;cases t
   ·exact bu
   conv=>whnf
   repeat' first|((first|refine O6.mk _ qhi ?_|refine O8.mk _ aK ?_|refine aJ yd ?_|rw[hbit]|refine bp (show((1:Int)==1)=true from rfl) ?_|refine jd (ht2) rfl ?_|rw[hxr]|refine HpP.force ?_);conv=>whnf)
   refine N_i _ ?_ ?_
   ·exact cY
   ·exact yv
 ·intro A_last I_last;rw[pS];obtain⟨v1,v2⟩:=hwy A.length;rw[pS]at v1 v2;obtain⟨n,n1,n2,n3⟩:=ZU hw.2 v1 hl;generalize A.foldl Fe (⟨w,0,0,0⟩,u)=s at v1 v2 n2 n3⊢;obtain⟨q,v⟩:=s;dsimp only at v1 v2 n2 n3⊢;unfold ZT at n2;have o1:=vx (G:=GG) (IntKind.u64.wrap (dI .i64 q.x q.z));have o2:=vx (G:=GG) (IntKind.u64.wrap (dI .i64 q.z lst));have e6:fH .i64 2 (n:Int)=((2*n:Nat):Int):=fk (a:=2) qad;have hom:=OI n1;have hmu:=mul75 (p:=n%4) qad hn;rw[n3]at hom hmu;have hln:(A.map uI).length=A.length:=ef _;generalize nv (nf q) lst=p at hom hmu⊢;generalize Jl (IntKind.u64.wrap (dI .i64 q.x q.z))=c1 at o1 n2;generalize Jl (IntKind.u64.wrap (dI .i64 q.z lst))=c2 at o2 n2;by_cases hv0:v=0
  ·rw[if_pos hv0];have hvb:((v:Int) != 0)=false:=by rw[hv0];rfl
   conv=>whnf
   repeat (refine O6.mk _ rfl ?_;conv=>whnf)
   intro t ht;cases t;rotate_left
   ·exact bu
   conv=>whnf
   repeat' first|((first|refine O6.mk _ rfl ?_|refine O8.mk _ aK ?_|refine aJ ci ?_|refine bp hvb ?_|refine ab o1 ?_|refine ab o2 ?_|rw[n2]|rw[hln]|refine aa hro ?_|rw[e6]|refine ab hom ?_|refine ab hmu ?_|refine HpP.force ?_);conv=>whnf)
   exact fin rfl
  ·rw[if_neg hv0];have hvb:((v:Int) != 0)=true:=by simp[hv0]
   conv=>whnf
   repeat (refine O6.mk _ rfl ?_;conv=>whnf)
   intro t ht;cases t;rotate_left
   ·exact bu
   conv=>whnf
   repeat' first|((first|refine O6.mk _ rfl ?_|refine O8.mk _ aK ?_|refine bp hvb ?_|refine HpP.force ?_);conv=>whnf)
   exact fin rfl
end Go.Tz
namespace Go.Tz
open Go Go.AL Go.Proofs Go.Ma
theorem HR{H:AHeap}{nm sz len room:Nat}{t:Bool}{l:List (List D)}(hg:H.get nm=some (ap sz l))(h1:len<=l.length):AsD H (.sl nm sz 0 len room t) (.sl (l.take len) (t&&decide (room=len))):=by
 have:=dt (lo:=0) (len:=len) (room:=room) (t:=t) hg A6;rw[LQ]at this;exact this
theorem Cz{H:AHeap}{nm w m room:Nat}{rf:Nat->Ps}(hg:H.get nm=some (ap 4 ((List.range w).map fun j=>Ps.l (rf j))))(h:m<=w):AsD H (.sl nm 4 0 m room false) (az ((List.range m).map rf) false):=by
 have:=HR (len:=m) (room:=room) (t:=false) hg uz;have e:((List.range w).map fun j=>Ps.l (rf j)).take m=((List.range m).map rf).map Ps.l:=by
  rw[<- E0,List.take_range,Uv h,pU];rfl
 rw[e]at this;exact this
theorem FK{w m f:Nat}(rf:Nat->Ps)(h:m<=w)(hf:f<m):List.take (m-((f+1:Nat):Int).toNat) (List.drop (0+((f+1:Nat):Int).toNat) (((List.range w).map fun j=>Ps.l (rf j)).map fun el=>el.map AV.d))=((List.range (m-1-f)).map fun j=>Ps.l (rf (f+1+j))).map fun el=>el.map AV.d:=by
 rw[gx,jj];apply Hx
 ·exact fF
 ·intro i h1 h2;simp
def mvF(rf:Nat->Ps)(m f j:Nat):Ps:=if j<f then rf j else if j<m-1 then rf (j+1) else rf j
theorem KG{w m f:Nat}(rf:Nat->Ps)(h:m<=w)(hf:f<m):bU (((List.range w).map fun j=>Ps.l (rf j)).map fun el=>el.map AV.d) (0+0+((f:Int).toNat-0)) (((List.range (m-1-f)).map fun j=>Ps.l (rf (f+1+j))).map fun el=>el.map AV.d)=((List.range w).map fun j=>Ps.l (mvF rf m f j)).map fun el=>el.map AV.d:=by
 rw[gx,jj,Wb];unfold bU;apply Hx
 ·exact fF
 ·intro i h1 h2;simp only[ef,J4]at h2;simp only[List.getElem_append,List.getElem_take,wd9,Rb,wd5,BZ,ef,J4,LN];unfold mvF;by_cases a:i<f
  ·rw[dif_pos qad,dif_pos qad,if_pos a]
  ·by_cases b:i<m-1
   ·rw[dif_pos qad,dif_neg qad,if_neg a,if_pos b,show f+1+(i-min f w)=i+1 by omega]
   ·rw[dif_neg qad,if_neg a,if_neg b,show f+(m-1-f)+(i-(min f w+(m-1-f)))=i by omega]
theorem FG{w m f:Nat}(rf:Nat->Ps)(h:m<=w)(hf:f<m)(hz:∀ j,m<=j->rf j=Ps.z0):bU (((List.range w).map fun j=>Ps.l (mvF rf m f j)).map fun el=>el.map AV.d) (0+0+((m-1:Nat):Int).toNat) (List.replicate ((m:Int).toNat-((m-1:Nat):Int).toNat) (Ps.z0.l.map AV.d))=((List.range w).map fun j=>Ps.l (yV rf f j)).map fun el=>el.map AV.d:=by
 rw[gx,gx,jj];unfold bU;apply Hx
 ·exact fF
 ·intro i h1 h2;simp only[ef,J4]at h2;simp only[List.getElem_append,List.getElem_take,wd9,Rb,wd5,BZ,ef,J4,LN,List.getElem_replicate,I4];unfold mvF yV;by_cases a:i<m-1
  ·rw[dif_pos qad,dif_pos qad];by_cases b:i<f
   ·rw[if_pos b,if_pos b]
   ·rw[if_neg b,if_pos a,if_neg b]
  ·by_cases b:i=m-1
   ·rw[dif_pos qad,dif_neg qad,if_neg qad,hz (i+1) qad]
   ·rw[dif_neg qad,if_neg qad,if_neg qad,if_neg qad,hz (i+1) qad,hz _ qad]
theorem KV{k:Nat}(g:Nat->Ps):((((List.range k).map fun j=>Ps.l (g j)).map fun el=>el.map AV.d).all fun el=>el.all AV.scalar)=true:=by
 rw[lh];intro el h;obtain⟨x,hx,rfl⟩:=bm.1 h;obtain⟨j,_,rfl⟩:=bm.1 hx;rfl
theorem Xo:aq Tryz.f181=true:=ar
theorem YB(q:Ps)(n:Nat):PC Pr GG 181 [q.d,.rop [iD n] 0] (.bool (da q (2*n:Nat))):=by
 rw[oO];refine ae pok Tryz.func181 Xo ?_;conv=>whnf
 repeat' first|((first|refine O6.mk _ rfl ?_|refine aJ ci ?_|fail);conv=>whnf)|(intro t ht;cases t<;>conv=>whnf)
 all_goals
  refine fin ?_;have e:decide (gY q.x n=1)=(dI .i64 (iX .i64 q.x n) 1==1):=by rw[tV,decide_eq_true_iff,beq_iff_eq];rfl
  rw[e,ht]
theorem Vc:aq Tryz.f96=true:=ar
theorem Xp:aq Tryz.f182=true:=ar
abbrev xY(w:Nat)(l:List Ps):D:=.rop [iD w,az l true,.any] 0
theorem Pa{f:FuncId}{ds:List D}{d:D}(hf:jw Pr f)(h:bq Pr GG f (ds.map .d) [] 2 fun v H _=>AsD H v d):PC Pr GG f ds d :=
 de hf (iO h (dW 2) (fun _ _ q=>q) fun v H1 _ q=>⟨H1,fun _ _ q=>.inl q,q⟩)
theorem NF{w:Nat}{l:List Ps}(hw:1<=w/\w<=12)(hlen:l.length=w)(hv:∀ q,q∈l->Vl w q)(hG:Good (l.map nf)) :
  bq Pr GG 96 [.d (xY w l)] [] 2 fun v H _=>∃ nm,v = .sl nm 5 0 (NC w (yZ w l w)).length (NC w (yZ w l w)).length false/\H.get nm=some (ap 5 ((NC w (yZ w l w)).map uI)):=by
 have hcl:=CL (G:=GG) l true qad qad;rw[hlen]at hcl;have hrun:=FP hw.2 hlen hv hG;have hl0:l.map Ps.l=(List.range w).map fun j=>Ps.l ((yZ w l 0).r j):=by
  have e:l.map Ps.l=(List.range l.length).map fun j=>Ps.l (l.getD j Ps.z0):=by
   apply Hx
   ·exact aR
   ·intro j h1 h2;have h3:j<l.length:=A6;simp[ew h3]
  rw[e,hlen];rfl
 refine bi pok Tryz.func96 Vc ?_;conv=>whnf
 repeat' first|(refine aY hcl ?_;conv=>whnf)
 rw[hl0];refine ax pok (fun n=>⟨[(3,.sl 3 5 0 (w-(yZ w l n).m) (w-(yZ w l n).m) false),(4,.sl 2 4 0 (yZ w l n).m w false),(20,.d (iD w)),(21,.d (iD n))],[(2,some (ap 4 ((List.range w).map fun j=>Ps.l ((yZ w l n).r j)))),(3,some (ap 5 ((List.range (w-(yZ w l n).m)).map fun j=>uI ((yZ w l n).o j))))],4⟩) (w) (fun _=>True) (trivial) ?_ ar ?_ ?_
 ·refine Sub.trans (fB (t:=3) (S:=5) (nA rfl) rfl) ?_;refine ah cW ?_ ?_ trivial
  ·repeat' first|exact trivial|refine⟨⟨by first|rfl|assumption|(show AV.sl 3 5 0 0 0 false=AV.sl 3 5 0 (w-w) (w-w) false;rw[Wc])|rfl,rfl⟩,?_⟩
  ·repeat' first|exact trivial|refine⟨⟨di rfl,_,rfl,by first|rfl|assumption|(show some (Blk.arr 5 [])=some (ap 5 ((List.range (w-w)).map _));rw[Wc];rfl)|(show some (Blk.ren _ (ap 4 _))=_;rw[aE]),by first|exact ay rfl|exact aj _ _ _|exact au rfl⟩,?_⟩
 ·intro n A_n h_n I_n N_n;have e_n:aD .i64 (n:Int) 1=((n+1:Nat):Int):=ak eH;have hok:=hrun n qad;have hnx:yZ w l (n+1)=flS w n (yZ w l n):=rfl;unfold flS at hnx;generalize hR:yZ w l n=s at hok hnx⊢;obtain⟨rf,m,of⟩:=s;have hm:=hok.le;have hrv:=fun j (hj:j<m)=>Au hok hj;have hov:=fun j (hj:j<w-m)=>NH hok hj;have hrz:=hok.z;dsimp only at hm hrv hov hrz hnx⊢;have hidx:=FY (G:=GG) ((List.range m).map rf) false 181 [] [.rop [iD n] 0] (fun q=>da q (2*n:Nat)) fF fun q _=>YB q n;have hif:=IU (rf:=rf) (n:=m) (c:=2*n) (a:=0) (dW _);rw[LQ]at hif;rw[hif]at hidx;clear hif;conv=>whnf
  repeat (refine O6.mk _ rfl ?_;conv=>whnf)
  intro t ht;cases t
  ·exact bu
  conv=>whnf
  repeat' first|((first|refine O6.mk _ rfl ?_|refine O8.mk _ aK ?_|refine HpP.force ?_);conv=>whnf)
  cases hf:kS rf m (2*n) 0 with
  | none =>
   rw[hf]at hidx hnx;dsimp only at hidx hnx;refine gP hidx (Cz rfl hm) (qL (qM rfl)) rfl ?_;conv=>whnf
   repeat' first|(refine O6.mk _ rfl ?_;conv=>whnf)|(intro t ht;cases t<;>conv=>whnf)
   ·exact xt
   ·rw[hnx]at N_n;refine N_n _ ?_ ?_
    ·exact cY
    ·refine ah cW ?_ ?_ trivial
     ·exact F7
     ·exact lZ
  | some f =>
   rw[hf]at hidx hnx;dsimp only at hidx hnx;rw[Wb]at hidx;obtain⟨_,hf1,hf2,_⟩:=fv hf;refine gP hidx (Cz rfl hm) (qL (qM rfl)) rfl ?_;conv=>whnf
   repeat' first|((first|refine O6.mk _ (by first|rfl|exact fj (f:=fun j=>Ps.l (rf j)) (show f<w by omega)) ?_|refine O8.mk _ aK ?_|refine aJ yd ?_|refine HpP.force ?_);conv=>whnf)|(intro t ht;cases t<;>conv=>whnf)
   ·have e1:aD .i64 (f:Int) 1=((f+1:Nat):Int):=ak (b:=1) qad;have hne:((f:Int)==((f+1:Nat):Int))=false:=fF;rw[e1];refine aB pok Tryz.func182 Xp ?_;conv=>whnf
    have hbq:(w-0).beq ((f:Int).toNat-0)=false:=by
     rw[gx];cases e:(w-0).beq (f-0) with
     | false=>rfl
     | true=>have:=waf e;omega
    have hl2:(f:Int).toNat-0+(((List.range (m-1-f)).map fun j=>Ps.l (rf (f+1+j))).map fun el=>el.map AV.d).length=m-1:=fF;have hcl2:0+0+((m-1:Nat):Int).toNat+((m:Int).toNat-((m-1:Nat):Int).toNat)<=(((List.range w).map fun j=>Ps.l (mvF rf m f j)).map fun el=>el.map AV.d).length:=by rw[gx,gx];simp;omega
    have hfl2:0+((f+1:Nat):Int).toNat+(m-((f+1:Nat):Int).toNat)<=(((List.range w).map fun j=>Ps.l (rf j)).map fun el=>el.map AV.d).length:=fF;repeat' first|((first|refine O8.mk _ (by first|exact FK rf hm hf1|exact KG rf hm hf1|exact FG rf hm hf1 hrz|rfl) ?_|refine aJ (by first|exact⟨mf _,by omega⟩|exact hfl2|exact(by rw[hl2];simp;omega)|exact hcl2|assumption|exact⟨by kernel_rfl,rfl⟩|decide|omega) ?_|refine bp hne ?_|rw[KV]|rw[hbq]|rw[hl2]|refine HpP.force ?_);conv=>whnf)
    have hFv:=hrv f hf1;have hdv:∀ j,j<m-1->Vl w (yV rf f j):=fun j hj=>by
     unfold yV;split
     ·exact hrv j qad
     ·exact hrv (j+1) qad
    have hdz:∀ j,m-1<=j->yV rf f j=Ps.z0:=fun j hj=>by
     unfold yV;rw[if_neg qad,hrz (j+1) qad]
    rw[qa hw.2 h_n hFv]at hf2;generalize rf f=F at hFv hnx hf2⊢;generalize yV rf f=d at hdv hdz hnx⊢;refine ax pok (fun i=>⟨[(3,.sl 3 5 0 (w-m) (w-m) false),(4,.sl 2 4 0 (m-1) w false),(5,.ptr 4 1 0 0),(7,.ptr 5 5 0 0),(20,.d (iD w)),(21,.d (iD n)),(41,.d (iD (m-1:Nat))),(42,.d (iD i))],[(2,some (ap 4 ((List.range w).map fun j=>Ps.l (if j<i then co F n (d j) else d j)))),(3,some (ap 5 ((List.range (w-m)).map fun j=>uI (of j)))),(4,some (.arr 1 [[.d (iD n)]])),(5,some (.arr 5 [(uI (n,F)).map AV.d]))],6⟩) ((m-1)) (fun _=>True) (trivial) ?_ ar ?_ ?_
    ·exact nr
    ·intro i A_i h_i I_i N_i;have e_i:aD .i64 (i:Int) 1=((i+1:Nat):Int):=ak eH;have hdi:=hdv i h_i;have hiw:i<w:=qad;have hb:(dI .i64 (iX .i64 (d i).x (n:Int)) 1==1)=xB (d i) n:=by
      rw[<- Mj hw.2 h_n hdi,tV,decide_eq_true_iff,beq_iff_eq];rfl
     have hro:(fun j=>Ps.l (if j<i then co F n (d j) else d j)) i=Ps.l (d i):=by dsimp only;rw[if_neg (D9 i)]
     have hst:∀ j,(if j=i then Ps.l (co F n (d i)) else Ps.l (if j<i then co F n (d j) else d j))=Ps.l (if j<i+1 then co F n (d j) else d j):=fun j=>by
      by_cases e:j=i
      ·rw[if_pos e,if_pos qad,e]
      ·have:(j<i+1) ↔ (j<i):=by omega
       simp only[if_neg e,this]
     have hcx:co F n (d i)=if xB (d i) n=true then bc (d i) F else d i:=rfl
     have ht2:=jN (G:=GG) hw (d i) [F] true aR hdi qgf;have hme:([F].foldl bc (d i))=bc (d i) F:=rfl;rw[hme]at ht2;generalize bc (d i) F=mm at ht2 hcx;conv=>whnf
     repeat (refine O6.mk _ rfl ?_;conv=>whnf)
     intro t ht;cases t
     ·exact bu
     conv=>whnf
     cases hbb:xB (d i) n with
     | false =>
      rw[hbb]at hb hcx;rw[if_neg qaj]at hcx;have hsame:∀ j,Ps.l (if j<i then co F n (d j) else d j)=Ps.l (if j<i+1 then co F n (d j) else d j):=fun j=>by
       rw[<- hst j];by_cases e:j=i
       ·rw[if_pos e,if_neg qad,hcx,e]
       ·rw[if_neg e]
      repeat' first|((first|refine O6.mk _ (by first|rfl|exact dh hiw hro) ?_|refine aJ yd ?_|refine bp hb ?_|refine HpP.force ?_);conv=>whnf)
      refine N_i _ ?_ ?_
      ·exact cY
      ·refine ah cW ?_ ?_ trivial
       ·exact Ch
       ·repeat' first|exact trivial|refine⟨⟨di rfl,_,rfl,by first|rfl|assumption|exact congrArg some (ee hsame),by first|exact ay rfl|exact aj _ _ _|exact au rfl⟩,?_⟩
     | true =>
      rw[hbb]at hb hcx;rw[if_pos rfl]at hcx;rw[hcx]at hst;have hst2:∀ j,(if j=i then [iD mm.w,iD mm.x,iD mm.z,iD mm.p] else Ps.l (if j<i then co F n (d j) else d j))=Ps.l (if j<i+1 then co F n (d j) else d j):=hst;repeat' first|((first|refine O6.mk _ (by first|rfl|exact dh hiw hro) ?_|refine O8.mk _ (by first|exact fr (x:=[_,_,_,_]) hiw|(simp only[List.set,bU,List.take,List.drop,JV,uV,yf,List.length];rfl)|rfl) ?_|refine aJ yd ?_|refine bp hb ?_|refine ab ht2 ?_|refine HpP.force ?_);conv=>whnf)
      refine N_i _ ?_ ?_
      ·exact cY
      ·refine ah cW ?_ ?_ trivial
       ·exact Ch
       ·exact qco
    ·intro A_last I_last;have e2:(fun j=>Ps.l (if j<m-1 then co F n (d j) else d j))=fun j=>Ps.l (co F n (d j)):=funext fun j=>by
      by_cases e:j<m-1
      ·rw[if_pos e]
      ·rw[if_neg e,hdz j qad,Im]
     rw[e2];conv=>whnf
     repeat (refine O6.mk _ rfl ?_;conv=>whnf)
     intro t ht;cases t;rotate_left
     ·exact bu
     conv=>whnf
     skip;refine ax pok (fun k=>⟨[(3,.sl 3 5 0 (w-m) (w-m) false),(4,.sl 2 4 0 (m-1) w false),(5,.ptr 4 1 0 0),(7,.ptr 5 5 0 0),(20,.d (iD w)),(21,.d (iD n)),(67,.d (iD (w-m:Nat))),(68,.d (iD k))],[(2,some (ap 4 ((List.range w).map fun j=>Ps.l (co F n (d j))))),(3,some (ap 5 ((List.range (w-m)).map fun j=>uI (if j<k then((of j).1,co F n (of j).2) else of j)))),(4,some (.arr 1 [[.d (iD n)]])),(5,some (.arr 5 [(uI (n,F)).map AV.d]))],6⟩) ((w-m)) (fun _=>True) (trivial) ?_ ar ?_ ?_
     ·exact nr
     ·intro k A_k h_k I_k N_k;have e_k:aD .i64 (k:Int) 1=((k+1:Nat):Int):=ak eH;have hok':=(hov k h_k).1;have hb:(dI .i64 (iX .i64 (of k).2.x (n:Int)) 1==1)=xB (of k).2 n:=by
       rw[<- Mj hw.2 h_n hok',tV,decide_eq_true_iff,beq_iff_eq];rfl
      have hro:(fun j=>uI (if j<k then((of j).1,co F n (of j).2) else of j)) k=uI (of k):=by dsimp only;rw[if_neg (D9 k)]
      have hst:∀ j,(if j=k then uI ((of k).1,co F n (of k).2) else uI (if j<k then((of j).1,co F n (of j).2) else of j))=uI (if j<k+1 then((of j).1,co F n (of j).2) else of j):=fun j=>by
       by_cases e:j=k
       ·rw[if_pos e,if_pos qad,e]
       ·have:(j<k+1) ↔ (j<k):=by omega
        simp only[if_neg e,this]
      have hcx:co F n (of k).2=if xB (of k).2 n=true then bc (of k).2 F else(of k).2:=rfl
      have ht2:=jN (G:=GG) hw (of k).2 [F] true aR hok' qgf;have hme:([F].foldl bc (of k).2)=bc (of k).2 F:=rfl;rw[hme]at ht2;generalize bc (of k).2 F=mm at ht2 hcx;conv=>whnf
      repeat (refine O6.mk _ rfl ?_;conv=>whnf)
      intro t ht;cases t
      ·exact bu
      conv=>whnf
      cases hbb:xB (of k).2 n with
      | false =>
       rw[hbb]at hb hcx;rw[if_neg qaj]at hcx;have hsame:∀ j,uI (if j<k then((of j).1,co F n (of j).2) else of j)=uI (if j<k+1 then((of j).1,co F n (of j).2) else of j):=fun j=>by
        rw[<- hst j];by_cases e:j=k
        ·rw[if_pos e,if_neg qad,hcx,e]
        ·rw[if_neg e]
       repeat' first|((first|refine O6.mk _ (by first|rfl|exact dh h_k hro) ?_|refine aJ yd ?_|refine bp hb ?_|refine HpP.force ?_);conv=>whnf)
       refine N_k _ ?_ ?_
       ·exact cY
       ·refine ah cW ?_ ?_ trivial
        ·exact Jz
        ·repeat' first|exact trivial|refine⟨⟨di rfl,_,rfl,by first|rfl|assumption|exact congrArg some (jW hsame),by first|exact ay rfl|exact aj _ _ _|exact au rfl⟩,?_⟩
      | true =>
       rw[hbb]at hb hcx;rw[if_pos rfl]at hcx;rw[hcx]at hst;have hst2:∀ j,(if j=k then [iD ((of k).1:Int),iD mm.w,iD mm.x,iD mm.z,iD mm.p] else uI (if j<k then((of j).1,co F n (of j).2) else of j))=uI (if j<k+1 then((of j).1,co F n (of j).2) else of j):=hst;repeat' first|((first|refine O6.mk _ (by first|rfl|exact dh h_k hro) ?_|refine O8.mk _ (by first|exact fr (x:=[_,_,_,_,_]) h_k|(simp only[List.set,bU,List.take,List.drop,JV,uV,yf,List.length];rfl)|rfl) ?_|refine aJ yd ?_|refine bp hb ?_|refine ab ht2 ?_|refine HpP.force ?_);conv=>whnf)
       refine N_k _ ?_ ?_
       ·exact cY
       ·refine ah cW ?_ ?_ trivial
        ·exact Jz
        ·repeat' first|exact trivial|refine⟨⟨di rfl,_,rfl,by first|rfl|assumption|exact congrArg some (jW hst2),by first|exact ay rfl|exact aj _ _ _|exact au rfl⟩,?_⟩
     ·intro A_last I_last;rw[hnx]at N_n;dsimp only at N_n;have eW:w-(m-1)=w-m+1:=qad;have hsn:(List.range (w-m+1)).map (fun j=>uI (if j<w-m then((of j).1,co F n (of j).2) else(n,F)))=((List.range (w-m)).map fun j=>uI (if j<w-m then((of j).1,co F n (of j).2) else of j))++[uI (n,F)]:=by
       rw[Fa,nh];congr 1
       ·refine xX fun j hj=>?_;rw[if_pos (cJ.1 hj),if_pos (cJ.1 hj)]
       ·simp only[nB,QF];rw[if_neg (D9 _)]
      rw[eW,hsn]at N_n;have hql:((List.range (w-m)).map fun j=>uI (if j<w-m then((of j).1,co F n (of j).2) else of j)).length=w-m:=aR;generalize ((List.range (w-m)).map fun j=>uI (if j<w-m then((of j).1,co F n (of j).2) else of j))=Q at hql N_n⊢;have hqm:(2*(w-m+1)+192)*40<=281474976710656:=qad;conv=>whnf
      repeat (refine O6.mk _ rfl ?_;conv=>whnf)
      intro t ht;cases t;rotate_left
      ·exact bu
      conv=>whnf
      repeat' first|((first|refine O6.mk _ rfl ?_|refine O8.mk _ aK ?_|refine aJ (by first|exact cF _|exact⟨by rw[ef];exact hql,by decide,hqm⟩|assumption|exact⟨by kernel_rfl,rfl⟩|decide|omega) ?_|rw[hJ]|refine HpP.force ?_);conv=>whnf)
      refine N_n _ ?_ ?_
      ·exact cY
      ·first|refine aO [(3,7)] ?_ ?_ ?_ trivial|refine aI [(3,7)] rfl rfl ?_ ?_ ?_ trivial
       ·exact F7
       ·repeat' first|exact trivial|refine⟨⟨di rfl,_,rfl,by first|rfl|assumption|exact aw rfl (by first|rfl|assumption|exact aw rfl (congrArg some (dc rfl)))|exact aw rfl (congrArg some (dc rfl)),by first|exact ay rfl|exact aj _ _ _|exact au rfl⟩,?_⟩
       ·exact iI
   ·exact qfa
 ·intro A_last I_last;conv=>whnf
  repeat (refine O6.mk _ rfl ?_;conv=>whnf)
  intro t ht;cases t;rotate_left
  ·exact bu
  conv=>whnf
  skip;refine fin ⟨3,?_,?_⟩
  ·rw[ef,J4]
  ·rw[pU];rfl
theorem RZ{w:Nat}{l:List Ps}(hw:1<=w/\w<=12)(hlen:l.length=w)(hv:∀ q,q∈l->Vl w q)(hG:Good (l.map nf)):PC Pr GG 96 [xY w l] (F5 (NC w (yZ w l w)) false):=by
 refine Pa (bg Tryz.func96 Vc) (cu (NF hw hlen hv hG) ?_);rintro v H _ ⟨nm,rfl,hg⟩;exact fg hg aR
end Go.Tz
namespace Go.Tz
open Go Go.AL Go.Proofs Go.Ma
theorem AP{w n o:Nat}(hw:1<=w/\w<=12)(hn:n<w)(ho:o<=1)(F:FuncId){rf:Nat->Ps}{a0:Nat}{R:List Nat}(hpv:Vl w (zP w n o))(hvl:∀ j,j<w->Vl w (rf j))(hA:fG (zP w n o) rf w=a0::R)
  (hx2:PC Pr GG 107 [.agg [iD w,.sl ((List.range w).map fun j=>Ps.l (rf j)) true],(zP w n o).d] (iD 0)) :
  bq Pr GG 136 [.ptr 2 3 0 0,.d (iD n),.d (iD o)] [(2,some (mg w 10 F)),(10,some (ap 4 ((List.range w).map fun j=>Ps.l (rf j))))] 12 fun v H n'=>v = .d (.tup [iD 1,iD 0])/\H.get 2=some (mg w 12 F)/\H.get 12=some (ap 4 ((af (bM w (eT rf (zP w n o) a0 R)) (2*w)).map Ps.l))/\n'=13:=by
 have hsh:cU .i64 1 (n:Int)=((2^n:Nat):Int):=cq qad;have him:fH .i64 2 (o:Int)=((2*o:Nat):Int):=fk (a:=2) qad;have hPv:=Bh hw.2 hvl hpv (jQ hA).1 (R:=R);have hcan:=lx (G:=GG) hw (bM w (eT rf (zP w n o) a0 R)) true fF (fun q hq=>by
  obtain⟨j,hj,rfl⟩:=bm.1 hq;exact hPv j (cJ.1 hj))
 obtain⟨sp1,sp2,sp3,sp4⟩:=jQ hA;have hno:(∀ j,j<w->bS (zP w n o) (rf j)=true)->False:=fun h=>by
  have:=h a0 sp1;rw[sp2]at this;cases this
 have hcan2:PO Pr GG 105 [.agg [iD w,.sl ((List.range w).map fun j=>Ps.l (eT rf (zP w n o) a0 R j)) true]] (.agg [.d (iD w),.sl 0 4 0 w w true]) [(0,some (ap 4 ((af (bM w (eT rf (zP w n o) a0 R)) (2*w)).map Ps.l)))] 1:=by
  have eR:(bM w (eT rf (zP w n o) a0 R)).map Ps.l=(List.range w).map fun j=>Ps.l (eT rf (zP w n o) a0 R j):=by unfold bM;rw[pU];rfl
  have eL:(bM w (eT rf (zP w n o) a0 R)).length=w:=aR;rw[<- eR];rw[eL]at hcan;exact hcan
 clear hcan;have hRm:∀ j,j∈R ↔ j<w/\j≠a0/\bS (zP w n o) (rf j)=false:=fun j=>by
  have hm:j∈a0::R ↔ j<w/\bS (zP w n o) (rf j)=false:=by
   rw[<- hA];unfold fG;rw[VY,cJ];simp
  have hnd:(a0::R).Nodup:=qei;have haR:a0 ∉ R:=(I7.1 hnd).1;constructor
  ·exact qjq
  ·exact qjl
 have hB0:bf Tryz.f136.ntmps (LI Tryz.f136 0).2=true:=ar;have hB1:bf Tryz.f136.ntmps (LI Tryz.f136 1).2=true:=ar;refine bk (bi pok Tryz.func136 nQ (K:=fun v H m=>v = .d (.tup [iD 1,iD 0])/\H.get 2=some (mg w 24 F)/\H.get 24=some (ap 4 ((af (bM w (eT rf (zP w n o) a0 R)) (2*w)).map Ps.l))) ?_) ?_
 ·conv=>whnf
  repeat' first|((first|refine O6.mk _ (by first|rfl|exact ja rfl aR) ?_|refine O8.mk _ aK ?_|refine aJ ci ?_|rw[hsh]|rw[him]|refine aH (l:=[10]) (aM rfl rfl (show _=some (ap 4 ((List.range w).map fun j=>Ps.l (rf j))) from rfl)) ?_|refine ab hx2 ?_|refine bF rfl ?_|refine HpP.force ?_);conv=>whnf)
  refine aB pok Tryz.func195 vX ?_;conv=>whnf
  skip;refine aB pok Tryz.func247 vY ?_;conv=>whnf
  repeat' first|(refine O6.mk _ rfl ?_;conv=>whnf)
  refine ax pok (fun i=>⟨[(0,.yld 18),(4,.d (.fn 114 [.agg [iD w,iD 0,iD ((2^n:Nat):Int),iD ((2*o:Nat):Int)]] [])),(14,.sl 10 4 0 w w true),(15,.d (iD w)),(16,.d (iD i))],[(2,some (mg w 10 F)),(10,some (ap 4 ((List.range w).map fun j=>Ps.l (rf j)))),(12,some (.arr 1 [[.ptr 2 3 0 0]])),(13,some (.arr 4 [[.d (iD w),.d (iD 0),.d (iD ((2^n:Nat):Int)),.d (iD ((2*o:Nat):Int))]])),(14,some (.arr 1 [[.d (iD (-1))]])),(15,some (.arr 1 [[.ptr 2 3 0 0]])),(16,some (.arr 4 [[.d (iD w),.d (iD 0),.d (iD ((2^n:Nat):Int)),.d (iD ((2*o:Nat):Int))]])),(17,some (.raw (.deferred (some [])))),(18,some (.lp [(34,.fn 247 [] [.ptr 16 4 0 0,.ptr 15 1 0 0]),(33,.d (.agg [iD w,iD 0,iD ((2^n:Nat):Int),iD ((2*o:Nat):Int)])),(32,.ptr 2 3 0 0),(9,.ptr 14 1 0 0),(30,.d (.bool false)),(31,.d (.bool false)),(28,.d (.bool false)),(29,.d (.bool false)),(27,.d (iD 0)),(26,.d (.agg [iD w,iD 0,iD ((2^n:Nat):Int),iD ((2*o:Nat):Int)])),(25,.agg [.d (iD w),.sl 10 4 0 w w true]),(24,.ptr 2 3 0 0),(23,.ptr 2 3 0 0),(22,.ptr 2 3 0 0),(8,.ptr 13 4 0 0),(21,.d (.agg [iD w,iD 0,iD ((2^n:Nat):Int),iD ((2*o:Nat):Int)])),(20,.d (iD ((2*o:Nat):Int))),(19,.d (iD o)),(18,.d (iD ((2^n:Nat):Int))),(17,.d (iD n)),(16,.d (iD w)),(15,.ptr 2 3 0 0),(14,.ptr 2 3 0 0),(13,.ptr 2 3 0 0),(12,.ptr 2 3 0 0),(7,.d (iD 0)),(6,.d (iD 0)),(3,.ptr 12 1 0 0),(0,.ptr 2 3 0 0),(1,.d (iD n)),(2,.d (iD o))] Tryz.f136.ntmps #[35] (LI Tryz.f136 0).1 (LI Tryz.f136 0).2 .ready none 17))],19⟩) (w) (fun i=>∀ j,j<i->bS (zP w n o) (rf j)=true) qad ?_ ar ?_ ?_
  ·refine ah cW ?_ ?_ trivial
   ·exact gn
   ·exact VB
  ·intro i A_i h_i I_i N_i;have e_i:aD .i64 (i:Int) 1=((i+1:Nat):Int):=ak eH;have hc:=sp (G:=GG) hw hpv (hvl i h_i);cases hb:bS (zP w n o) (rf i) with
   | true =>
    rw[hb]at hc;conv=>whnf
    repeat (refine O6.mk _ rfl ?_;conv=>whnf)
    intro t ht;cases t
    ·exact bu
    conv=>whnf
    repeat' first|((first|refine O6.mk _ qdq ?_|refine O8.mk _ aK ?_|refine aJ ci ?_|refine aa hc ?_|refine HpP.force ?_);conv=>whnf)
    refine N_i _ ?_ ?_
    ·exact qeu
    ·refine ah cW ?_ ?_ trivial
     ·exact Ch
     ·exact VB
   | false =>
    rw[hb]at hc;have hia:i=a0:=by
     rcases Ra i a0 with q|q|q
     ·have:=sp3 i q;rw[hb]at this;cases this
     ·exact q
     ·have:=I_i a0 q;rw[sp2]at this;cases this
    conv=>whnf
    repeat (refine O6.mk _ rfl ?_;conv=>whnf)
    intro t ht;cases t
    ·exact bu
    conv=>whnf
    repeat' first|((first|refine O6.mk _ qdq ?_|refine O8.mk _ aK ?_|refine aJ ci ?_|refine aa hc ?_|refine HpP.force ?_);conv=>whnf)
    refine cv pok ?_;conv=>whnf
    repeat' first|((first|refine O6.mk _ rfl ?_|refine O8.mk _ aK ?_|refine HpP.force ?_);conv=>whnf)
    refine aB pok Tryz.func195 vX ?_;conv=>whnf
    skip;refine aB pok Tryz.func247 vY ?_;conv=>whnf
    repeat' first|(refine O6.mk _ rfl ?_;conv=>whnf)
    refine ax pok (fun m=>⟨[(0,.yld 23),(4,.d (.fn 114 [.agg [iD w,iD 0,iD ((2^n:Nat):Int),iD ((2*o:Nat):Int)]] [])),(14,.sl 10 4 0 w w true),(15,.d (iD w)),(16,.d (iD m))],[(2,some (mg w 10 F)),(10,some (ap 4 ((List.range w).map fun j=>Ps.l (lY (zP w n o) rf a0 m j)))),(12,some (.arr 1 [[.ptr 2 3 0 0]])),(13,some (.arr 4 [[.d (iD w),.d (iD 0),.d (iD ((2^n:Nat):Int)),.d (iD ((2*o:Nat):Int))]])),(14,some (.arr 1 [[.d (iD a0)]])),(17,some (.raw (.deferred (some [])))),(20,some (.arr 1 [[.ptr 2 3 0 0]])),(21,some (.arr 4 [[.d (iD w),.d (iD 0),.d (iD ((2^n:Nat):Int)),.d (iD ((2*o:Nat):Int))]])),(22,some (.raw (.deferred (some [])))),(23,some (.lp [(39,.fn 247 [] [.ptr 21 4 0 0,.ptr 20 1 0 0]),(38,.d (.agg [iD w,iD 0,iD ((2^n:Nat):Int),iD ((2*o:Nat):Int)])),(37,.ptr 2 3 0 0),(34,.fn 247 [] [.ptr 16 4 0 0,.ptr 15 1 0 0]),(33,.d (.agg [iD w,iD 0,iD ((2^n:Nat):Int),iD ((2*o:Nat):Int)])),(32,.ptr 2 3 0 0),(9,.ptr 14 1 0 0),(30,.d (.bool false)),(31,.d (.bool false)),(28,.d (.bool false)),(29,.d (.bool false)),(27,.d (iD 0)),(26,.d (.agg [iD w,iD 0,iD ((2^n:Nat):Int),iD ((2*o:Nat):Int)])),(25,.agg [.d (iD w),.sl 10 4 0 w w true]),(24,.ptr 2 3 0 0),(23,.ptr 2 3 0 0),(22,.ptr 2 3 0 0),(8,.ptr 13 4 0 0),(21,.d (.agg [iD w,iD 0,iD ((2^n:Nat):Int),iD ((2*o:Nat):Int)])),(20,.d (iD ((2*o:Nat):Int))),(19,.d (iD o)),(18,.d (iD ((2^n:Nat):Int))),(17,.d (iD n)),(16,.d (iD w)),(15,.ptr 2 3 0 0),(14,.ptr 2 3 0 0),(13,.ptr 2 3 0 0),(12,.ptr 2 3 0 0),(7,.d (iD 0)),(6,.d (iD 0)),(3,.ptr 12 1 0 0),(0,.ptr 2 3 0 0),(1,.d (iD n)),(2,.d (iD o))] Tryz.f136.ntmps #[40] (LI Tryz.f136 1).1 (LI Tryz.f136 1).2 .ready none 22))],24⟩) (w) (fun _=>True) (trivial) ?_ ar ?_ ?_
    ·refine ah cW ?_ ?_ trivial
     ·exact gn
     ·exact qb8
    ·exact qhy
    ·intro A_last I_last;have hfin:∀ j,(if j=a0 then [iD w,iD 0,iD ((2^n:Nat):Int),iD ((2*o:Nat):Int)] else Ps.l (lY (zP w n o) rf a0 w j))=Ps.l (eT rf (zP w n o) a0 R j):=fun j=>by
      unfold eT kC lY;by_cases h:j=a0
      ·rw[if_pos h,if_pos h];rfl
      ·exact qi9
     have hgA:(fun j=>Ps.l (lY (zP w n o) rf a0 w j)) a0=Ps.l (rf a0):=by dsimp only;rw[GA]
     generalize lY (zP w n o) rf a0 w=g at hfin hgA;generalize eT rf (zP w n o) a0 R=g' at hfin hcan2⊢;conv=>whnf
     repeat (refine O6.mk _ rfl ?_;conv=>whnf)
     intro t ht;cases t;rotate_left
     ·exact bu
     conv=>whnf
     repeat' first|((first|refine O6.mk _ qfj ?_|refine O8.mk _ qc3 ?_|refine aJ yd ?_|refine aH (l:=[10]) (aM rfl rfl (show _=some (ap 4 ((List.range w).map fun j=>Ps.l (g' j))) from congrArg some (ee hfin))) ?_|refine aZ hcan2 ?_|rw[aW]|refine P5.mk _ rfl ?_|refine HpP.force ?_);conv=>whnf)
     refine fin ⟨rfl,rfl,?_⟩;show some (Blk.ren _ (ap 4 _))=_;rw[aE]
  ·intro A_last I_last;exact(hno I_last).elim
 ·exact qie
abbrev ZG(w:Nat)(F:FuncId)(L:List Ps):AHeap:=[(2,some (mg w 10 F)),(10,some (ap 4 (L.map Ps.l)))]
theorem rC{w n o:Nat}{L:List Ps}(hs:SOk w L)(hn:n<w)(ho:o<=1)(F:FuncId){e r:Int}(he:nk L (zP w n o)=e)(h:(e=1/\r=0)\/(e = -1/\r=6)) :
  bq Pr GG 136 [.ptr 2 3 0 0,.d (iD n),.d (iD o)] (ZG w F L) 12 (mK w F (rV 0 r) 10 L):=by
 have hlen:=hs.len;have hhi:=hs.hi;have hpv:=kN hn ho;have hx:=gh hs true hpv;rw[he]at hx;have hsh:cU .i64 1 (n:Int)=((2^n:Nat):Int):=cq qad;have him:fH .i64 2 (o:Int)=((2*o:Nat):Int):=fk (a:=2) qad;have hx2:PC Pr GG 107 [.agg [iD w,.sl (L.map Ps.l) true],(zP w n o).d] (iD e):=hx;clear he hx;rcases h with⟨rfl,rfl⟩|⟨rfl,rfl⟩
 ·refine bk (bi pok Tryz.func136 nQ (K:=fun v H m=>v=rV 0 0/\H.get 2=some (mg w 10 F)/\H.get 10=some (ap 4 (L.map Ps.l))) ?_) ?_
  ·conv=>whnf
   repeat' first|((first|refine O6.mk _ qcl ?_|refine O8.mk _ aK ?_|refine aJ ci ?_|rw[hsh]|rw[him]|refine aH (l:=[10]) (aM rfl rfl (show _=some (ap 4 (L.map Ps.l)) from rfl)) ?_|refine ab hx2 ?_|refine aQ ?_|refine HpP.force ?_);conv=>whnf)
   exact fin ⟨rfl,rfl,rfl⟩
  ·rintro v H m ⟨rfl,h2,h3⟩;refine⟨rV 0 0,ZG w F L,13,?_,rfl,rfl,rfl,rfl⟩;first|refine aO [(2,2),(10,10)] ?_ ?_ ?_ trivial|refine aI [(2,2),(10,10)] rfl rfl ?_ ?_ ?_ trivial
   ·exact gn
   ·exact F8
   ·exact iI
 ·refine bk (bi pok Tryz.func136 nQ (K:=fun v H m=>v=rV 0 6/\H.get 2=some (mg w 10 F)/\H.get 10=some (ap 4 (L.map Ps.l))) ?_) ?_
  ·conv=>whnf
   repeat' first|((first|refine O6.mk _ qcl ?_|refine O8.mk _ aK ?_|refine aJ ci ?_|rw[hsh]|rw[him]|refine aH (l:=[10]) (aM rfl rfl (show _=some (ap 4 (L.map Ps.l)) from rfl)) ?_|refine ab hx2 ?_|refine aQ ?_|refine bF rfl ?_|refine HpP.force ?_);conv=>whnf)
   exact fin ⟨rfl,rfl,rfl⟩
  ·rintro v H m ⟨rfl,h2,h3⟩;refine⟨rV 0 6,ZG w F L,13,?_,rfl,rfl,rfl,rfl⟩;first|refine aO [(2,2),(10,10)] ?_ ?_ ?_ trivial|refine aI [(2,2),(10,10)] rfl rfl ?_ ?_ ?_ trivial
   ·exact gn
   ·exact F8
   ·exact iI
theorem AQ{w n o:Nat}{L:List Ps}(hs:SOk w L)(hn:n<w)(ho:o<=1)(F:FuncId){a0:Nat}{R:List Nat}(he:nk L (zP w n o)=0)(hA:fG (zP w n o) (fun j=>L.getD j Ps.z0) w=a0::R) :
  bq Pr GG 136 [.ptr 2 3 0 0,.d (iD n),.d (iD o)] (ZG w F L) 12 (mK w F (rV 1 0) 12 (af (bM w (eT (fun j=>L.getD j Ps.z0) (zP w n o) a0 R)) (2*w))):=by
 have hlen:=hs.len;have hpv:=kN hn ho;have hx:=gh hs true hpv;rw[he]at hx;have hvl:∀ j,j<w->Vl w (L.getD j Ps.z0):=fun j hj=>by
  rw[jI,ew (by rw[hlen];exact hj),Hw];exact hs.vl _ (ey _)
 have hLm:L.map Ps.l=(List.range w).map fun j=>Ps.l ((fun j=>L.getD j Ps.z0) j):=by
  have:=pg L hlen;conv=>lhs;rw[<- this]
  unfold bM;rw[pU];rfl
 have hx2:PC Pr GG 107 [.agg [iD w,.sl (L.map Ps.l) true],(zP w n o).d] (iD 0):=hx;unfold ZG;rw[hLm]at hx2⊢;exact AP ⟨hs.lo,hs.hi⟩ hn ho F hpv hvl hA hx2
structure WCt (f:FuncId) (args:List AV) (w:Nat) (F:FuncId) (L:List Ps) (v:AV) (nm:Nat) (R:List Ps):Prop where
 fn:jw Pr f
 call:bq Pr GG f args (ZG w F L) 12 (mK w F v nm R)
theorem HA{f:FuncId}{args:List AV}{w nm nx:Nat}{F:FuncId}{L R:List Ps}{v:AV}{H:AHeap}{k:AV->AHeap->Nat->Prop}(h:WCt f args w F L v nm R)(hn:nx<=12)
  (h2:H.get 2=some (mg w 10 F)) (h3:H.get 10=some (ap 4 (L.map Ps.l))) (hk:k v ((2,some (mg w nm F))::(nm,some (ap 4 (R.map Ps.l)))::AHeap.del H 10) 13):P3 Pr GG f args H nx k:=by
 refine⟨h.fn,iO h.call hn (fun m b hg=>?_) ?_⟩
 ·exact qja
 ·rintro v' H1 n' ⟨rfl,g2,g3,rfl⟩;refine⟨_,fun m b hg=>?_,hk⟩;rw[bB,bB]at hg;by_cases e2:m=2
  ·exact qds
  ·rw[if_neg e2]at hg;by_cases e3:m=nm
   ·exact qdt
   ·rw[if_neg e3,dD]at hg;by_cases e4:m=10
    ·exact qgj
    ·exact qih
theorem Vo{w n o:Nat}{l r:List Ps}(h:SOk w l)(h':SOk w r)(hg:gz (r.map nf) (l.map nf))(hn:n<w)(ho:o<=1)(F:FuncId) :
  (cI w l (zP w n o)=1/\WCt 136 (wA n o) w F r (rV 0 0) 10 r)\/(cI w l (zP w n o) = -1/\WCt 136 (wA n o) w F r (rV 0 6) 10 r) ∨
  (cI w l (zP w n o)=0/\SOk w (dz (zP w n o) l)/\WCt 136 (wA n o) w F r (rV 1 0) 12 (af (dz (zP w n o) l) (2*w))):=by
 have hpv:=kN hn ho;have hok:=Fh h.hi hn ho;obtain⟨e1,e2⟩:=Jh h h' hg hpv hok;have hf:=bg Tryz.func136 nQ;rcases iV (kE h hpv hok) with⟨a,_⟩|⟨a,_⟩|⟨a,_⟩
 ·exact .inl ⟨a,hf,rC h' hn ho F (e1.trans a) (.inl ⟨rfl,rfl⟩)⟩
 ·exact .inr (.inl ⟨a,hf,rC h' hn ho F (e1.trans a) (.inr ⟨rfl,rfl⟩)⟩)
 ·obtain⟨b,a0,R,hA,_,hR⟩:=e2 a;refine .inr (.inr ⟨a,b,hf,?_⟩);rw[<- hR];exact AQ h' hn ho F (e1.trans a) hA
end Go.Tz
namespace Go.Tz
open Go Go.AL Go.Proofs Go.Ma
theorem qu{f:FuncId}{args:List AV}{w nx:Nat}{F:FuncId}{L R:List Ps}{a b:Int}{H:AHeap}{k:AV->AHeap->Nat->Prop}(h:WC f args w F L (rV a b) 3 R)(hn:nx<=12)
  (h2:H.get 2=some (mg w 3 F)) (h3:H.get 3=some (ap 4 (L.map Ps.l))) (hk:k (rV a b) ((2,some (mg w 3 F))::(3,some (ap 4 (R.map Ps.l)))::AHeap.del H 3) 12):P3 Pr GG f args H nx k:=by
 refine⟨h.fn,iO (bk (K':=fun v' H n'=>v'=rV a b/\H.get 2=some (mg w 3 F)/\H.get 3=some (ap 4 (R.map Ps.l))/\n'=12) h.call ?_) hn (fun m b hg=>?_) ?_⟩
 ·rintro v H m ⟨rfl,q2,q3,_⟩;refine⟨rV a b,mA w F R,12,?_,rfl,rfl,rfl,rfl⟩;first|refine aO [(2,2),(3,3)] ?_ ?_ ?_ trivial|refine aI [(2,2),(3,3)] rfl rfl ?_ ?_ ?_ trivial
  ·exact gn
  ·exact qb7
  ·exact iI
 ·exact qjb
 ·rintro v' H1 n' ⟨rfl,g2,g3,rfl⟩;refine⟨_,fun m b hg=>?_,hk⟩;rw[bB,bB]at hg;by_cases e2:m=2
  ·exact qds
  ·rw[if_neg e2]at hg;by_cases e3:m=3
   ·exact qdt
   ·rw[if_neg e3,dD]at hg;by_cases e4:m=3
    ·exact qgj
    ·exact qih
theorem oD{f:FuncId}{args:List AV}{w nx:Nat}{F:FuncId}{L R:List Ps}{a b:Int}{H:AHeap}{k:AV->AHeap->Nat->Prop}(h:WCt f args w F L (rV a b) 10 R)(hn:nx<=12)
  (h2:H.get 2=some (mg w 10 F)) (h3:H.get 10=some (ap 4 (L.map Ps.l))) (hk:k (rV a b) ((2,some (mg w 10 F))::(10,some (ap 4 (R.map Ps.l)))::AHeap.del H 10) 12):P3 Pr GG f args H nx k:=by
 refine⟨h.fn,iO (bk (K':=fun v' H n'=>v'=rV a b/\H.get 2=some (mg w 10 F)/\H.get 10=some (ap 4 (R.map Ps.l))/\n'=12) h.call ?_) hn (fun m b hg=>?_) ?_⟩
 ·rintro v H m ⟨rfl,q2,q3,_⟩;refine⟨rV a b,ZG w F R,12,?_,rfl,rfl,rfl,rfl⟩;first|refine aO [(2,2),(10,10)] ?_ ?_ ?_ trivial|refine aI [(2,2),(10,10)] rfl rfl ?_ ?_ ?_ trivial
  ·exact gn
  ·exact qb7
  ·exact iI
 ·exact qja
 ·rintro v' H1 n' ⟨rfl,g2,g3,rfl⟩;refine⟨_,fun m b hg=>?_,hk⟩;rw[bB,bB]at hg;by_cases e2:m=2
  ·exact qds
  ·rw[if_neg e2]at hg;by_cases e3:m=10
   ·exact qdt
   ·rw[if_neg e3,dD]at hg;by_cases e4:m=10
    ·exact qgj
    ·exact qih
def WB(w:Nat)(l:List Ps):Nat->Bool
 | 0=>false
 | i+1=>WB w l i||decide (cI w (ic w l i).1 (zP w (w-1-i) 0)=0)
theorem yR{w:Nat}{l:List Ps}{i:Nat}:WB w l (i+1)=(WB w l i||decide (cI w (ic w l i).1 (zP w (w-1-i) 0)=0)):=rfl
theorem IA{w n:Nat}{l:List Ps}(h:SOk w l)(hn:n<w)(e:cI w l (zP w n 0) = -1):cI w l (zP w n 1)=1:=by
 have h0:=kN (w:=w) (o:=0) hn qaj;have h1:=kN (w:=w) (o:=1) hn qaj;rcases iV (kE h h0 (Fh h.hi hn qaj)) with⟨a,_⟩|⟨_,b⟩|⟨a,_⟩
 ·rw[e]at a;cases a
 ·rw[QN]at b;exact(kE h h1 (Fh h.hi hn qaj)).pos b
 ·rw[e]at a;cases a
theorem Vd:aq Tryz.f97=true:=ar
theorem MF:aq Tryz.f186=true:=ar
theorem XR:aq Tryz.f243=true:=ar
theorem Xr:aq Tryz.f184=true:=ar
theorem XQ:aq Tryz.f241=true:=ar
theorem Gp(w:Int):PC Pr GG 186 [iD w] (.fn 243 [] [.rop [iD w] 0]):=by
 refine de (bg Tryz.func186 MF) (cu (K:=fun v H _=>∃ nm,v = .fn 243 [] [.ptr nm 1 0 0]/\H.get nm=some (.arr 1 [[iD w].map AV.d])) (bi pok Tryz.func186 MF ?_) ?_)
 ·conv=>whnf
  skip;exact fin ⟨_,rfl,rfl⟩
 ·rintro v H _ ⟨nm,rfl,hg⟩;exact qL (qM hg)
theorem OB(i:Nat):cS (List.range (i+1))=cS (List.range i)++[[iD i]]:=by
 unfold cS;rw[Fa,nh];rfl
theorem Tn(i:Nat):(cS (List.range i)).length=i:=H6
theorem FI{w:Nat}(hw:w<=12):PO Pr GG 185 [.fn 243 [] [.rop [iD w] 0]] (.sl 0 1 0 w w false) [(0,some (ap 1 (cS (List.range w))))] 1:=by
 refine⟨bg Tryz.func185 FE,bk (K:=fun v H _=>∃ nm,v = .sl nm 1 0 w w false/\H.get nm=some (ap 1 (cS (List.range w)))) (bi pok Tryz.func185 FE ?_) ?_⟩
 ·conv=>whnf
  skip;refine aB pok Tryz.func242 MN ?_;conv=>whnf
  skip;refine aB pok Tryz.func243 XR ?_;conv=>whnf
  skip;refine ax pok (fun i=>⟨[(0,.yld 2),(4,.d (iD w)),(5,.d (iD i))],[(0,some (.arr 1 [[.sl 3 1 0 i i false]])),(1,some (.raw (.deferred (some [])))),(2,some (.lp [(6,.d (.fn 243 [] [.rop [iD w] 0])),(4,.d (.sl [] true)),(2,.ptr 0 1 0 0),(0,.d (.sl [] true)),(1,.d (.fn 243 [] [.rop [iD w] 0]))] Tryz.f242.ntmps #[7] (rgA Tryz.f242) (B6 Tryz.f242) .ready none 1)),(3,some (ap 1 (cS (List.range i))))],4⟩) (w) (fun _=>True) (trivial) ?_ ar ?_ ?_
  ·refine Sub.trans (EF (nm:=0) (S:=1) (nA rfl) rfl) ?_;refine ah cW ?_ ?_ trivial
   ·exact gn
   ·exact VB
  ·intro i A_i h_i I_i N_i;have e_i:aD .i64 (i:Int) 1=((i+1:Nat):Int):=ak eH;have h1:=OB i;have h2:=Tn i;generalize cS (List.range (i+1))=m' at h1 N_i;generalize cS (List.range i)=m at h1 h2⊢;conv=>whnf
   repeat (refine O6.mk _ rfl ?_;conv=>whnf)
   intro t ht;cases t
   ·exact bu
   conv=>whnf
   skip;refine cv pok ?_;conv=>whnf
   repeat' first|((first|refine O6.mk _ rfl ?_|refine O8.mk _ aK ?_|(refine aJ (by first|exact cF _|exact⟨by rw[ef];exact h2,by decide,by show(2*(i+1)+192)*8<=281474976710656;omega⟩|assumption|exact⟨by kernel_rfl,rfl⟩|decide|omega) ?_)|rw[hJ]|refine HpP.force ?_);conv=>whnf)
   refine N_i _ ?_ ?_
   ·exact cY
   ·first|refine aO [(3,5)] ?_ ?_ ?_ trivial|refine aI [(3,5)] rfl rfl ?_ ?_ ?_ trivial
    ·exact Ch
    ·repeat' first|exact trivial|refine⟨⟨di rfl,_,rfl,by first|rfl|assumption|exact aw rfl (by first|rfl|assumption|exact aw rfl qg1)|exact aw rfl qg1,by first|exact ay rfl|exact aj _ _ _|exact au rfl|exact trivial|exact⟨rfl,nA rfl⟩⟩,?_⟩
    ·exact iI
  ·intro A_last I_last;conv=>whnf
   repeat (refine O6.mk _ rfl ?_;conv=>whnf)
   intro t ht;cases t;rotate_left
   ·exact bu
   conv=>whnf
   repeat' first|(refine O6.mk _ rfl ?_;conv=>whnf)
   exact fin ⟨3,rfl,rfl⟩
 ·rintro v H n ⟨nm,rfl,hg⟩;refine⟨_,_,1,?_,rfl,rfl,rfl⟩;first|refine aO [(0,nm)] ?_ ?_ ?_ trivial|refine aI [(0,nm)] rfl rfl ?_ ?_ ?_ trivial
  ·exact gn
  ·exact qaw
  ·exact iI
theorem Oh{w:Nat}{l:List Ps}(h:SOk w l):bq Pr GG 97 [.d (xY w l)] [] 2 fun v H _=>v = .d (iD ((ic w l w).2:Nat)):=by
 have hw:1<=w/\w<=12:=⟨h.lo,h.hi⟩
 have hlen:=h.len;have hop:=lJ (G:=GG) hw l true qad h.vl;rw[hlen]at hop;have hrun:=fun i (hi:i<=w)=>(AM h i hi).sok;have hol0:=fun i (hi:i<=w)=>show(ic w l i).2<2^w from I6 _ fun j hj=>(AM h i hi).lo j (.inr hj);have hl0:af l (2*w)=(ic w l 0).1:=rfl;rw[hl0]at hop;refine bi pok Tryz.func97 Vd ?_;conv=>whnf
 have c1:=Gp w;have c2:=FI hw.2;repeat' first|((first|refine O6.mk _ rfl ?_|refine O8.mk _ aK ?_|refine aY hop ?_|refine aa c1 ?_|refine aY c2 ?_|refine HpP.force ?_);conv=>whnf)
 refine aB pok Tryz.func184 Xr ?_;conv=>whnf
 skip;refine aB pok Tryz.func241 XQ ?_;conv=>whnf
 repeat' first|(refine O6.mk _ rfl ?_;conv=>whnf)
 have hB:bf Tryz.f97.ntmps (B6 Tryz.f97)=true:=ar;have hw1:cO .i64 (w:Int) 1=(w:Int)-1-((0:Nat):Int):=qes;refine ax pok (fun i=>if WB w l i=true then⟨[(0,.yld 9),(1,.ptr 7 1 0 0),(3,.d (iD ((w:Int)-1-((i:Nat):Int))))],[(2,some (mg w 10 136)),(10,some (ap 4 ((ic w l i).1.map Ps.l))),(4,some (.arr 1 [[.ptr 2 3 0 0]])),(5,some (.arr 1 [[.d (iD ((ic w l i).2:Nat))]])),(6,some (ap 1 (cS (List.range w)))),(7,some (.arr 1 [[.sl 6 1 0 w w false]])),(8,some (.raw (.deferred (some [])))),(9,some (.lp [(21,.fn 241 [] [.ptr 7 1 0 0]),(20,.sl 6 1 0 w w false),(19,.d (.fn 243 [] [.rop [iD w] 0])),(18,.d (iD w)),(17,.d (xY w l)),(16,.d (xY w l)),(15,.d (xY w l)),(14,.d (xY w l)),(4,.ptr 5 1 0 0),(3,.ptr 4 1 0 0),(13,.ptr 2 3 0 0),(12,.d (.agg [iD w,az l true])),(11,.d (xY w l)),(10,.d (xY w l)),(9,.d (xY w l)),(2,.d (iD 0)),(0,.d (xY w l))] Tryz.f97.ntmps #[22,23] (rgA Tryz.f97) (B6 Tryz.f97) .ready none 8))],11⟩ else⟨[(0,.yld 9),(1,.ptr 7 1 0 0),(3,.d (iD ((w:Int)-1-((i:Nat):Int))))],[(2,some (mg w 3 136)),(3,some (ap 4 ((ic w l i).1.map Ps.l))),(4,some (.arr 1 [[.ptr 2 3 0 0]])),(5,some (.arr 1 [[.d (iD ((ic w l i).2:Nat))]])),(6,some (ap 1 (cS (List.range w)))),(7,some (.arr 1 [[.sl 6 1 0 w w false]])),(8,some (.raw (.deferred (some [])))),(9,some (.lp [(21,.fn 241 [] [.ptr 7 1 0 0]),(20,.sl 6 1 0 w w false),(19,.d (.fn 243 [] [.rop [iD w] 0])),(18,.d (iD w)),(17,.d (xY w l)),(16,.d (xY w l)),(15,.d (xY w l)),(14,.d (xY w l)),(4,.ptr 5 1 0 0),(3,.ptr 4 1 0 0),(13,.ptr 2 3 0 0),(12,.d (.agg [iD w,az l true])),(11,.d (xY w l)),(10,.d (xY w l)),(9,.d (xY w l)),(2,.d (iD 0)),(0,.d (xY w l))] Tryz.f97.ntmps #[22,23] (rgA Tryz.f97) (B6 Tryz.f97) .ready none 8))],10⟩) w (fun _=>True) trivial ?_ ar ?_ ?_
 ·rw[if_neg (show ¬ WB w l 0=true from fun h=>by cases h)];refine ah cW ?_ ?_ trivial
  ·repeat' first|exact trivial|refine⟨⟨by first|rfl|assumption|exact congrArg (fun n=>AV.d (iD n)) hw1,rfl⟩,?_⟩
  ·repeat' first|exact trivial|refine⟨⟨di rfl,_,rfl,by first|rfl|assumption|(show some (Blk.ren _ (ap 4 _))=_;rw[aE])|(show some (Blk.ren _ (ap 1 _))=_;rw[aE]),by first|exact ay rfl|exact aj _ _ _|exact au rfl|exact trivial|exact⟨rfl,nA rfl⟩⟩,?_⟩
 ·intro i A_i h_i I_i N_i;have e_i:aD .i64 (i:Int) 1=((i+1:Nat):Int):=ak eH;have hk:=hrun i qad;have hnw:w-1-i<w:=qad;have hs:ic w l (i+1)=if cI w (ic w l i).1 (zP w (w-1-i) 0)=1 then ic w l i else if cI w (ic w l i).1 (zP w (w-1-i) 0) = -1 then((ic w l i).1,(ic w l i).2 ||| 2^(w-1-i)) else(af (dz (zP w (w-1-i) 0) (ic w l i).1) (2*w),(ic w l i).2):=rfl
  have hol:(ic w l i).2<4096:=uU (hol0 i qad) (js qaj hw.2);have hpn:2^(w-1-i)<=2048:=Vy qad;have hk1:(w:Int)-1-((i:Nat):Int)=((w-1-i:Nat):Int):=qad;have hk2:cO .i64 ((w-1-i:Nat):Int) 1=(w:Int)-1-((i+1:Nat):Int):=qes;have hsh:cU .i64 1 ((w-1-i:Nat):Int)=((2^(w-1-i):Nat):Int):=cq qad;have hfk:((cS (List.range w)).map fun el=>el.map AV.d)[0+((w-1-i:Nat):Int).toNat]?=some ([iD (w-1-i:Nat)].map AV.d):=by
   rw[gx,jj];simp[cS,List.getElem?_range hnw]
  obtain⟨n,hn⟩:∃ n,n=w-1-i:=⟨_,rfl⟩
  rw[<- hn]at hnw hs hk1 hk2 hsh hfk hpn;cases hc:WB w l i with
  | false =>
   rw[if_neg qaj];dsimp only;rw[hk1];rcases Dy hk hk (fun _=>QI) hnw (dW 1) 136 with⟨e,c⟩|⟨e,c⟩|⟨e,hp,c⟩
   ·rw[if_pos e]at hs;rw[if_neg (by rw[yR,hc,<- hn,e];decide)]at N_i;rw[hs]at N_i;clear hs;generalize ic w l i=s at hk c N_i⊢;conv=>whnf
    repeat (refine O6.mk _ rfl ?_;conv=>whnf)
    intro t ht;cases t
    ·exact bu
    conv=>whnf
    repeat' first|((first|refine O6.mk _ G6 ?_|refine aJ yd ?_|fail);conv=>whnf)|fail
    refine cv pok ?_;conv=>whnf
    repeat' first|((first|refine O6.mk _ rfl ?_|rw[hB]|refine qu c qaj rfl rfl ?_|refine bp (show((0:Int) != 0)=false from rfl) ?_);conv=>whnf)
    refine N_i _ ?_ ?_
    ·exact cY
    ·exact qiu
   ·rw[if_neg Pv,if_pos e]at hs;rw[if_neg (by rw[yR,hc,<- hn,e];decide)]at N_i;have e2:=IA hk hnw e;rcases Dy hk hk (fun _=>QI) hnw (cF 1) 136 with⟨_,c2⟩|⟨e3,_⟩|⟨e3,_,_⟩
    ·have hor:Cg .i64 (((ic w l i).2:Nat):Int) ((2^n:Nat):Int)=(((ic w l i).2 ||| 2^n:Nat):Int):=jF qad qad;rw[hs]at N_i;clear hs;generalize ic w l i=s at hk c c2 hor N_i⊢;conv=>whnf
     repeat (refine O6.mk _ rfl ?_;conv=>whnf)
     intro t ht;cases t
     ·exact bu
     conv=>whnf
     repeat' first|((first|refine O6.mk _ G6 ?_|refine aJ yd ?_|fail);conv=>whnf)|fail
     refine cv pok ?_;conv=>whnf
     repeat' first|((first|refine O6.mk _ rfl ?_|refine O8.mk _ aK ?_|refine aJ ci ?_|rw[hB]|refine qu c qaj rfl rfl ?_|refine bp (show((6:Int) != 0)=true from rfl) ?_|refine qu c2 qaj rfl rfl ?_|rw[hsh]|rw[hor]|refine HpP.force ?_);conv=>whnf)
     refine N_i _ ?_ ?_
     ·exact cY
     ·exact qiu
    ·exact qfw
    ·exact qfw
   ·rw[if_neg Pv,if_neg Pv]at hs;rw[if_pos (by rw[yR,hc,<- hn,e];rfl)]at N_i;rw[hs]at N_i;clear hs;generalize ic w l i=s at hk c N_i⊢;conv=>whnf
    repeat (refine O6.mk _ rfl ?_;conv=>whnf)
    intro t ht;cases t
    ·exact bu
    conv=>whnf
    repeat' first|((first|refine O6.mk _ G6 ?_|refine aJ yd ?_|fail);conv=>whnf)|fail
    refine cv pok ?_;conv=>whnf
    repeat' first|((first|refine O6.mk _ rfl ?_|rw[hB]|refine jO c qaj rfl rfl ?_|refine bp (show((0:Int) != 0)=false from rfl) ?_);conv=>whnf)
    refine N_i _ ?_ ?_
    ·exact cY
    ·exact qi0
  | true =>
   rw[if_pos rfl];dsimp only;rw[hk1];rcases Vo hk hk (fun _=>QI) hnw (dW 1) 136 with⟨e,c⟩|⟨e,c⟩|⟨e,hp,c⟩
   ·rw[if_pos e]at hs;rw[if_pos (by rw[yR,hc];rfl)]at N_i;rw[hs]at N_i;clear hs;generalize ic w l i=s at hk c N_i⊢;conv=>whnf
    repeat (refine O6.mk _ rfl ?_;conv=>whnf)
    intro t ht;cases t
    ·exact bu
    conv=>whnf
    repeat' first|((first|refine O6.mk _ G6 ?_|refine aJ yd ?_|fail);conv=>whnf)|fail
    refine cv pok ?_;conv=>whnf
    repeat' first|((first|refine O6.mk _ rfl ?_|rw[hB]|refine oD c qaj rfl rfl ?_|refine bp (show((0:Int) != 0)=false from rfl) ?_);conv=>whnf)
    refine N_i _ ?_ ?_
    ·exact cY
    ·exact qiu
   ·rw[if_neg Pv,if_pos e]at hs;rw[if_pos (by rw[yR,hc];rfl)]at N_i;have e2:=IA hk hnw e;rcases Vo hk hk (fun _=>QI) hnw (cF 1) 136 with⟨_,c2⟩|⟨e3,_⟩|⟨e3,_,_⟩
    ·have hor:Cg .i64 (((ic w l i).2:Nat):Int) ((2^n:Nat):Int)=(((ic w l i).2 ||| 2^n:Nat):Int):=jF qad qad;rw[hs]at N_i;clear hs;generalize ic w l i=s at hk c c2 hor N_i⊢;conv=>whnf
     repeat (refine O6.mk _ rfl ?_;conv=>whnf)
     intro t ht;cases t
     ·exact bu
     conv=>whnf
     repeat' first|((first|refine O6.mk _ G6 ?_|refine aJ yd ?_|fail);conv=>whnf)|fail
     refine cv pok ?_;conv=>whnf
     repeat' first|((first|refine O6.mk _ rfl ?_|refine O8.mk _ aK ?_|refine aJ ci ?_|rw[hB]|refine oD c qaj rfl rfl ?_|refine bp (show((6:Int) != 0)=true from rfl) ?_|refine oD c2 qaj rfl rfl ?_|rw[hsh]|rw[hor]|refine HpP.force ?_);conv=>whnf)
     refine N_i _ ?_ ?_
     ·exact cY
     ·exact qiu
    ·exact qfw
    ·exact qfw
   ·rw[if_neg Pv,if_neg Pv]at hs;rw[if_pos (by rw[yR,hc];rfl)]at N_i;rw[hs]at N_i;clear hs;generalize ic w l i=s at hk c N_i⊢;conv=>whnf
    repeat (refine O6.mk _ rfl ?_;conv=>whnf)
    intro t ht;cases t
    ·exact bu
    conv=>whnf
    repeat' first|((first|refine O6.mk _ G6 ?_|refine aJ yd ?_|fail);conv=>whnf)|fail
    refine cv pok ?_;conv=>whnf
    repeat' first|((first|refine O6.mk _ rfl ?_|rw[hB]|refine HA c qaj rfl rfl ?_|refine bp (show((0:Int) != 0)=false from rfl) ?_);conv=>whnf)
    refine N_i _ ?_ ?_
    ·exact cY
    ·exact qi0
 ·intro A_last I_last;have hkw:(w:Int)-1-((w:Nat):Int) = -1:=qad;cases hc:WB w l w with
  | false =>
   rw[if_neg qaj];dsimp only;rw[hkw];conv=>whnf
   repeat (refine O6.mk _ rfl ?_;conv=>whnf)
   intro t ht;cases t;rotate_left
   ·exact bu
   conv=>whnf
   repeat' first|(refine O6.mk _ rfl ?_;conv=>whnf)
   exact fin rfl
  | true =>
   rw[if_pos rfl];dsimp only;rw[hkw];conv=>whnf
   repeat (refine O6.mk _ rfl ?_;conv=>whnf)
   intro t ht;cases t;rotate_left
   ·exact bu
   conv=>whnf
   repeat' first|(refine O6.mk _ rfl ?_;conv=>whnf)
   exact fin rfl
theorem Tc{w:Nat}{l:List Ps}(h:SOk w l):PC Pr GG 97 [xY w l] (iD ((ic w l w).2:Nat)):=by
 refine Pa (bg Tryz.func97 Vd) (cu (Oh h) ?_);rintro v H _ rfl;exact .d _
end Go.Tz
namespace Go.Tz
open Go Go.AL Go.Proofs Go.Ma
theorem zm{w:Nat}{l:List Ps}(h:SOk w l)(t:Bool):PC Pr GG 95 [cf w l t] (xY w (af l (2*w))):=by
 have hc:=lJ (G:=GG) ⟨h.lo,h.hi⟩ l t (dE h) h.vl;rw[h.len]at hc;have hlen:(af l (2*w)).length=w:=by rw[cZ,h.len]
 refine de hc.fn (cu hc.call ?_);rintro v H _ ⟨rfl,rfl,_⟩;refine .ptr 0 3 0 0 _ _ [iD w,az (af l (2*w)) true,.any] rfl rfl rfl fun j v d h1 h2=>?_
 match j,h1,h2 with
 | 0,h1,h2=>simp at h1 h2;subst h1 h2;exact .d _
 | 1,h1,h2 =>
  simp at h1 h2;subst h1 h2;have:=HR (H:=[(0,some (UE w w)),(1,some (ap 4 ((af l (2*w)).map Ps.l)))]) (nm:=1) (sz:=4) (l:=(af l (2*w)).map Ps.l) (len:=w) (room:=w) (t:=true) rfl qgv
  rwa [pT qgv,decide_eq_true rfl]at this
 | 2,h1,h2=>simp at h1 h2;subst h1 h2;exact .any _
 | j+3,h1,_=>simp at h1
abbrev DT(w:Nat)(l:List Ps):List (Nat×Ps):=NC w (yZ w (af l (2*w)) w)
abbrev LA(w:Nat)(l:List Ps):Nat:=(ic w (af l (2*w)) w).2
structure PgOk (w:Nat) (l:List Ps):Prop where
 flips:PC Pr GG 96 [xY w (af l (2*w))] (F5 (DT w l) false)
 least:PC Pr GG 97 [xY w (af l (2*w))] (iD (LA w l:Nat))
 amp:Amp ((af l (2*w)).map nf) w (LA w l) (DT w l).length (oC w (DT w l) (LA w l))
 len:(DT w l).length<=12
 lt:LA w l<2^w
 ok:∀ a,a∈DT w l->Vl w a.2/\a.1<12
theorem Pc{w:Nat}{l:List Ps}(h:SOk w l):PgOk w l:=by
 obtain⟨r1,r2⟩:=bK h;have hs:=cN r1;have hf:=FP h.hi r1.len r1.vl hs.good w (cF w);have hE:=Jx h.hi hf.pt;obtain⟨s1,s2,s3⟩:=Oj r1;have hm:=hf.le;have hhi:=h.hi;refine⟨RZ ⟨h.lo,h.hi⟩ r1.len r1.vl hs.good,Tc r1,Rh h.hi hs.good hE s1 s2 fun k _ hk=>s3 k hk,?_,s2,fun a ha=>?_⟩
 ·simp only[ef,J4];omega
 ·obtain⟨j,hj,rfl⟩:=bm.1 ha;have:=NH hf (cJ.1 hj);exact⟨this.1,by omega⟩
theorem Id:aq Tryz.f20=true:=ar
theorem MK:aq Tryz.f21=true:=ar
theorem Li{w:Int}{l:List Ps}(t:Bool)(hl:l.length<=1000)(h:bD w l≠0):PC Pr GG 20 [cf w l t] (.tup [.sl [] true,iD (bD w l)]):=by
 have hc:=cT w l t hl;generalize bD w l=e at hc h⊢;have hne:(e != 0)=true:=uz;refine ae pok Tryz.func20 Id ?_;conv=>whnf
 repeat' first|((first|refine O6.mk _ rfl ?_|refine aa hc ?_|refine bp hne ?_);conv=>whnf)
 exact fin rfl
theorem Lk{w:Nat}{l:List Ps}(t:Bool)(h:SOk w l)(h6:6<w):PC Pr GG 20 [cf w l t] (.tup [.sl [] true,iD 3]):=by
 have hc:=cT w l t (dE h);rw[kZ h]at hc;have hgt:decide ((w:Int)>6)=true:=decide_eq_true qad;refine ae pok Tryz.func20 Id ?_;conv=>whnf
 repeat' first|((first|refine O6.mk _ rfl ?_|refine aa hc ?_|refine bp (show((0:Int) != 0)=false from rfl) ?_|refine bp hgt ?_);conv=>whnf)
 exact fin rfl
theorem Lj{w:Nat}{l:List Ps}(t:Bool)(h:SOk w l)(h6:w<=6):bq Pr GG 20 [.d (cf w l t)] [] 0 fun v H _=>v = .tup [.sl 1 5 0 (2^w) (2^w) false,.d (iD 0)]/\H.get 1=some (ap 5 (pv (oC w (DT w l) (LA w l)) (DT w l).length (2^w))):=by
 have hc:=cT w l t (dE h);rw[kZ h]at hc;have hgt:decide ((w:Int)>6)=false:=decide_eq_false qad;have hw:1<=w/\w<=12:=⟨h.lo,h.hi⟩
 have hp:=Pc h;have c1:=zm h t;have c2:=hp.flips;have c3:=hp.least;have c4:=fun b (hb:b<2^w)=>ud (w:=w) hw (DT w l) false (LA w l) b hp.len hp.lt hb hp.ok;have hsh:cU .i64 1 (w:Int)=((2^w:Nat):Int):=cq qad;have hp12:2^w<=4096:=js qaj hw.2;obtain⟨N,hN⟩:∃ N,N=2^w:=⟨_,rfl⟩
 rw[<- hN]at hsh hp12⊢;rw[<- hN]at c4;clear hp;generalize DT w l=A at c2 c4⊢;generalize LA w l=lst at c3 c4⊢;refine bi pok Tryz.func20 Id ?_;conv=>whnf
 repeat' first|((first|refine O6.mk _ rfl ?_|refine aJ ci ?_|refine aa hc ?_|refine bp (show((0:Int) != 0)=false from rfl) ?_|refine bp hgt ?_|refine aa c1 ?_|refine aa c2 ?_|refine aa c3 ?_|rw[hsh]);conv=>whnf)
 refine ax pok (fun k=>⟨[(1,.ptr 0 2 0 0),(6,.d (F5 A false)),(7,.d (iD lst)),(8,.sl 1 5 0 k k false),(26,.d (iD N)),(27,.d (iD k))],[(0,some (.arr 2 [[.d (iD w),.d (az l t)]])),(1,some (ap 5 (pv (oC w A lst) A.length k)))],2⟩) (N) (fun _=>True) (trivial) ?_ ar ?_ ?_
 ·refine Sub.trans (fB (t:=8) (S:=5) (dW _) rfl) ?_;refine ah cW ?_ ?_ trivial
  ·exact gn
  ·exact lZ
 ·intro k A_k h_k I_k N_k;have e_k:aD .i64 (k:Int) 1=((k+1:Nat):Int):=ak eH;have hvs:=EU (val:=oC w A lst) (m:=A.length) (k:=k);have hvl:(pv (oC w A lst) A.length k).length=k:=aR;have hq:(2*(k+1)+192)*40<=281474976710656:=qad;have hc4:=c4 k h_k;generalize pv (oC w A lst) A.length k=V at hvs hvl⊢;generalize pv (oC w A lst) A.length (k+1)=V' at hvs N_k;generalize oC w A lst k=vk at hc4 hvs;conv=>whnf
  repeat (refine O6.mk _ rfl ?_;conv=>whnf)
  intro t ht;cases t
  ·exact bu
  conv=>whnf
  cases vk;all_goals
   repeat' first|((first|refine O6.mk _ rfl ?_|refine O8.mk _ aK ?_|refine aJ (by first|exact⟨mf _,by omega⟩|exact cF _|exact⟨by rw[ef];exact hvl,by decide,hq⟩|assumption|exact⟨by kernel_rfl,rfl⟩|decide|omega) ?_|refine aa hc4 ?_|rw[hJ]|refine HpP.force ?_);conv=>whnf)
   refine N_k _ ?_ ?_
   ·exact cY
   ·first|refine aO [(1,3)] ?_ ?_ ?_ trivial|refine aI [(1,3)] rfl rfl ?_ ?_ ?_ trivial
    ·exact Jz
    ·exact qat
    ·exact iI
 ·intro A_last I_last;conv=>whnf
  repeat (refine O6.mk _ rfl ?_;conv=>whnf)
  intro t ht;cases t;rotate_left
  ·exact bu
  conv=>whnf
  skip;exact fin ⟨rfl,rfl⟩
theorem Qz{w:Nat}{l:List Ps}(t:Bool)(h:SOk w l)(h6:w<=6):PC Pr GG 20 [cf w l t] (.tup [.sl (pv (oC w (DT w l) (LA w l)) (DT w l).length (2^w)) false,iD 0]):=by
 refine de (bg Tryz.func20 Id) (cu (Lj t h h6) ?_);rintro v H _ ⟨rfl,hg⟩;refine .tup _ _ rfl fun j v d h1 h2=>?_
 match j,h1,h2 with
 | 0,h1,h2 =>
  have e1:=ku h1;have e2:=ku h2;rw[<- e1,<- e2];exact fg hg aR
 | 1,h1,h2=>simp at h1 h2;subst h1 h2;exact .d _
 | j+2,h1,_=>simp at h1
theorem zN{w:Int}{l:List Ps}(t:Bool)(b:Int)(hl:l.length<=1000)(h:bD w l≠0):PC Pr GG 21 [cf w l t,iD b] (.tup [uE none 0,iD (bD w l)]):=by
 have hc:=cT w l t hl;generalize bD w l=e at hc h⊢;have hne:(e != 0)=true:=uz;refine ae pok Tryz.func21 MK ?_;conv=>whnf
 repeat' first|((first|refine O6.mk _ rfl ?_|refine O8.mk _ aK ?_|refine aa hc ?_|refine bp hne ?_|refine HpP.force ?_);conv=>whnf)
 exact fin rfl
theorem zO{w:Nat}{l:List Ps}(t:Bool)(b:Int)(h:SOk w l)(hb:b<0\/((2^w:Nat):Int)<=b):PC Pr GG 21 [cf w l t,iD b] (.tup [uE none 0,iD 1]):=by
 have hc:=cT w l t (dE h);rw[kZ h]at hc;have hi:=h.hi;have hsh:cU .i64 1 (w:Int)=((2^w:Nat):Int):=cq qad;generalize 2^w=N at hb hsh;refine ae pok Tryz.func21 MK ?_;conv=>whnf
 repeat' first|((first|refine O6.mk _ rfl ?_|refine O8.mk _ aK ?_|refine aJ ci ?_|refine aa hc ?_|refine bp (show((0:Int) != 0)=false from rfl) ?_|rw[hsh]|refine HpP.force ?_);conv=>whnf)|(intro t ht;cases t<;>conv=>whnf)
 all_goals first|exact fin rfl|(exfalso;simp at *;omega)
theorem Ct{w:Nat}{l:List Ps}(t:Bool)(b:Nat)(h:SOk w l)(hb:b<2^w):PC Pr GG 21 [cf w l t,iD b] (.tup [uE (oC w (DT w l) (LA w l) b) (DT w l).length,iD 0]):=by
 have hc:=cT w l t (dE h);rw[kZ h]at hc;have hw:1<=w/\w<=12:=⟨h.lo,h.hi⟩
 have hp:=Pc h;have c1:=zm h t;have c2:=hp.flips;have c3:=hp.least;have c4:=ud (w:=w) hw (DT w l) false (LA w l) b hp.len hp.lt hb hp.ok;have hsh:cU .i64 1 (w:Int)=((2^w:Nat):Int):=cq qad;have hb0:decide ((b:Int)<0)=false:=decide_eq_false qad;have hbN:decide ((b:Int)>=((2^w:Nat):Int))=false:=decide_eq_false qad;clear hp;generalize DT w l=A at c2 c4⊢;generalize LA w l=lst at c3 c4⊢;generalize A.length=m at c4⊢;generalize oC w A lst b=v at c4⊢;refine ae pok Tryz.func21 MK ?_;conv=>whnf
 cases v;all_goals
  repeat' first|((first|refine O6.mk _ rfl ?_|refine O8.mk _ aK ?_|refine aJ ci ?_|refine aa hc ?_|refine bp (show((0:Int) != 0)=false from rfl) ?_|rw[hsh]|refine bp hbN ?_|refine aa c1 ?_|refine ab c2 ?_|refine ab c3 ?_|refine ab c4 ?_|refine HpP.force ?_);conv=>whnf)
  exact fin rfl
end Go.Tz
