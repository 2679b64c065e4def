import Derived.Test.YtehjjpbpdfnnfaaGreatDoorM00
import Derived.Test.YtehjjpbpdfnnfaaGreatDoorM05
namespace Go.Tz
open Go Go.AL Go.Proofs
variable{G:Nat->Option (List D)}
def pC(l:List Ps)(i:Nat):Bool:=match l[i]? with
 | some q=>decide (q.p.tmod 2≠0)||(l.take i).any fun r=>decide (bc q r≠bc r q)
 | none=>false
def yj(l:List Ps):Bool:=(List.range l.length).any (pC l)
def bD(w:Int)(l:List Ps):Int :=
 if cV w 1 12 then 3 else if(l.length:Int)≠w then 2 else match l.find? fun q=>decide (ie q≠0) with
 | some q=>ie q
 | none=>if l.any fun q=>decide (q.w≠w) then 7 else if yj l then 14 else if nc (af l (2*w.toNat))=l.length then 0 else 14
theorem IB{l:List Ps}{p:Ps->Bool}{i:Nat}(h:i<l.length)(hz:∀ q,q∈l.take i->p q=false)(hp:p l[i]=true):l.find? p=some l[i]:=by
 have e:(l.take i++l[i]::l.drop (i+1)).find? p=some l[i]:=by
  rw[List.find?_append,QG.2 (by intro q hq;simp[hz q hq]),List.find?_cons_of_pos hp];rfl
 have e2:l.take i++l[i]::l.drop (i+1)=l:=by rw[List.getElem_cons_drop,List.take_append_drop]
 rw[e2]at e;exact e
theorem qO{l:List Ps}{i:Nat}(h:i<l.length):pC l i=(decide (l[i].p.tmod 2≠0)||(l.take i).any fun r=>decide (bc l[i] r≠bc r l[i])):=by
 unfold pC;rw[ew h]
theorem vd{l:List Ps}{i:Nat}(h:i<l.length)(hb:pC l i=true):yj l=true:=yF.2 ⟨i,cJ.2 h,hb⟩
theorem L1:aq Tryz.f17=true:=ar
abbrev sH(w:Int)(l:List Ps)(t:Bool):AHeap:=[(0,some (.arr 2 [[.d (iD w),.d (az l t)]]))]
theorem oq(w:Int)(l:List Ps)(t:Bool)(hn:l.length<=1000):PC Pr G 17 [cf w l t] (iD (bD w l)):=by
 refine ae pok Tryz.func17 L1 ?_;conv=>whnf
 repeat' first|(refine O6.mk _ rfl ?_;conv=>whnf)|(refine cc (OE _ _ _) ?_)|(intro t ht;cases t<;>conv=>whnf)
 ·have ho:cV w 1 12=false:=by assumption
  have hw:(l.length:Int)=w:=by simp at *;omega
  have how:1<=w/\w<=12:=qhb;refine fy (σ:={ i:Nat // i<=l.length /\ ∀ q,q∈l.take i->ie q=0 }) (fun s=>⟨[(1,.ptr 0 2 0 0),(3,.d (iD s.1))],sH w l t,1⟩) (fun s=>l.length-s.1) ⟨0,dW _,by simp⟩ ?_ ?_ ?_
  ·exact qbx
  ·exact ar
  rintro⟨i,hi,hz⟩ A hA;dsimp only at hi hz hA⊢;have e1:aD .i64 (i:Int) 1=((i+1:Nat):Int):=GI;rcases wa1 i l.length with hlt|hge
  ·conv=>whnf
   repeat' first|((first|refine O6.mk _ qdx ?_|refine aJ ci ?_|refine aa (Ic _) ?_);conv=>whnf)|(intro t ht;cases t<;>conv=>whnf)
   ·exact lQ
   ·simp at ht;refine hA _ ⟨i+1,hlt,?_⟩ (ah (dW _) ⟨⟨rfl,rfl⟩,⟨congrArg (fun n=>AV.d (iD n)) e1,rfl⟩,trivial⟩ ⟨⟨di rfl,_,rfl,rfl,ay rfl⟩,trivial⟩ trivial) qdo;intro q hq;rw[aC hlt]at hq;rcases ft.1 hq with h|h
    ·exact hz q h
    ·exact qhc
   ·simp at ht;refine fin ?_;unfold bD;rw[ho,if_neg aR,if_neg I0,IB hlt (fun q hq=>by simp[hz q hq]) nb]
  have hfi:l.find? (fun q=>decide (ie q≠0))=none:=QG.2 (by
   intro q hq;rw[pT hge]at hz;simp[hz q hq])
  rw[pT hge]at hz;clear hA e1;conv=>whnf
  repeat' first|((first|refine O6.mk _ rfl ?_|refine aJ ci ?_|fail);conv=>whnf)|(intro t ht;cases t<;>conv=>whnf)
  rotate_left
  ·exact lQ
  refine fy (σ:={ i:Nat // i<=l.length /\ ∀ q,q∈l.take i->q.w=w }) (fun s=>⟨[(1,.ptr 0 2 0 0),(5,.d (iD s.1))],sH w l t,1⟩) (fun s=>l.length-s.1) ⟨0,dW _,by simp⟩ ?_ ?_ ?_
  ·exact qbx
  ·exact ar
  rintro⟨i2,hi2,hz2⟩ A2 hA;dsimp only at hi2 hz2 hA⊢;have e1:aD .i64 (i2:Int) 1=((i2+1:Nat):Int):=GI;rcases wa1 i2 l.length with hlt|hge2
  ·conv=>whnf
   repeat' first|((first|refine O6.mk _ qdx ?_|refine aJ ci ?_|refine HpP.force ?_);conv=>whnf)|(intro t ht;cases t<;>conv=>whnf)
   ·exact lQ
   ·simp at ht;refine hA _ ⟨i2+1,hlt,?_⟩ (ah (dW _) ⟨⟨rfl,rfl⟩,⟨congrArg (fun n=>AV.d (iD n)) e1,rfl⟩,trivial⟩ ⟨⟨di rfl,_,rfl,rfl,ay rfl⟩,trivial⟩ trivial) (by show l.length-(i2+1)<l.length-i2;omega);intro q hq;rw[aC hlt]at hq;rcases ft.1 hq with h|h
    ·exact hz2 q h
    ·exact qhc
   ·simp at ht;refine fin ?_;unfold bD;rw[ho,if_neg aR,if_neg I0,hfi];dsimp only;rw[if_pos (yF.2 ⟨_,ey hlt,by simpa using ht⟩)]
  rw[pT hge2]at hz2;have hni:l.any (fun q=>decide (q.w≠w))=false:=BX.2 (by intro q hq;simp[hz2 q hq]);have hchk:bD w l=if yj l then 14 else if nc (af l (2*w.toNat))=l.length then 0 else 14:=by
   unfold bD;rw[ho,if_neg aR,if_neg I0,hfi];dsimp only;rw[hni,if_neg aR]
  clear hA e1;conv=>whnf
  repeat' first|((first|refine O6.mk _ rfl ?_|refine aJ ci ?_|fail);conv=>whnf)|(intro t ht;cases t<;>conv=>whnf)
  rotate_left
  ·exact lQ
  refine fy (σ:={ i:Nat // i<=l.length /\ ∀ j,j<i->pC l j=false }) (fun s=>⟨[(1,.ptr 0 2 0 0),(6,.d (iD s.1))],sH w l t,1⟩) (fun s=>l.length-s.1) ⟨0,dW _,by intro j hj;omega⟩ ?_ ?_ ?_
  ·exact qbx
  ·exact ar
  rintro⟨i3,hi3,hz3⟩ A3 hA;dsimp only at hi3 hz3 hA⊢;have e1:aD .i64 (i3:Int) 1=((i3+1:Nat):Int):=GI;rcases wa1 i3 l.length with hlt|hge3
  rotate_left
  ·have hb:yj l=false:=BX.2 (by intro j hj;rw[hz3 j (by have:=cJ.1 hj;omega)];simp);rw[hb,if_neg aR]at hchk;have hin:=IY (G:=G) l t w hn qad hz2 how.1 how.2;conv=>whnf
   repeat' first|((first|refine O6.mk _ rfl ?_|refine aJ ci ?_|fail);conv=>whnf)|(refine cc hin ?_)|(intro t ht;cases t<;>conv=>whnf)
   ·refine fin ?_;rw[hchk,if_neg nb]
   ·refine fin ?_;rw[hchk,if_pos nb]
   ·exact lQ
  ·have hwi:1<=(l[i3]).w/\(l[i3]).w<=24:=by rw[hz2 _ (ey hlt)];omega
   conv=>whnf
   repeat' first|((first|refine O6.mk _ qdx ?_|refine aJ ci ?_|fail);conv=>whnf)|(intro t ht;cases t<;>conv=>whnf)
   ·exact lQ
   ·simp at ht;have hev:=ht;refine fy (σ:={ j:Nat // j<=i3 /\ ∀ r,r∈l.take j->bc l[i3] r=bc r l[i3] }) (fun s=>⟨[(1,.ptr 0 2 0 0),(6,.d (iD i3)),(7,.d (iD s.1))],sH w l t,1⟩) (fun s=>i3-s.1) ⟨0,dW _,by simp⟩ ?_ ?_ ?_
    ·exact ah (dW _) ⟨⟨rfl,rfl⟩,⟨rfl,rfl⟩,⟨rfl,rfl⟩,trivial⟩ ⟨⟨di rfl,_,rfl,rfl,ay rfl⟩,trivial⟩ trivial
    ·exact ar
    rintro⟨j,hj,hz4⟩ A4 hA4;dsimp only at hj hz4 hA4⊢;have e2:aD .i64 (j:Int) 1=((j+1:Nat):Int):=GI;rcases wa1 j i3 with hlt4|hge4
    ·have hj2:j<l.length:=by omega
     have hwj:(l[j]).w=(l[i3]).w:=by rw[hz2 _ (ey hlt),hz2 _ (ey hj2)]
     conv=>whnf
     repeat' first|((first|refine O6.mk _ (by first|rfl|exact gG hlt|exact gG hj2) ?_|refine aJ ci ?_|fail);conv=>whnf)|(refine od (sX _ _ hwi hwj) ?_)|(refine HpP.force ?_;conv=>whnf)|(intro t ht;cases t<;>conv=>whnf)
     ·exact lQ
     ·simp at ht;refine fin ?_;rw[hchk,if_pos (vd hlt (by rw[qO hlt,zG];exact .inr (yF.2 ⟨l[j],QW.2 ⟨j,by omega,rfl⟩,by simpa using ht⟩)))]
     ·simp at ht;refine hA4 _ ⟨j+1,hlt4,?_⟩ (ah (dW _) ⟨⟨rfl,rfl⟩,⟨rfl,rfl⟩,⟨congrArg (fun n=>AV.d (iD n)) e2,rfl⟩,trivial⟩ ⟨⟨di rfl,_,rfl,rfl,ay rfl⟩,trivial⟩ trivial) (by show i3-(j+1)<i3-j;omega);intro q hq;rw[aC hj2]at hq;rcases ft.1 hq with h|h
      ·exact hz4 q h
      ·exact qhc
    ·have hji:j=i3:=by omega
     subst hji;conv=>whnf
     repeat' first|((first|refine O6.mk _ rfl ?_|refine aJ ci ?_|fail);conv=>whnf)|(intro t ht;cases t<;>conv=>whnf)
     ·refine hA _ ⟨j+1,hlt,?_⟩ (ah (dW _) ⟨⟨rfl,rfl⟩,⟨congrArg (fun n=>AV.d (iD n)) e1,rfl⟩,trivial⟩ ⟨⟨di rfl,_,rfl,rfl,ay rfl⟩,trivial⟩ trivial) (by show l.length-(j+1)<l.length-j;omega);intro q hq;rcases wa1 q j with h|h
      ·exact hz3 q h
      ·have:q=j:=by omega
       subst this;rw[qO hlt,decide_eq_false (by simpa using hev),Bool.false_or,BX];intro r hr;simpa using hz4 r hr
     ·exact Fl
   ·simp at ht;refine fin ?_;rw[hchk,if_pos (vd hlt (by rw[qO hlt];simp[ht]))]
 ·refine fin ?_;have ho:cV w 1 12=false:=LH;unfold bD;rw[ho,if_neg aR,if_pos nb]
 ·refine fin ?_;have ho:cV w 1 12=true:=LH;unfold bD;rw[ho,if_pos rfl]
end Go.Tz
namespace Go.Tz
open Go Go.AL Go.Proofs
variable{G:Nat->Option (List D)}
def ii(w:Int)(l:List Ps):Ps:=l.foldl bc ⟨w,0,0,0⟩
theorem IJ{w:Int}:∀(l:List Ps) (q:Ps),q.w=w->(l.foldl bc q).w=w
 | [],_,h=>h
 | r::l,q,h=>IJ l (bc q r) h
theorem xl(w:Int)(l:List Ps)(q:Ps):ii w (l++[q])=bc (ii w l) q:=by simp[ii]
theorem XF:aq Tryz.f205=true:=ar
theorem TE(w:Int)(l:List Ps)(t:Bool)(hn:l.length<=1000)(hw1:1<=w)(hw2:w<=12)(hww:∀ q,q∈l->q.w=w):PC Pr G 205 [iD w,az l t] (ii w l).d:=by
 refine ae pok Tryz.func205 XF ?_;conv=>whnf
 repeat' first|((first|refine O6.mk _ rfl ?_|refine O8.mk _ aK ?_|refine HpP.force ?_);conv=>whnf)
 refine fy (σ:={ i:Nat // i<=l.length }) (fun s=>⟨[(1,.d (az l t)),(4,.ptr 0 4 0 0),(5,.ptr 1 4 0 0),(6,.d (iD s.1))],[(0,some (.arr 4 [(Ps.l ⟨0,0,0,0⟩).map AV.d])),(1,some (.arr 4 [(ii w (l.take s.1)).l.map AV.d]))],2⟩) (fun s=>l.length-s.1) ⟨0,dW _⟩ ?_ ?_ ?_
 ·exact ah (dW _) ⟨⟨rfl,rfl⟩,⟨rfl,rfl⟩,⟨rfl,rfl⟩,⟨rfl,rfl⟩,trivial⟩ ⟨⟨di rfl,_,rfl,rfl,ay rfl⟩,⟨di rfl,_,rfl,rfl,ay rfl⟩,trivial⟩ trivial
 ·exact ar
 rintro⟨i,hi⟩ A hA;dsimp only at hi hA⊢;have e1:aD .i64 (i:Int) 1=((i+1:Nat):Int):=GI;have hpw:(ii w (l.take i)).w=w:=IJ _ _ rfl;rcases wa1 i l.length with hlt|hge
 ·have hwi:(l[i]).w=(ii w (l.take i)).w:=by rw[hpw];exact hww _ (ey hlt)
  have hsn:ii w (l.take (i+1))=bc (ii w (l.take i)) l[i]:=by rw[aC hlt,xl]
  have hgw:1<=(ii w (l.take i)).w/\(ii w (l.take i)).w<=24:=qad;generalize ii w (l.take i)=g at hwi hsn hgw hpw⊢;conv=>whnf
  repeat' first|((first|refine O6.mk _ qdx ?_|refine O8.mk _ aK ?_|refine aJ ci ?_|refine ab (mF _ _ hgw hwi) ?_|refine HpP.force ?_);conv=>whnf)|(intro t ht;cases t<;>conv=>whnf)
  ·exact lQ
  ·refine hA _ ⟨i+1,hlt⟩ (ah (dW _) ⟨⟨rfl,rfl⟩,⟨rfl,rfl⟩,⟨rfl,rfl⟩,⟨congrArg (fun n=>AV.d (iD n)) e1,rfl⟩,trivial⟩ ⟨⟨di rfl,_,rfl,rfl,ay rfl⟩,⟨di rfl,_,rfl,by rw[hsn];rfl,ay rfl⟩,trivial⟩ trivial) qdo
 ·conv=>whnf
  repeat' first|((first|refine O6.mk _ rfl ?_|refine O8.mk _ aK ?_|refine aJ ci ?_|refine HpP.force ?_);conv=>whnf)|(intro t ht;cases t<;>conv=>whnf)
  ·refine fin ?_;rw[pT hge];rfl
  ·exact lQ
end Go.Tz
namespace Go.Tz
open Go Go.AL Go.Proofs Go.Ma
variable{G:Nat->Option (List D)}
theorem ed(q:Ps):dg q=ie q:=by
 unfold dg ie cV;have d0:(decide (q.w<1)||decide (q.w>12))=decide (q.w<1\/q.w>12):=by
  rw[tV];simp
 rw[d0];simp only[decide_eq_true_eq];by_cases h1:q.w<1\/q.w>12
 ·rw[if_pos h1,if_pos h1]
 ·rw[if_neg h1,if_neg h1];obtain⟨w,hw⟩:∃ w:Nat,q.w=w:=⟨q.w.toNat,by omega⟩
  have hw12:1<=w/\w<=12:=qad;rw[hw,cq qad];have hp:(2:Nat)^w<=2^12:=js qaj hw12.2;have IR:0<(2:Nat)^w:=sk w;have e:cO .i64 ((2^w:Nat):Int) 1=((2^w-1:Nat):Int):=iY (b:=1) qad qad;rw[e];generalize 2^w=p at hp IR;have e1:(decide (q.x<0)||decide (q.x>((p-1:Nat):Int))||(decide (q.z<0)||decide (q.z>((p-1:Nat):Int))))=decide (q.x<0\/q.z<0\/q.x>=(p:Int)\/q.z>=(p:Int)):=by
   rw[tV];simp;omega
  have e2:(decide (q.p<0)||decide (q.p>3))=decide (q.p<0\/q.p>3):=by
   rw[tV];simp
  rw[e1,e2];simp only[decide_eq_true_eq]
theorem QB{w:Nat}{q:Ps}(h:ie q=0)(hw:q.w=w):Vl w q:=by
 rw[<- ed]at h;unfold dg at h;split at h
 ·cases h
 rename_i h1;split at h
 ·cases h
 rename_i h2;split at h
 ·cases h
 rename_i h3;rw[hw]at h1 h2;rw[cq qad]at h2;refine⟨q.x.toNat,q.z.toNat,q.p.toNat,?_,by omega,by omega,by omega⟩;obtain⟨a,b,c,d⟩:=q;simp only at hw h2 h3;subst hw;unfold mk;simp only[Ps.mk.injEq,true_and];omega
theorem yO{α:Type}{p q:α->Bool}:∀{l:List α},(∀ a,a∈l->p a=q a)->l.any p=l.any q
 | [],_=>rfl
 | a::l,h=>by
  rw[List.any_cons,List.any_cons,h a aR,yO fun b hb=>h b (eJ _ hb)]
theorem WO:aq Tryz.f114=true:=ar
theorem sp{w:Nat}(hw:1<=w/\w<=12){q r:Ps}(hq:Vl w q)(hr:Vl w r):PC Pr G 114 [.agg q.l,r.d] (.bool (bS q r)):=by
 have hc:=FJ (G:=G) hw hq hr;refine ae pok Tryz.func114 WO ?_;conv=>whnf
 repeat' first|((first|refine O6.mk _ rfl ?_|refine aa hc ?_);conv=>whnf)
 exact fin rfl
theorem WN:aq Tryz.f113=true:=ar
theorem UB(q:Ps)(w:Int)(l:List Ps)(t:Bool):PC Pr G 113 [q.d,.rop [iD w,az l t] 0] (.bool (decide (q.w=w))):=by
 refine ae pok Tryz.func113 WN ?_;conv=>whnf
 repeat' first|(refine O6.mk _ rfl ?_;conv=>whnf)|(intro t ht;cases t<;>conv=>whnf)
 all_goals
  refine fin ?_;have e:(q.w==w)=decide (q.w=w):=qgm;rw[<- e,ht]
theorem Qr{f:FuncId}{m:List Ps}{x:List (List D)}{t0:Bool}{d2:D}{b:Bool}{H:AHeap}{nx:Nat}{k:AV->AHeap->Nat->Prop}(h:∀ t',PC Pr G f [az m t',d2] (.bool b))(e:x=m.map Ps.l)(hk:∀ t,b=t->k (.d (.bool t)) H nx):P3 Pr G f [.d (.sl x t0),.d d2] H nx k:=by
 subst e;exact cc (h t0) hk
theorem La(l:List Ps)(i:Nat):List.take ((i:Int).toNat-0) (List.drop 0 (List.map Ps.l l))=(l.take i).map Ps.l:=by
 rw[gx,Wb,LQ,E0]
theorem M0:aq Tryz.f36=true:=ar
theorem cT(w:Int)(l:List Ps)(t:Bool)(hn:l.length<=1000):PC Pr GG 36 [cf w l t] (iD (bD w l)):=by
 have hev:=CT (G:=GG) l t 113 [] [.rop [iD w,az l t] 0] (fun q=>decide (q.w=w)) hn fun q _=>UB q w l t;refine ae pok Tryz.func36 M0 ?_;conv=>whnf
 repeat' first|(refine O6.mk _ rfl ?_;conv=>whnf)|(intro t ht;cases t<;>conv=>whnf)
 ·have ho:cV w 1 12=false:=by simp at *;unfold cV;simp;omega
  have hw:(l.length:Int)=w:=by simp at *;omega
  have how:1<=w/\w<=12:=qhb;refine ax pok (fun i=>⟨[(1,.ptr 0 2 0 0),(28,.d (az l t)),(29,.d (iD (l.map Ps.l).length)),(30,.d (iD i))],[(0,some (.arr 2 [[.d (iD w),.d (az l t)]]))],1⟩) (l.length) (fun i=>∀ q,q∈l.take i->ie q=0) aR ?_ ar ?_ ?_
  ·exact nr
  ·intro i A_i h_i I_i N_i;have e_i:aD .i64 (i:Int) 1=((i+1:Nat):Int):=ak eH;have hc:=iR (G:=GG) l[i];rw[ed]at hc;have hfa:=IB (p:=fun q=>decide (ie q≠0)) h_i (fun q hq=>by simp[I_i q hq]);have hst:∀{e},ie l[i]=e->e=0->∀ q,q∈l.take (i+1)->ie q=0:=by
    intro e h1 h2 q hq;rw[aC h_i]at hq;rcases ft.1 hq with h|h
    ·exact I_i q h
    ·rw[mb.1 h,h1,h2]
   have hch:ie l[i]≠0->bD w l=ie l[i]:=by
    intro h;unfold bD;rw[ho,if_neg aR,if_neg I0,hfa uz]
   generalize hpe:ie l[i]=e at hc hch;conv=>whnf
   repeat (refine O6.mk _ rfl ?_;conv=>whnf)
   intro t ht;cases t
   ·exact bu
   conv=>whnf
   repeat' first|((first|refine O6.mk _ TJ ?_|refine O8.mk _ aK ?_|refine aJ ci ?_|refine aa hc ?_|refine HpP.force ?_);conv=>whnf)|(intro t ht;cases t<;>conv=>whnf)
   ·refine N_i _ ?_ ?_
    ·exact hst hpe nb
    ·exact yv
   ·refine fin ?_;rw[hch nb]
  ·intro A_last I_last;rw[pS]at I_last;conv=>whnf
   repeat (refine O6.mk _ rfl ?_;conv=>whnf)
   intro t ht;cases t;rotate_left
   ·exact bu
   conv=>whnf
   have hfi:l.find? (fun q=>decide (ie q≠0))=none:=QG.2 (by
    intro q hq;simp[I_last q hq])
   repeat' first|(refine O6.mk _ rfl ?_;conv=>whnf)|(refine eV hev rfl ?_)|(intro t ht;cases t<;>conv=>whnf)
   ·refine fin ?_;have hni:l.any (fun q=>decide (q.w≠w))=true:=by
     obtain⟨q,hq,h⟩:=List.all_eq_false.1 ht;exact yF.2 ⟨q,hq,by simpa using h⟩
    unfold bD;rw[ho,if_neg aR,if_neg I0,hfi];dsimp only;rw[hni,if_pos rfl]
   ·have hal:=ht;have hws:∀ q,q∈l->q.w=w:=fun q hq=>by have:=lh.1 hal q hq;simpa using this
    obtain⟨W,rfl⟩:∃ W:Nat,w=W:=⟨w.toNat,by omega⟩
    have hW:1<=W/\W<=12:=qad;have hv:∀ q,q∈l->Vl W q:=fun q hq=>QB (I_last q hq) (hws q hq);have hni:l.any (fun q=>decide (q.w≠W))=false:=BX.2 (by intro q hq;simp[hws q hq]);have hchk:bD W l=if yj l then 14 else if nc (af l (2*W))=l.length then 0 else 14:=by
     unfold bD;rw[ho,if_neg aR,if_neg I0,hfi];dsimp only;rw[hni,if_neg aR,gx]
    refine ax pok (fun i=>⟨[(1,.ptr 0 2 0 0),(46,.d (az l t)),(47,.d (iD (l.map Ps.l).length)),(48,.d (iD i))],[(0,some (.arr 2 [[.d (iD W),.d (az l t)]]))],1⟩) (l.length) (fun i=>∀ j,j<i->pC l j=false) qad ?_ ar ?_ ?_
    ·exact nr
    ·intro i A_i h_i I_i N_i;have e_i:aD .i64 (i:Int) 1=((i+1:Nat):Int):=ak eH;have hvi:=hv _ (ey h_i);have hev2:∀ t',PC Pr GG 112 [az (l.take i) t',.fn 114 [.agg l[i].l] []] (.bool ((l.take i).all (bS l[i]))):=fun t' =>
      CT (l.take i) t' 114 [.agg l[i].l] [] (bS l[i]) (by rw[BZ];omega) fun q hq=>sp hW hvi (hv q (Ci hq))
     have hba:pC l i=(decide (l[i].p.tmod 2≠0) || !(l.take i).all (bS l[i])):=by
      rw[qO h_i];congr 1;rw[List.not_all_eq_any_not];refine yO fun q hq=>?_;have:=Ac hW.2 hvi (hv q (Ci hq));rw[<- this];simp
     have hp2:l[i].p.tmod 2=0\/l[i].p.tmod 2=1:=by
      obtain⟨X,Z,P,he,g1,g2,g3⟩:=hvi;rw[he];show(P:Int).tmod 2=0\/(P:Int).tmod 2=1;rw[VW qad];omega
     conv=>whnf
     repeat (refine O6.mk _ rfl ?_;conv=>whnf)
     intro t ht;cases t
     ·exact bu
     conv=>whnf
     repeat' first|((first|refine O6.mk _ TJ ?_|refine O8.mk _ aK ?_|refine aJ (by first|exact⟨dW _,by rw[gx,ef];omega,ko _⟩|assumption|exact⟨by kernel_rfl,rfl⟩|decide|omega) ?_|refine Qr hev2 (La l i) ?_|refine HpP.force ?_);conv=>whnf)|(intro t ht;cases t<;>conv=>whnf)
     ·refine fin ?_;rw[hchk,if_pos (vd h_i (by rw[hba,ht];simp))]
     ·have hz:l[i].p.tmod 2=0:=by
       rcases hp2 with h|h
       ·exact h
       ·exfalso;simp_all
      have hbz:pC l i=false:=by rw[hba,ht,hz];rfl
      refine N_i _ ?_ ?_
      ·(intro j hj;rcases wa1 j i with h|h;exact I_i j h;rw[show j=i by omega];exact hbz)
      ·exact yv
     ·refine fin ?_;rw[hchk,if_pos (vd h_i (by rw[hba];have:l[i].p.tmod 2=1:=nb;simp[this]))]
    ·intro A_last I_last;have hb:yj l=false:=BX.2 (by intro j hj;rw[I_last j (cJ.1 hj)];simp);rw[hb,if_neg aR]at hchk;have hin:=YL hW l t qad qad hv;have hie:=rq hW.2 hv qad;generalize (tf (bW l) l.length).length=gl at hin hie;conv=>whnf
     repeat (refine O6.mk _ rfl ?_;conv=>whnf)
     intro t ht;cases t;rotate_left
     ·exact bu
     conv=>whnf
     repeat' first|(refine O6.mk _ rfl ?_;conv=>whnf)|(refine Pb (hin) ?_)|(intro t ht;cases t<;>conv=>whnf)
     ·refine fin ?_;rw[hchk,if_neg fun h=>by simp at ht;exact ht (hie.2 h)]
     ·refine fin ?_;rw[hchk,if_pos (hie.1 nb)]
 ·refine fin ?_;have ho:cV w 1 12=false:=by simp at *;unfold cV;simp;omega
  unfold bD;rw[ho,if_neg aR,if_pos nb]
 ·exact qjp
 ·exact qjp
end Go.Tz
namespace Go.Tz
open Go Go.AL Go.Proofs Go.Ma
variable{G:Nat->Option (List D)}
structure SOk (w:Nat) (l:List Ps):Prop where
 lo:1<=w
 hi:w<=12
 len:l.length=w
 vl:∀ q,q∈l->Vl w q
 good:yj l=false
 rank:nc (af l (2*w))=l.length
theorem jT{w:Int}{l:List Ps}(h:bD w l=0):∃ W:Nat,w=W/\SOk W l:=by
 unfold bD at h;split at h
 ·cases h
 rename_i ho;split at h
 ·cases h
 rename_i hl;split at h
 ·rename_i q hf;have:=List.find?_some hf;simp at this;exact absurd h this
 rename_i hf;split at h
 ·cases h
 rename_i hw;split at h
 ·cases h
 rename_i hb;split at h
 ·rename_i hr;have ho':1<=w/\w<=12:=qhb;obtain⟨W,rfl⟩:∃ W:Nat,w=W:=⟨w.toNat,by omega⟩
  rw[gx]at hr;refine⟨W,rfl,by omega,by omega,by simp at hl;omega,fun q hq=>?_,by simpa using hb,hr⟩;have h1:=QG.1 hf q hq;have h2:q.w=W:=by
   have:=hw;simp only[yF,not_exists]at this;have:=this q;simp[hq]at this;exact this
  exact QB A6 h2
 ·cases h
theorem kZ{w:Nat}{l:List Ps}(h:SOk w l):bD w l=0:=by
 have hlo:=h.lo;have hhi:=h.hi;have e1:cV (w:Int) 1 12=false:=by unfold cV;simp;omega
 have e2:l.find? (fun q=>decide (ie q≠0))=none:=QG.2 fun q hq=>by
  rw[<- ed,qm ⟨hlo,hhi⟩ (h.vl q hq)];simp
 have e3:l.any (fun q=>decide (q.w≠w))=false:=BX.2 fun q hq=>by simp[dr (h.vl q hq)]
 unfold bD;rw[e1,if_neg aR,if_neg (by simp[h.len]),e2];dsimp only;rw[e3,if_neg aR,h.good,if_neg aR,gx,if_pos h.rank]
theorem Ie:aq Tryz.f31=true:=ar
def FA(w:Int)(l:List Ps):D:=if bD w l=0 then .tup [cf w (af l (2*w.toNat)) true,iD 0] else .tup [cf 0 [] true,iD (bD w l)]
theorem Rv(w:Int)(l:List Ps)(t:Bool)(hn:l.length<=1000):PC Pr GG 31 [cf w l t] (FA w l):=by
 have hc:=cT w l t hn;have hok:=jT (w:=w) (l:=l);unfold FA;by_cases h:bD w l=0
 ·obtain⟨W,rfl,hs⟩:=hok h;have h1:=qS (G:=GG) ⟨hs.lo,hs.hi⟩ l t hn hs.vl;rw[h]at hc;rw[if_pos h,gx];refine ae pok Tryz.func31 Ie ?_;conv=>whnf
  repeat' first|((first|refine O6.mk _ rfl ?_|refine O8.mk _ aK ?_|refine aa hc ?_|refine aa h1 ?_|refine HpP.force ?_);conv=>whnf)|(intro t ht;cases t<;>conv=>whnf)
  ·exact GL
  ·exact xt
 ·rw[if_neg h];generalize bD w l=e at hc h;refine ae pok Tryz.func31 Ie ?_;conv=>whnf
  repeat' first|((first|refine O6.mk _ rfl ?_|refine O8.mk _ aK ?_|refine aa hc ?_|refine HpP.force ?_);conv=>whnf)|(intro t ht;cases t<;>conv=>whnf)
  ·exact absurd nb h
  ·exact GL
theorem WJ:aq Tryz.f106=true:=ar
def gC(w:Int)(l:List Ps)(w':Int)(l':List Ps):Int:=if bD w l≠0 then bD w l else if bD w' l'≠0 then bD w' l' else if w≠w' then 7 else 0
theorem HX(w:Int)(l:List Ps)(t:Bool)(w':Int)(l':List Ps)(t':Bool)(hn:l.length<=1000)(hn':l'.length<=1000):PC Pr GG 106 [cf w l t,cf w' l' t'] (iD (gC w l w' l')):=by
 have h1:=cT w l t hn;have h2:=cT w' l' t' hn';unfold gC;generalize bD w l=a at h1⊢;generalize bD w' l'=b at h2⊢;refine ae pok Tryz.func106 WJ ?_;conv=>whnf
 repeat' first|((first|refine O6.mk _ rfl ?_|refine aa h1 ?_|refine aa h2 ?_);conv=>whnf)|(intro t ht;cases t<;>conv=>whnf)
 all_goals refine fin ?_
 all_goals refine congrArg (fun n=>AV.d (iD n)) ?_
 all_goals (try simp only[bne_iff_ne,ne_eq,bne_eq_false_iff_eq,Decidable.not_not]at *)
 all_goals repeat' split
 all_goals first|rfl|(exfalso;omega)|(exfalso;simp at *;omega)
theorem UT:aq Tryz.f32=true:=ar
def Et(w:Int)(l:List Ps)(w':Int)(l':List Ps):D:=if gC w l w' l'=0 then .tup [.bool (decide (af l (2*w.toNat)=af l' (2*w.toNat))),iD 0] else .tup [.bool false,iD (gC w l w' l')]
theorem zU{w:Int}{l:List Ps}{w':Int}{l':List Ps}(h:gC w l w' l'=0):∃ W:Nat,w=W/\w'=W/\SOk W l/\SOk W l':=by
 unfold gC at h;split at h
 ·contradiction
 rename_i h1;split at h
 ·contradiction
 rename_i h2;split at h
 ·cases h
 rename_i h3;simp only[ne_eq,Decidable.not_not]at h1 h2 h3;obtain⟨W,e,hs⟩:=jT h1;obtain⟨W',e',hs'⟩:=jT h2;have:W'=W:=qad;subst this;exact⟨W',e,e',hs,hs'⟩
theorem C8(w:Int)(l:List Ps)(t:Bool)(w':Int)(l':List Ps)(t':Bool)(hn:l.length<=1000)(hn':l'.length<=1000):PC Pr GG 32 [cf w l t,cf w' l' t'] (Et w l w' l'):=by
 have hb:=HX w l t w' l' t' hn hn';have hok:=zU (w:=w) (l:=l) (w':=w') (l':=l');unfold Et;by_cases h:gC w l w' l'=0
 ·obtain⟨W,rfl,rfl,hs,hs'⟩:=hok h;have h1:=qS (G:=GG) ⟨hs.lo,hs.hi⟩ l t hn hs.vl;have h2:=qS (G:=GG) ⟨hs'.lo,hs'.hi⟩ l' t' hn' hs'.vl;rw[h]at hb;rw[if_pos h,gx];have h3:=Iy (G:=GG) (af l (2*W)) (af l' (2*W)) true true (by rw[cZ];omega);generalize decide (af l (2*W)=af l' (2*W))=d at h3⊢;generalize af l (2*W)=m at h1 h3;generalize af l' (2*W)=m' at h2 h3;refine ae pok Tryz.func32 UT ?_;conv=>whnf
  repeat' first|((first|refine O6.mk _ rfl ?_|refine aa hb ?_|refine ab h1 ?_|refine ab h2 ?_|refine ab h3 ?_|refine HpP.force ?_);conv=>whnf)|(intro t ht;cases t<;>conv=>whnf)
  ·exact GL
  ·exact xt
 ·rw[if_neg h];generalize gC w l w' l'=e at hb h;refine ae pok Tryz.func32 UT ?_;conv=>whnf
  repeat' first|((first|refine O6.mk _ rfl ?_|refine aa hb ?_);conv=>whnf)|(intro t ht;cases t<;>conv=>whnf)
  ·exact absurd nb h
  ·exact GL
theorem MQ:aq Tryz.f35=true:=ar
theorem sA{n:Int}(h:n<1\/n>12):PC Pr GG 35 [iD n] (.tup [cf 0 [] true,iD 3]):=by
 refine ae pok Tryz.func35 MQ ?_;conv=>whnf
 repeat' first|((first|refine O6.mk _ rfl ?_|refine O8.mk _ aK ?_|refine HpP.force ?_);conv=>whnf)|(intro t ht;cases t<;>conv=>whnf)
 ·exfalso;simp at *;omega
 ·exact GL
 ·exact GL
theorem L9:aq Tryz.f30=true:=ar
theorem sy{n:Int}(h:n<1\/n>12):PC Pr GG 30 [iD n] (.tup [cf 0 [] true,iD 3]):=by
 have ho:=OE (G:=GG) n 1 12;have e:cV n 1 12=true:=by unfold cV;simp;omega
 rw[e]at ho;refine ae pok Tryz.func30 L9 ?_;conv=>whnf
 repeat' first|((first|refine O6.mk _ rfl ?_|refine O8.mk _ aK ?_|refine aa ho ?_|refine HpP.force ?_);conv=>whnf)
 exact fin rfl
theorem Mu:aq Tryz.f107=true:=ar
def nk(l:List Ps)(p:Ps):Int:=if(mr (kH (bW l) l.length) (nf p).2 (kH (bW l) l.length).length).1=0 then cO .i64 1 ((aD .i64 (cO .i64 p.p (ni p.w l (mr (kH (bW l) l.length) (nf p).2 (kH (bW l) l.length).length).2 l.length).p) 4).tmod 4) else 0
theorem gh{w:Nat}{l:List Ps}(hs:SOk w l)(t:Bool){p:Ps}(hp:Vl w p):PC Pr GG 107 [cf w l t,p.d] (iD (nk l p)):=by
 have hlo:=hs.lo;have hhi:=hs.hi;have hlen:=hs.len;have hg:tf (bW l) l.length=[]:=by
  have:=(rq hhi hs.vl qad).2 hs.rank;exact QE.1 this
 have hf:=RV ⟨hlo,hhi⟩ l t p qad qad hs.vl hp hg;unfold Yr at hf;unfold nk;generalize mr (kH (bW l) l.length) (nf p).2 (kH (bW l) l.length).length=a at hf⊢;generalize (aD .i64 (cO .i64 p.p (ni p.w l a.2 l.length).p) 4).tmod 4=n at hf⊢;by_cases h:a.1=0
 ·rw[if_pos h]at hf⊢;refine ae pok Tryz.func107 Mu ?_;conv=>whnf
  repeat' first|((first|refine O6.mk _ rfl ?_|refine aa hf ?_);conv=>whnf)|(intro t ht;cases t<;>conv=>whnf)
  ·exact GL
  ·exact xt
 ·rw[if_neg h]at hf⊢;refine ae pok Tryz.func107 Mu ?_;conv=>whnf
  repeat' first|((first|refine O6.mk _ rfl ?_|refine aa hf ?_);conv=>whnf)|(intro t ht;cases t<;>conv=>whnf)
  ·exact xt
  ·exact GL
end Go.Tz
namespace Go.Tz
open Go Go.AL Go.Proofs Go.Ma
variable{G:Nat->Option (List D)}
theorem Vb:aq Tryz.f95=true:=ar
abbrev UE(w N:Nat):Blk:=.arr 3 [[.d (iD w),.sl 1 4 0 N N true,.fn 136 [.ptr 0 3 0 0] []]]
theorem lJ{w:Nat}(hw:1<=w/\w<=12)(l:List Ps)(t:Bool)(hn:l.length<=1000)(hv:∀ q,q∈l->Vl w q):PO Pr G 95 [cf w l t] (.ptr 0 3 0 0) [(0,some (UE w l.length)),(1,some (ap 4 ((af l (2*w)).map Ps.l)))] 2:=by
 have hc:=lx (G:=G) hw l t hn hv;generalize af l (2*w)=m at hc⊢;refine⟨bg Tryz.func95 Vb,bk (K:=fun v H _=>v = .ptr 2 3 0 0/\H.get 2=some (.arr 3 [[.d (iD w),.sl 1 4 0 l.length l.length true,.fn 136 [.ptr 2 3 0 0] []]])/\H.get 1=some (ap 4 (m.map Ps.l))) (bi pok Tryz.func95 Vb ?_) ?_⟩
 ·conv=>whnf
  repeat' first|((first|refine O6.mk _ rfl ?_|refine O8.mk _ aK ?_|refine aY hc ?_|refine HpP.force ?_);conv=>whnf)
  refine fin ⟨rfl,rfl,?_⟩;show some (Blk.ren _ (ap 4 (m.map Ps.l)))=_;rw[aE]
 ·rintro v H n ⟨rfl,h1,h2⟩;refine⟨_,_,2,?_,rfl,rfl,rfl⟩;first|refine aO [(0,2),(1,1)] ?_ ?_ ?_ trivial|refine aI [(0,2),(1,1)] rfl rfl ?_ ?_ ?_ trivial
  ·exact gn
  ·repeat' first|exact trivial|refine⟨⟨di rfl,_,rfl,by first|rfl|assumption|exact aw rfl (by first|rfl|assumption|exact h1|exact aw rfl h2)|exact h1|exact aw rfl h2,by first|exact ay rfl|exact aj _ _ _|exact au rfl⟩,?_⟩
  ·exact iI
theorem Mv:aq Tryz.f108=true:=ar
theorem vX:aq Tryz.f195=true:=ar
theorem vY:aq Tryz.f247=true:=ar
theorem FE:aq Tryz.f185=true:=ar
theorem MN:aq Tryz.f242=true:=ar
def rP:Code->Option (Code×Code)
 | .seq c d=>match rP c with
  | some p=>some p
  | none=>rP d
 | .block _ c=>rP c
 | .rangeFunc _ _ a b=>some (a,b)
 | _=>none
noncomputable def rgA(f:Func):Code:=match f.body with
 | some c=>(match rP c with
  | some p=>p.1
  | none=>.skip)
 | none=>.skip
noncomputable def B6(f:Func):Code:=match f.body with
 | some c=>(match rP c with
  | some p=>p.2
  | none=>.skip)
 | none=>.skip
def fG(p:Ps)(rf:Nat->Ps)(i:Nat):List Nat:=(List.range i).filter fun j=>!bS p (rf j)
def cS(l:List Nat):List (List D):=l.map fun n:Nat=>[iD (n:Int)]
theorem Kd(p:Ps)(rf:Nat->Ps)(i:Nat):fG p rf (i+1)=if bS p (rf i)=true then fG p rf i else fG p rf i++[i]:=by
 unfold fG;rw[Fa,wd7];by_cases h:bS p (rf i)=true
 ·rw[if_pos h];simp[h]
 ·rw[if_neg h];simp[h]
theorem HQ(p:Ps)(rf:Nat->Ps)(i:Nat):(fG p rf i).length<=i:=by
 have:=I5 (fun j=>!bS p (rf j)) (List.range i);simpa[fG] using this
def kC(rf:Nat->Ps)(a0:Nat)(R:List Nat):Nat->Ps:=fun j=>if j∈R then bc (rf j) (rf a0) else rf j
def eT(rf:Nat->Ps)(p:Ps)(a0:Nat)(R:List Nat):Nat->Ps:=fun j=>if j=a0 then p else kC rf a0 R j
theorem GB{w N:Nat}(hw:1<=w/\w<=12){rf:Nat->Ps}{p:Ps}(hN:N<=1000)(hv:∀ j,j<N->Vl w (rf j))(hp:Vl w p){a0:Nat}{R:List Nat}(hA:fG p rf N=a0::R) :
  bq Pr G 108 [.ptr 0 3 0 0,.d p.d] [(0,some (UE w N)),(1,some (ap 4 ((List.range N).map fun j=>(rf j).l)))] 3 fun v H _=>v = .d (.tup [])/\H.get 0=some (UE w N)/\H.get 1=some (ap 4 ((List.range N).map fun j=>(eT rf p a0 R j).l)):=by
 refine bi pok Tryz.func108 Mv ?_;conv=>whnf
 repeat' first|(refine O6.mk _ rfl ?_;conv=>whnf)
 refine aB pok Tryz.func195 vX ?_;conv=>whnf
 skip;refine aB pok Tryz.func185 FE ?_;conv=>whnf
 skip;refine aB pok Tryz.func242 MN ?_;conv=>whnf
 skip;refine aB pok Tryz.func247 vY ?_;conv=>whnf
 repeat' first|(refine O6.mk _ rfl ?_;conv=>whnf)
 refine ax pok (fun i=>⟨[(0,.yld 8),(4,.d (.fn 114 [.agg p.l] [])),(14,.sl 1 4 0 N N true),(15,.d (iD N)),(16,.d (iD i))],[(0,some (UE w N)),(1,some (ap 4 ((List.range N).map fun j=>(rf j).l))),(3,some (.arr 4 [p.l.map AV.d])),(6,some (.arr 1 [[.sl 9 1 0 (fG p rf i).length (fG p rf i).length false]])),(7,some (.raw (.deferred (some [])))),(8,some (.lp [(6,.fn 247 [] [.ptr 5 4 0 0,.ptr 4 1 0 0]),(4,.d (.sl [] true)),(2,.ptr 6 1 0 0),(0,.d (.sl [] true)),(1,.fn 247 [] [.ptr 5 4 0 0,.ptr 4 1 0 0])] Tryz.f242.ntmps #[7] (rgA Tryz.f242) (B6 Tryz.f242) .ready none 7)),(9,some (ap 1 (cS (fG p rf i))))],10⟩) (N) (fun _=>True) (trivial) ?_ ar ?_ ?_
 ·refine Sub.trans (EF (nm:=6) (S:=1) (nA rfl) rfl) ?_;refine ah cW ?_ ?_ trivial
  ·exact gn
  ·exact VB
 ·intro i A_i h_i I_i N_i;have e_i:aD .i64 (i:Int) 1=((i+1:Nat):Int):=ak eH;have hs:=Kd p rf i;have hle:=HQ p rf i;generalize fG p rf i=A at hs hle;have hc:=sp (G:=G) hw hp (hv i h_i);generalize bS p (rf i)=b at hs hc;conv=>whnf
  repeat (refine O6.mk _ rfl ?_;conv=>whnf)
  intro t ht;cases t
  ·exact bu
  conv=>whnf
  repeat' first|((first|refine O6.mk _ qdq ?_|refine O8.mk _ aK ?_|refine aJ ci ?_|fail);conv=>whnf)|(refine cc hc ?_)|(refine HpP.force ?_;conv=>whnf)|(intro t ht;cases t<;>conv=>whnf)
  ·rw[ht,if_neg aR]at hs;have hsn:cS (fG p rf (i+1))=cS A++[[iD i]]:=by rw[hs];simp[cS]
   have hnl:(cS A).length=A.length:=H6;generalize cS A=m at hsn hnl;refine cv pok ?_;conv=>whnf
   repeat' first|((first|refine O6.mk _ rfl ?_|refine O8.mk _ aK ?_|(refine aJ (by first|exact cF _|exact⟨by rw[ef];exact hnl,by decide,by show(2*(A.length+1)+192)*8<=281474976710656;omega⟩|assumption|exact⟨by kernel_rfl,rfl⟩|decide|omega) ?_)|rw[hJ]|refine HpP.force ?_);conv=>whnf)
   refine N_i _ ?_ ?_
   ·exact cY
   ·first|refine aO [(9,12)] ?_ ?_ ?_ trivial|refine aI [(9,12)] rfl rfl ?_ ?_ ?_ trivial
    ·exact Ch
    ·repeat' first|exact trivial|refine⟨⟨di rfl,_,rfl,by first|rfl|assumption|exact aw rfl (by first|rfl|assumption|exact aw rfl qdc|(rw[hs,LN];rfl))|exact aw rfl qdc|(rw[hs,LN];rfl),by first|exact ay rfl|exact aj _ _ _|exact au rfl|exact trivial|exact⟨rfl,nA rfl⟩⟩,?_⟩
    ·exact iI
  ·rw[ht,if_pos rfl]at hs;refine N_i _ ?_ ?_
   ·exact cY
   ·refine ah cW ?_ ?_ trivial
    ·exact Ch
    ·repeat' first|exact trivial|refine⟨⟨di rfl,_,rfl,by first|rfl|assumption|(rw[hs];rfl),by first|exact ay rfl|exact aj _ _ _|exact au rfl|exact trivial|exact⟨rfl,nA rfl⟩⟩,?_⟩
 ·intro A_last I_last;conv=>whnf
  repeat (refine O6.mk _ rfl ?_;conv=>whnf)
  intro t ht;cases t;rotate_left
  ·exact bu
  conv=>whnf
  have hlt:∀ j,j∈a0::R->j<N:=fun j hj=>by
   rw[<- hA]at hj;exact cJ.1 (VY.1 hj).1
  have hnd:(a0::R).Nodup:=qei;rw[hA];have ha0:=hlt a0 aR;have hRN:R.length+1<=N:=by
   have:=HQ p rf N;rw[hA]at this;simpa using this
  clear hA;repeat' first|((first|refine O6.mk _ rfl ?_|refine aJ (by first|exact⟨by simp,by simp,by simp⟩|assumption|exact⟨by kernel_rfl,rfl⟩|decide|omega) ?_|fail);conv=>whnf)|fail
  refine ax pok (fun k=>⟨[(0,.ptr 0 3 0 0),(3,.ptr 3 4 0 0),(4,.sl 9 1 0 (R.length+1) (R.length+1) false),(12,.sl 9 1 1 R.length R.length false),(13,.d (iD R.length)),(14,.d (iD k))],[(0,some (UE w N)),(1,some (ap 4 ((List.range N).map fun j=>(kC rf a0 (R.take k) j).l))),(3,some (.arr 4 [p.l.map AV.d])),(9,some (ap 1 (cS (a0::R))))],10⟩) (R.length) (fun _=>True) (trivial) ?_ ar ?_ ?_
  ·refine ah cW ?_ ?_ trivial
   ·exact gn
   ·repeat' first|exact trivial|refine⟨⟨di rfl,_,rfl,by first|rfl|assumption|(rw[List.take_zero];rfl),by first|exact ay rfl|exact aj _ _ _|exact au rfl⟩,?_⟩
  ·intro k A_k h_k I_k N_k;have e_k:aD .i64 (k:Int) 1=((k+1:Nat):Int):=ak eH;have hr:=hlt R[k] (eJ _ (ey h_k));have hnR:R.Nodup:=(I7.1 hnd).2;have haR:a0 ∉ R:=(I7.1 hnd).1;have hrk:kC rf a0 (R.take k) R[k]=rf R[k]:=by
    unfold kC;rw[if_neg fun h=>?_];obtain⟨i,hi,he⟩:=QW.1 h;exact List.pairwise_iff_getElem.1 hnR i k qad h_k qad he
   have hra:kC rf a0 (R.take k) a0=rf a0:=by
    unfold kC;rw[if_neg fun h=>haR (Ci h)]
   have hst:∀ j,(if j=R[k] then Ps.l (bc (rf R[k]) (rf a0)) else Ps.l (kC rf a0 (R.take k) j))=Ps.l (kC rf a0 (R.take (k+1)) j):=by
    intro j;unfold kC;rw[aC h_k];by_cases e:j=R[k]
    ·rw[if_pos e,if_pos (ft.2 (.inr (mb.2 e))),e]
    ·rw[if_neg e];by_cases e2:j∈R.take k
     ·rw[if_pos e2,if_pos (ft.2 (.inl e2))]
     ·rw[if_neg e2,if_neg fun h=>(ft.1 h).elim e2 fun h=>e (mb.1 h)]
   have hnum:((cS (a0::R)).map fun el=>el.map AV.d)[1+(k:Int).toNat]?=some ([iD (R[k]:Nat)].map AV.d):=by
    simp[cS,Nat.add_comm 1,ew h_k]
   have hm:=jN (G:=G) hw (rf R[k]) [rf a0] true aR (hv _ hr) (by intro r hr;rw[mb.1 hr];exact hv _ ha0);have hme:([rf a0].foldl bc (rf R[k]))=bc (rf R[k]) (rf a0):=rfl;rw[hme]at hm;generalize bc (rf R[k]) (rf a0)=m at hm hst;have hst2:∀ j,(if j=R[k] then [iD m.w,iD m.x,iD m.z,iD m.p] else Ps.l (kC rf a0 (R.take k) j))=Ps.l (kC rf a0 (R.take (k+1)) j):=hst;generalize kC rf a0 (R.take k)=g at hrk hra hst2;clear hst;generalize R[k]=r at hr hrk hst2 hnum hm;have hgr:(fun j=>Ps.l (g j)) r=Ps.l (rf r):=by dsimp only;rw[hrk]
   have hga:(fun j=>Ps.l (g j)) a0=Ps.l (rf a0):=by dsimp only;rw[hra]
   conv=>whnf
   repeat (refine O6.mk _ rfl ?_;conv=>whnf)
   intro t ht;cases t
   ·exact bu
   conv=>whnf
   repeat' first|((first|refine O6.mk _ (by first|rfl|exact hnum|exact dh hr hgr|exact dh ha0 hga) ?_|refine O8.mk _ (by first|exact fr (x:=[_,_,_,_]) hr|(simp only[List.set,bU,List.take,List.drop,JV,uV,yf,List.length];rfl)|rfl) ?_|refine aJ yd ?_|refine ab hm ?_|refine HpP.force ?_);conv=>whnf)
   refine N_k _ ?_ ?_
   ·exact cY
   ·refine ah cW ?_ ?_ trivial
    ·exact Jz
    ·exact qco
  ·intro A_last I_last;conv=>whnf
   repeat (refine O6.mk _ rfl ?_;conv=>whnf)
   intro t ht;cases t;rotate_left
   ·exact bu
   conv=>whnf
   have hra:kC rf a0 (R.take R.length) a0=rf a0:=by
    unfold kC;rw[if_neg fun h=>(I7.1 hnd).1 (Ci h)]
   rw[pS]at hra⊢;have hga:(fun j=>Ps.l (kC rf a0 R j)) a0=Ps.l (rf a0):=by dsimp only;rw[hra]
   have hst:∀ j,(if j=a0 then [iD p.w,iD p.x,iD p.z,iD p.p] else Ps.l (kC rf a0 R j))=Ps.l (eT rf p a0 R j):=by
    intro j;unfold eT;split<;>rfl
   generalize kC rf a0 R=g at hga hst;generalize eT rf p a0 R=g' at hst⊢;repeat' first|((first|refine O6.mk _ (by first|rfl|exact dh ha0 hga) ?_|refine O8.mk _ (by first|exact fr (x:=[_,_,_,_]) ha0|rfl) ?_|refine aJ yd ?_|refine HpP.force ?_);conv=>whnf)
   refine fin ⟨rfl,rfl,?_⟩;exact congrArg some (ee hst)
theorem Ec{w N:Nat}(hw:1<=w/\w<=12){rf:Nat->Ps}{p:Ps}(hN:N<=1000)(hv:∀ j,j<N->Vl w (rf j))(hp:Vl w p){a0:Nat}{R:List Nat}(hA:fG p rf N=a0::R){H:AHeap}{k:AV->AHeap->Nat->Prop}
  (h0:H.get 0=some (UE w N)) (h1:H.get 1=some (ap 4 ((List.range N).map fun j=>(rf j).l))) (hk:k (.d (.tup [])) [(0,some (UE w N)),(1,some (ap 4 ((List.range N).map fun j=>(eT rf p a0 R j).l)))] 3):P3 Pr G 108 [.ptr 0 3 0 0,.d p.d] H 3 k:=by
 refine⟨bg Tryz.func108 Mv,Fv (bk (GB (G:=G) hw hN hv hp hA) ?_) ?_⟩
 ·rintro v H' n ⟨rfl,g0,g1⟩;refine⟨.d (.tup []),_,3,?_,hk⟩;refine ah (cF _) ⟨⟨rfl,rfl⟩,trivial⟩ ⟨⟨di rfl,_,rfl,g0,au rfl⟩,⟨di rfl,_,rfl,g1,aj _ _ _⟩,trivial⟩ trivial
 ·intro nm b hg;simp only[AHeap.get]at hg;split at hg
  ·rename_i e;have:=waf e;subst this;rw[h0,<- hg]
  ·split at hg
   ·rename_i e;have:=waf e;subst this;rw[h1,<- hg]
   ·cases hg
end Go.Tz
namespace Go.Tz
open Go Go.AL Go.Proofs Go.Ma
variable{G:Nat->Option (List D)}
theorem Oo(H:AHeap)(q:Nat)(vis:List Nat):∀ l:List D,fb (eY H (q+1) vis) (l.map AV.d)=some l
 | []=>rfl
 | d::l=>by
  have e:eY H (q+1) vis (.d d)=some d:=rfl;simp only[nB,fb,e,Oo H q vis l]
theorem Jf(H:AHeap)(q:Nat)(vis:List Nat):∀ l:List (List D),fb (fb (eY H (q+1) vis)) (l.map fun el:List D=>el.map AV.d)=some l
 | []=>rfl
 | d::l=>by
  simp only[nB,fb,Oo H q vis d,Jf H q vis l]
theorem uZ{H:AHeap}{q:Nat}{vis:List Nat}{nm sz N:Nat}{t:Bool}{es:List (List D)}(hg:H.get nm=some (ap sz es))(hN:N=es.length):eY H (q+2) vis (.sl nm sz 0 N N t)=some (.sl es t):=by
 subst hN;have e1:Nat.ble (0+es.length) (es.map fun el:List D=>el.map AV.d).length=true:=by
  rw[Nat.ble_eq,ef];omega
 have e2:Nat.beq sz sz=true:=hJ sz;unfold eY;dsimp only;rw[hg];unfold ap;simp only[Jf,e1,e2];simp
theorem ja{V:AHeap}{nm sz N:Nat}{t:Bool}{es:List (List D)}{a p:D}(hg:V.get nm=some (ap sz es))(hN:N=es.length):fb (eY V 9 []) [.agg [.d a,.sl nm sz 0 N N t],.d p]=some [.agg [a,.sl es t],p]:=by
 have h:=uZ (q:=6) (vis:=[]) (t:=t) hg hN;have e1:eY V 8 [] (.d a)=some a:=rfl;have e2:eY V 9 [] (.d p)=some p:=rfl;have e3:eY V 9 [] (.agg [.d a,.sl nm sz 0 N N t])=some (.agg [a,.sl es t]):=by
  unfold eY;simp only[fb,e1,h]
 simp only[fb,e2,e3]
theorem Oz:∀(l:List D) (t:List Nat),kX (l.map AV.d) t=t
 | [],_=>rfl
 | d::l,t=>by
  show AV.nmS (.d d) (kX (l.map AV.d) t)=t;rw[Oz l t];rfl
theorem II(t:List Nat):∀ es:List (List D),(es.map fun el:List D=>el.map AV.d).foldr kX t=t
 | []=>rfl
 | d::es=>by rw[nB,List.foldr_cons,II t es,Oz]
theorem mark1{g:Nat->Option Blk}{n sz:Nat}{es:List (List D)}(hg:g n=some (ap sz es)):uv g 300 [n] []=[n]:=by
 show uv g (299+1) [n] []=[n];unfold uv;have e:fL n []=false:=rfl;simp only[e,hg];unfold ap;simp only[II];rfl
theorem aM{G:Nat->Option (List D)}{env:List (Nat×AV)}{g:Nat->Option Blk}{o:Oper}{f:Operand}{args:Array Operand}{tys:Array TypeId}{n sz:Nat}{es:List (List D)}(ho:o.op = .call ⟨.value f,args,tys⟩)(hn:(sD G env f).nmS (kX (args.toList.map (sD G env)) [])=[n])(hg:g n=some (ap sz es)):Pw G env g o=[n]:=by
 unfold Pw;rw[ho];dsimp only;rw[hn];exact mark1 hg
theorem aH{G:Nat->Option (List D)}{env:List (Nat×AV)}{g:Nat->Option Blk}{o:Oper}{l:List Nat}{k:List Nat->Prop}(h:Pw G env g o=l)(hk:dP l k):dP (Pw G env g o) k:=by
 rw[h];exact hk
theorem UU:aq Tryz.f33=true:=ar
abbrev bM(N:Nat)(rf:Nat->Ps):List Ps:=(List.range N).map rf
def ob(N:Nat)(s:(Nat->Ps)×Nat)(p:Ps):(Nat->Ps)×Nat:=if nk (bM N s.1) p=0 then(match fG p s.1 N with
 | a0::R=>eT s.1 p a0 R
 | []=>s.1,s.2+1) else s
def fW(N:Nat)(rf0:Nat->Ps)(P:List Ps):Nat->(Nat->Ps)×Nat
 | 0=>(rf0,0)
 | k+1=>ob N (fW N rf0 P k) (P.getD k Ps.z0)
def oa(N:Nat)(rf0:Nat->Ps)(P:List Ps)(k:Nat):Int:=nk (bM N (fW N rf0 P k).1) (P.getD k Ps.z0)
def ZM(N:Nat)(rf0:Nat->Ps)(P:List Ps):Int:=if(List.range P.length).any (fun k=>decide (oa N rf0 P k = -1)) then -1 else((fW N rf0 P P.length).2:Nat)
def DL(w:Int)(l:List Ps)(w':Int)(l':List Ps):D:=if gC w l w' l'=0 then .tup [iD (ZM l'.length (fun j=>(af l' (2*w.toNat)).getD j Ps.z0) (af l (2*w.toNat))),iD 0] else .tup [iD 0,iD (gC w l w' l')]
structure OvOk (w:Nat) (l l':List Ps):Prop where
 st:∀ k,k<=l.length->(∀ j,j<k->oa l'.length (fun j=>(af l' (2*w)).getD j Ps.z0) (af l (2*w)) j ≠ -1)->SOk w (bM l'.length (fW l'.length (fun j=>(af l' (2*w)).getD j Ps.z0) (af l (2*w)) k).1)
 an:∀ k,k<l.length->(∀ j,j<k->oa l'.length (fun j=>(af l' (2*w)).getD j Ps.z0) (af l (2*w)) j ≠ -1)->oa l'.length (fun j=>(af l' (2*w)).getD j Ps.z0) (af l (2*w)) k=0->fG ((af l (2*w)).getD k Ps.z0) (fW l'.length (fun j=>(af l' (2*w)).getD j Ps.z0) (af l (2*w)) k).1 l'.length≠[]
theorem ZO(w:Int)(l:List Ps)(t:Bool)(w':Int)(l':List Ps)(t':Bool)(hn:l.length<=1000)(hn':l'.length<=1000)(hov:∀ W:Nat,w=W->SOk W l->SOk W l'->OvOk W l l'):PC Pr GG 33 [cf w l t,cf w' l' t'] (DL w l w' l'):=by
 have hb:=HX w l t w' l' t' hn hn';have hok:=zU (w:=w) (l:=l) (w':=w') (l':=l');unfold DL;by_cases h:gC w l w' l'=0
 ·obtain⟨W,rfl,rfl,hs,hs'⟩:=hok h;obtain⟨hst,han⟩:=hov W rfl hs hs';have hW:1<=W/\W<=12:=⟨hs.lo,hs.hi⟩
  have h1:=qS (G:=GG) hW l t hn hs.vl;have h2:=lJ (G:=GG) hW l' t' hn' hs'.vl;rw[h]at hb;rw[if_pos h,gx];have hPl:=cZ l (2*W);have hTl:=cZ l' (2*W);have hPv:∀ q,q∈af l (2*W)->Vl W q:=by
   intro q hq;obtain⟨j,hj,rfl⟩:=bm.1 hq;exact(fp hW.2 hs.vl _).1 j (cJ.1 hj)
  rw[<- hPl]at hst han;generalize af l (2*W)=P at h1 hst han hPl hPv⊢;have hTB:=xn (af l' (2*W));rw[hTl]at hTB;generalize af l' (2*W)=Q at h2 hst han hTB hTl⊢;generalize hN:l'.length=N at h2 hst han hTB hTl⊢;have hTB':Blk.arr 4 ((Q.map Ps.l).map fun x=>x.map AV.d)=ap 4 ((List.range N).map fun j=>Ps.l ((fun j=>Q.getD j Ps.z0) j)):=hTB;clear hTB;generalize (fun j=>Q.getD j Ps.z0)=rf0 at hst han hTB'⊢;have hN1000:N<=1000:=qad;refine ae pok Tryz.func33 UU ?_;conv=>whnf
  repeat' first|((first|refine O6.mk _ rfl ?_|refine aa hb ?_|refine aa h1 ?_|refine aY h2 ?_);conv=>whnf)|(intro t ht;cases t<;>conv=>whnf)
  ·refine ax pok (fun k=>⟨[(7,.ptr 0 3 0 0),(8,.d (iD ((fW N rf0 P k).2:Nat))),(21,.d (az P true)),(22,.d (iD (P.map Ps.l).length)),(23,.d (iD k))],[(0,some (UE W N)),(1,some (ap 4 ((List.range N).map fun j=>((fW N rf0 P k).1 j).l)))],2⟩) (P.length) (fun k=>∀ j,j<k->oa N rf0 P j ≠ -1) qad ?_ ar ?_ ?_
   ·first|refine aO [(0,2),(1,3)] ?_ ?_ ?_ trivial|refine aI [(0,2),(1,3)] rfl rfl ?_ ?_ ?_ trivial
    ·exact gn
    ·repeat' first|exact trivial|refine⟨⟨di rfl,_,rfl,by first|rfl|assumption|exact aw rfl (by first|rfl|assumption|(show some (Blk.ren _ (ap 4 (Q.map Ps.l)))=_;rw[aE,aE];exact congrArg some hTB'))|(show some (Blk.ren _ (ap 4 (Q.map Ps.l)))=_;rw[aE,aE];exact congrArg some hTB'),by first|exact ay rfl|exact aj _ _ _|exact au rfl⟩,?_⟩
    ·exact iI
   ·intro k A_k h_k I_k N_k;have e_k:aD .i64 (k:Int) 1=((k+1:Nat):Int):=ak eH;have hS:=hst k qad I_k;have hgd:P.getD k Ps.z0=P[k]:=qe2;have hpv:=hPv P[k] (ey h_k);have hx:=gh hS true hpv;have hE:oa N rf0 P k=nk (bM N (fW N rf0 P k).1) P[k]:=by unfold oa;rw[hgd]
    have hA:=han k h_k I_k;have hnx:fW N rf0 P (k+1)=ob N (fW N rf0 P k) P[k]:=by rw[<- hgd];rfl
    have hvl:∀ j,j<N->Vl W ((fW N rf0 P k).1 j):=fun j hj=>hS.vl _ (bm.2 ⟨j,cJ.2 hj,rfl⟩);have hcnt:(fW N rf0 P k).2<=k:=by
     have key:∀ k,(fW N rf0 P k).2<=k:=by
      intro k
      induction k with
      | zero=>exact cF _
      | succ k ih =>
       show(ob N (fW N rf0 P k) _).2<=k+1;unfold ob;split
       ·exact Nat.succ_le_succ ih
       ·exact qad
     exact key k
    unfold ob at hnx;rw[hgd]at hA;rw[hE]at hA;have hout:nk (bM N (fW N rf0 P k).1) P[k] = -1->ZM N rf0 P = -1:=by
     intro h;unfold ZM;rw[if_pos (yF.2 ⟨k,cJ.2 h_k,by rw[hE,h];rfl⟩)]
    generalize fW N rf0 P k=s at hx hE hA hnx hvl hcnt hout hS⊢;have er:az (bM N s.1) true = .sl ((List.range N).map fun j=>Ps.l (s.1 j)) true:=by
     unfold az bM;rw[pU];rfl
    have hx2:PC Pr GG 107 [.agg [iD W,.sl ((List.range N).map fun j=>Ps.l (s.1 j)) true],P[k].d] (iD (nk (bM N s.1) P[k])):=by rw[<- er];exact hx
    clear hx;have hnn:oa N rf0 P k ≠ -1->∀ j,j<k+1->oa N rf0 P j ≠ -1:=by
     intro h j hj;rcases wa1 j k with q|q
     ·exact I_k j q
     ·rw[show j=k by omega];exact h
    rw[hE]at hnn;generalize nk (bM N s.1) P[k]=e at hx2 hA hnx hout hnn;conv=>whnf
    repeat (refine O6.mk _ rfl ?_;conv=>whnf)
    intro t ht;cases t
    ·exact bu
    conv=>whnf
    repeat' first|((first|refine O6.mk _ (by first|rfl|exact gG h_k|exact ja rfl aR) ?_|refine O8.mk _ aK ?_|refine aJ ci ?_|refine aH (l:=[1]) (aM rfl rfl (show _=some (ap 4 ((List.range N).map fun j=>Ps.l (s.1 j))) from rfl)) ?_|refine ab hx2 ?_|refine HpP.force ?_);conv=>whnf)|(intro t ht;cases t<;>conv=>whnf)
    ·have e1:e≠0:=by simpa using ht
     have e2:e ≠ -1:=by intro h;subst h;simp_all
     rw[if_neg e1]at hnx;refine N_k _ ?_ ?_
     ·exact hnn e2
     ·refine ah cW ?_ ?_ trivial
      ·exact qcc
      ·exact VC
    ·have e1:e=0:=by simpa using ht
     subst e1;rw[if_pos rfl]at hnx;cases hR:fG P[k] s.1 N with
     | nil=>exact absurd hR (hA rfl)
     | cons a0 R =>
      rw[hR]at hnx;dsimp only at hnx;have hi:aD .i64 (s.2:Int) 1=((s.2+1:Nat):Int):=ak (b:=1) qad;refine Ec hW hN1000 hvl hpv hR rfl rfl ?_;conv=>whnf
      skip;refine N_k _ ?_ ?_
      ·exact hnn qaj
      ·refine ah cW ?_ ?_ trivial
       ·repeat' first|exact trivial|refine⟨⟨by first|rfl|assumption|exact congrArg (fun n=>AV.d (iD n)) e_k|(rw[hnx];exact congrArg (fun n=>AV.d (iD n)) hi),rfl⟩,?_⟩
       ·exact VC
    ·have e1:e = -1:=by simpa using ht
     rw[hout e1];exact fin rfl
   ·intro A_last I_last;conv=>whnf
    repeat (refine O6.mk _ rfl ?_;conv=>whnf)
    intro t ht;cases t;rotate_left
    ·exact bu
    conv=>whnf
    skip;have e:ZM N rf0 P=((fW N rf0 P P.length).2:Nat):=by
     unfold ZM;rw[if_neg fun h=>?_];obtain⟨k,hk,he⟩:=yF.1 h;exact I_last k (cJ.1 hk) (by simpa using he)
    rw[e];exact fin rfl
  ·exact xt
 ·rw[if_neg h];generalize gC w l w' l'=e at hb h;refine ae pok Tryz.func33 UU ?_;conv=>whnf
  repeat' first|((first|refine O6.mk _ rfl ?_|refine aa hb ?_);conv=>whnf)|(intro t ht;cases t<;>conv=>whnf)
  ·exact absurd nb h
  ·exact GL
end Go.Tz
namespace Go.Tz
open Go Go.AL Go.Proofs Go.Ma
variable{G:Nat->Option (List D)}
theorem WK:aq Tryz.f109=true:=ar
def ix(rows:List Nat)(b:Nat):Nat:=rows.foldl (fun b r=>min b (b^^^r)) b
def xy(s:List Rn×List Nat)(p:Rn):List Rn×List Nat:=if p∈s.1 then s else(s.1++[p],if ix s.2 (p.1+4096*p.2)=0 then s.2 else s.2++[ix s.2 (p.1+4096*p.2)])
def lS(l:List Rn)(i:Nat):List Rn×List Nat:=(l.take i).foldl xy ([],[])
theorem tC{l:List Rn}{i:Nat}(h:i<l.length):lS l (i+1)=xy (lS l i) l[i]:=by
 unfold lS;rw[aC h,Lm];rfl
theorem vu:∀(rows:List Nat) {b:Nat},b<2^24->ix rows b<2^24
 | [],_,h=>h
 | r::rows,b,h=>vu rows (b:=min b (b^^^r)) (JS (Nat.min_le_left _ _) h)
theorem GX{l:List Rn}(hb:∀ r,r∈l->r.1<4096/\r.2<4096):∀{i:Nat},i<=l.length->(lS l i).2.length<=i /\ ∀ r,r∈(lS l i).2->r<2^24
 | 0,_=>⟨cF _,fun r h=>by cases h⟩
 | i+1,hi=>by
  obtain⟨h1,h2⟩:=GX hb (i:=i) qad;rw[tC qad];have hp:=hb l[i] (ey qad);unfold xy;split
  ·exact⟨by omega,h2⟩
  ·dsimp only;split
   ·exact⟨by omega,h2⟩
   ·refine⟨by rw[LN];simp;omega,fun r hr=>?_⟩;rcases ft.1 hr with h|h
    ·exact h2 r h
    ·rw[mb.1 h];exact vu _ qad
def AR(m:List Rn):List (D×D):=m.map fun q=>(.agg (Rn.l q),.bool true)
def AU(m:List Rn):List (List Int):=m.map fun q=>[(q.1:Int),(q.2:Int)]
theorem wS:∀ m:List Rn,mZ true (AR m)=some (AU m)
 | []=>rfl
 | q::m=>by
  have e:ym true (.agg (Rn.l q))=some [(q.1:Int),(q.2:Int)]:=rfl;have ih:=wS m;unfold AR AU at ih⊢;simp only[nB,mZ,e,ih]
theorem pX:∀ m:List Rn,pW 2 (AU m)=true
 | []=>rfl
 | q::m=>by
  have ih:=pX m;unfold AU at ih⊢;simp only[nB,pW,ih];rfl
theorem rp{p:Rn}:∀{m:List Rn} (i:Nat),p∈m->∃ j,fD [(p.1:Int),(p.2:Int)] (AU m) i=some (i+j)/\(AR m)[j]?=some (.agg (Rn.l p),.bool true)
 | [],_,h=>by cases h
 | q::m,i,h=>by
  unfold AU AR;simp only[nB,fD,Bq];by_cases e:p=q
  ·subst e;exact⟨0,by simp,rfl⟩
  ·have:p∈m:=by
    rcases jJ.1 h with h|h
    ·exact absurd h e
    ·exact h
   obtain⟨j,h1,h2⟩:=rp (i+1) this;refine⟨j+1,?_,by simpa[AR] using h2⟩;rw[decide_eq_false e];show fD _ (AU m) (i+1)=_;rw[h1];congr 1;omega
theorem rm{p:Rn}:∀{m:List Rn} (i:Nat),p ∉ m->fD [(p.1:Int),(p.2:Int)] (AU m) i=none
 | [],_,_=>rfl
 | q::m,i,h=>by
  unfold AU;simp only[nB,fD,Bq];have e:p≠q:=fun e=>h (by rw[e];simp);rw[decide_eq_false e];exact rm (i+1) fun hm=>h (eJ _ hm)
theorem TP(l:List Rn)(t:Bool)(hn:l.length<=1000)(hb:∀ r,r∈l->r.1<4096/\r.2<4096):PC Pr G 109 [LJ l t] (iD ((lS l l.length).2.length:Nat)):=by
 refine ae pok Tryz.func109 WK ?_;conv=>whnf
 repeat' first|((first|refine O6.mk _ rfl ?_|refine O8.mk _ aK ?_|refine aJ ny ?_|refine HpP.force ?_);conv=>whnf)|(intro t ht;cases t<;>conv=>whnf)
 refine ax pok (fun i=>⟨[(3,.map 0),(4,.sl 1 1 0 (lS l i).2.length (lS l i).2.length false),(11,.d (LJ l t)),(12,.d (iD (l.map Rn.l).length)),(13,.d (iD i))],[(0,some (.map (AR (lS l i).1))),(1,some (ap 1 (cS (lS l i).2)))],2⟩) (l.length) (fun _=>True) (trivial) ?_ ar ?_ ?_
 ·refine Sub.trans (fB (t:=4) (S:=1) (dW _) rfl) ?_;refine ah cW ?_ ?_ trivial
  ·exact gn
  ·exact qc6
 ·intro i A_i h_i I_i N_i;have e_i:aD .i64 (i:Int) 1=((i+1:Nat):Int):=ak eH;have hs:=tC h_i;have hp:=hb _ (ey h_i);have hinv:(lS l i).2.length<=i /\ ∀ r,r∈(lS l i).2->r<2^24:=GX hb qad;unfold xy at hs;generalize lS l i=s at hs hinv;by_cases hm:l[i]∈s.1
  ·obtain⟨j,hj1,hj2⟩:=rp 0 hm;rw[jj]at hj1;rw[if_pos hm]at hs;conv=>whnf
   repeat (refine O6.mk _ rfl ?_;conv=>whnf)
   intro t ht;cases t
   ·exact bu
   conv=>whnf
   repeat' first|((first|refine O6.mk _ qem ?_|refine O8.mk _ aK ?_|refine aJ ny ?_|rw[wS]|rw[pX]|rw[hj1]|rw[hj2]|refine HpP.force ?_);conv=>whnf)|(intro t ht;cases t<;>conv=>whnf)
   refine N_i _ ?_ ?_
   ·exact cY
   ·refine ah cW ?_ ?_ trivial
    ·exact qay
    ·exact qct
  ·have hj:=rm 0 hm;have hb0:Cg .i64 (l[i].1:Int) (cU .i64 (l[i].2:Int) 12)=((l[i].1+4096*l[i].2:Nat):Int):=by
    have h1:=rx (a:=l[i].2) (n:=12) qaj qad;rw[show((12:Nat):Int)=12 from rfl]at h1;rw[h1,wec,jF qad qad];have e:l[i].1 ||| l[i].2*2^12=l[i].1+4096*l[i].2:=by
     have:=VU (show l[i].1<2^12 by omega) l[i].2;rw[Nat.or_comm,Wd l[i].2,<- this];omega
    rw[e]
   rw[if_neg hm]at hs;conv=>whnf
   repeat (refine O6.mk _ rfl ?_;conv=>whnf)
   intro t ht;cases t
   ·exact bu
   conv=>whnf
   repeat' first|((first|refine O6.mk _ qem ?_|refine O8.mk _ aK ?_|refine aJ ny ?_|rw[wS]|rw[pX]|rw[hj]|rw[cR]|refine HpP.force ?_);conv=>whnf)|(intro t ht;cases t<;>conv=>whnf)
   refine ax pok (fun k=>⟨[(3,.map 0),(4,.sl 1 1 0 s.2.length s.2.length false),(7,.d (iD (ix (s.2.take k) (l[i].1+4096*l[i].2):Nat))),(11,.d (LJ l t)),(12,.d (iD (l.map Rn.l).length)),(13,.d (iD i)),(28,.sl 1 1 0 s.2.length s.2.length false),(29,.d (iD s.2.length)),(30,.d (iD k))],[(0,some (.map (AR (s.1++[l[i]])))),(1,some (ap 1 (cS s.2)))],2⟩) (s.2.length) (fun _=>True) (trivial) ?_ ar ?_ ?_
   ·refine ah cW ?_ ?_ trivial
    ·repeat' first|exact trivial|refine⟨⟨by first|rfl|assumption|exact congrArg (fun n=>AV.d (iD n)) hb0,rfl⟩,?_⟩
    ·repeat' first|exact trivial|refine⟨⟨di rfl,_,rfl,by first|rfl|assumption|(show some (Blk.map (AR s.1++_))=_;unfold AR;rw[nh];rfl),by first|exact ay rfl|exact aj _ _ _|exact au rfl|exact trivial⟩,?_⟩
   ·intro k A_k h_k I_k N_k;have e_k:aD .i64 (k:Int) 1=((k+1:Nat):Int):=ak eH;have hms:ix (s.2.take (k+1)) (l[i].1+4096*l[i].2)=min (ix (s.2.take k) (l[i].1+4096*l[i].2)) (ix (s.2.take k) (l[i].1+4096*l[i].2)^^^s.2[k]):=by
     unfold ix;rw[aC h_k,Lm];rfl
    have hml:ix (s.2.take k) (l[i].1+4096*l[i].2)<2^24:=vu _ qad;have hrl:=hinv.2 _ (ey h_k);have hnum:((cS s.2).map fun el=>el.map AV.d)[0+(k:Int).toNat]?=some ([iD (s.2[k]:Nat)].map AV.d):=by
     simp[cS,ew h_k]
    generalize ix (s.2.take k) (l[i].1+4096*l[i].2)=b at hms hml⊢;generalize s.2[k]=r at hms hrl hnum;conv=>whnf
    repeat (refine O6.mk _ rfl ?_;conv=>whnf)
    intro t ht;cases t
    ·exact bu
    conv=>whnf
    repeat' first|((first|refine O6.mk _ (by first|rfl|exact hnum) ?_|refine O8.mk _ aK ?_|refine aJ TL ?_|refine HpP.force ?_);conv=>whnf)|(intro t ht;cases t<;>conv=>whnf)
    have hmin:(if uK .i64 (b:Int) (r:Int)<(b:Int) then uK .i64 (b:Int) (r:Int) else(b:Int))=((ix (s.2.take (k+1)) (l[i].1+4096*l[i].2):Nat):Int):=by
     rw[hms,ke qad qad];split<;>omega
    refine N_k _ ?_ ?_
    ·exact cY
    ·refine ah cW ?_ ?_ trivial
     ·repeat' first|exact trivial|refine⟨⟨by first|rfl|assumption|exact congrArg (fun n=>AV.d (iD n)) e_k|exact congrArg (fun n=>AV.d (iD n)) hmin,rfl⟩,?_⟩
     ·exact qc6
   ·intro A_last I_last;have hml:ix (s.2.take s.2.length) (l[i].1+4096*l[i].2)<2^24:=vu _ qad;rw[pS]at hml⊢;generalize ix s.2 (l[i].1+4096*l[i].2)=b at hs hml⊢;conv=>whnf
    repeat (refine O6.mk _ rfl ?_;conv=>whnf)
    intro t ht;cases t;rotate_left
    ·exact bu
    conv=>whnf
    repeat' first|((first|refine O6.mk _ rfl ?_|refine O8.mk _ aK ?_|(refine aJ (by first|exact cF _|exact⟨by simp[cS],by decide,by show(2*(s.2.length+1)+192)*8<=281474976710656;omega⟩|assumption|exact⟨by kernel_rfl,rfl⟩|decide|omega|exact⟨rfl,by decide,by simp only[ef,jj];omega⟩) ?_)|rw[hJ]|refine HpP.force ?_);conv=>whnf)|(intro t ht;cases t<;>conv=>whnf)
    ·have hz:b=0:=by simp at ht;omega
     rw[if_pos hz]at hs;refine N_i _ ?_ ?_
     ·exact cY
     ·refine ah cW ?_ ?_ trivial
      ·exact qay
      ·exact qct
    ·have hz:b≠0:=by simp at ht;omega
     rw[if_neg hz]at hs;refine N_i _ ?_ ?_
     ·exact cY
     ·first|refine aO [(1,3)] ?_ ?_ ?_ trivial|refine aI [(1,3)] rfl rfl ?_ ?_ ?_ trivial
      ·exact qb6
      ·repeat' first|exact trivial|refine⟨⟨di rfl,_,rfl,by first|rfl|assumption|exact aw rfl (by first|rfl|assumption|exact aw rfl qdk|(rw[hs];rfl))|exact aw rfl qdk|(rw[hs];rfl),by first|exact ay rfl|exact aj _ _ _|exact au rfl|exact trivial⟩,?_⟩
      ·exact iI
 ·exact qif
end Go.Tz
namespace Go.Tz
open Go Go.AL Go.Proofs Go.Ma
variable{G:Nat->Option (List D)}
abbrev aP(ks:List Int)(u:Bool):D:=.sl (ks.map fun k=>[iD k]) u
theorem zb{ks:List Int}{i:Nat}(h:i<ks.length):(ks.map fun k=>[iD k])[(i:Int).toNat]?=some [iD ks[i]]:=by
 rw[gx,mV,ew h];rfl
def gq(w:Int)(ks:List Int)(i:Nat):Int:=match ks[i]? with
 | some k=>if k<0\/k>=w then 1 else if k∈ks.take i then 5 else 0
 | none=>0
def pu(w:Int)(ks:List Int):Int:=match (List.range ks.length).find? (fun i=>decide (gq w ks i≠0)) with
 | some i=>gq w ks i
 | none=>0
theorem Ah{w:Int}{ks:List Int}{i:Nat}(h:i<ks.length)(h1:∀ j,j<i->gq w ks j=0)(h2:gq w ks i≠0):pu w ks=gq w ks i:=by
 have:(List.range ks.length).find? (fun i=>decide (gq w ks i≠0))=some i:=by
  rw[wdh];exact⟨by simpa using h2,cJ.2 h,fun j hj=>by simp[h1 j hj]⟩
 unfold pu;rw[this]
theorem yX{w:Int}{ks:List Int}(h1:∀ j,j<ks.length->gq w ks j=0):pu w ks=0:=by
 have:(List.range ks.length).find? (fun i=>decide (gq w ks i≠0))=none:=QG.2 fun j hj=>by simp[h1 j (cJ.1 hj)]
 unfold pu;rw[this]
def ep(ks:List Int):Nat:=ks.foldl (fun m k=>m ||| 2^k.toNat) 0
theorem zj{ks:List Int}{i:Nat}(h:i<ks.length):ep (ks.take (i+1))=ep (ks.take i) ||| 2^(ks[i]).toNat:=by
 unfold ep;rw[aC h,Lm];rfl
theorem wU(j:Nat):∀ ks:List Int,(ep ks).testBit j=ks.any fun k=>decide (k.toNat=j):=by
 have key:∀(ks:List Int) (m:Nat),(ks.foldl (fun m k=>m ||| 2^k.toNat) m).testBit j=(m.testBit j||ks.any fun k=>decide (k.toNat=j)):=by
  intro ks
  induction ks with
  | nil=>intro m;simp
  | cons k ks ih =>
   intro m;rw[VZ,ih,Nat.testBit_or,ll,List.any_cons];cases m.testBit j<;>cases decide (k.toNat=j)<;>simp
 intro ks;unfold ep;rw[key,Cj,Bool.false_or]
theorem Jg{w:Nat}{ks:List Int}(h:∀ k,k∈ks->0<=k/\k<w):ep ks<2^w:=by
 refine I6 _ fun j hj=>?_;rw[wU];refine BX.2 fun k hk=>?_;have:=h k hk;simp;omega
theorem oV{w:Int}{ks:List Int}{i:Nat}(h:i<ks.length)(h0:gq w ks i=0):0<=ks[i]/\ks[i]<w/\ks[i] ∉ ks.take i:=by
 unfold gq at h0;rw[ew h]at h0;dsimp only at h0;split at h0
 ·cases h0
 ·split at h0
  ·cases h0
  ·rename_i h1 h2;exact⟨by omega,by omega,h2⟩
def jc(l:List Ps)(m:Nat):List Rn:=l.map fun q=>(q.x.toNat &&& m,q.z.toNat &&& m)
theorem DS{f:FuncId}{v1:AV}{d1 d:D}{H:AHeap}{nx:Nat}{k:AV->AHeap->Nat->Prop}(h:PC Pr G f [d1] d)(h1:AsD H v1 d1)(hf:d.flat=true)(hk:k (.d d) H nx):P3 Pr G f [v1] H nx k:=by
 refine Bf h rfl (fun i v d a1 a2=>?_) hf hk
 match i,a1,a2 with
 | 0,a1,a2=>simp at a1 a2;subst a1 a2;exact h1
 | i+1,a1,_=>simp at a1
theorem UV:aq Tryz.f34=true:=ar
def RP(w:Int)(l:List Ps)(ks:List Int):D:=if bD w l≠0 then .tup [iD 0,iD (bD w l)] else if pu w ks≠0 then .tup [iD 0,iD (pu w ks)] else .tup [iD (cO .i64 (lS (jc l (ep ks)) l.length).2.length ks.length),iD 0]
theorem Ko(w:Int)(l:List Ps)(t:Bool)(ks:List Int)(u:Bool)(hn:l.length<=1000)(hk:ks.length<=1000):PC Pr GG 34 [cf w l t,aP ks u] (RP w l ks):=by
 have hc:=cT w l t hn;have hok:=jT (w:=w) (l:=l);unfold RP;by_cases h:bD w l=0
 ·obtain⟨W,rfl,hs⟩:=hok h;rw[h]at hc;rw[if_neg (by rw[h];simp)];have hlo:=hs.lo;have hhi:=hs.hi;refine ae pok Tryz.func34 UV ?_;conv=>whnf
  repeat' first|((first|refine O6.mk _ rfl ?_|refine aa hc ?_);conv=>whnf)|(intro t ht;cases t<;>conv=>whnf)
  rotate_left
  ·exact xt
  refine ax pok (fun i=>⟨[(1,.d (aP ks u)),(2,.ptr 0 2 0 0),(7,.d (iD (ep (ks.take i):Nat))),(18,.d (aP ks u)),(19,.d (iD (ks.map fun k=>[iD k]).length)),(20,.d (iD i))],[(0,some (.arr 2 [[.d (iD W),.d (az l t)]]))],1⟩) (ks.length) (fun i=>∀ j,j<i->gq W ks j=0) qad ?_ ar ?_ ?_
  ·exact nr
  ·intro i A_i h_i I_i N_i;have e_i:aD .i64 (i:Int) 1=((i+1:Nat):Int):=ak eH;have hml:ep (ks.take i)<2^W:=Jg fun k hk=>by
    obtain⟨j,hj,rfl⟩:=QW.1 hk;have:=oV qad (I_i j qad);exact⟨this.1,this.2.1⟩
   have hp:(2:Nat)^W<=2^12:=js qaj hhi;have hms:=zj h_i;have hEA:gq W ks i=if ks[i]<0\/ks[i]>=W then 1 else if ks[i]∈ks.take i then 5 else 0:=by
    unfold gq;rw[ew h_i]
   have hat:=Ah h_i I_i;have hmem:0<=ks[i]->(ep (ks.take i)).testBit (ks[i]).toNat=decide (ks[i]∈ks.take i):=by
    intro h0;rw[wU,tV,yF,decide_eq_true_eq];constructor
    ·rintro⟨k,hk,he⟩;have he:=of_decide_eq_true he;obtain⟨j,hj,rfl⟩:=QW.1 hk;have:=(oV qad (I_i j qad)).1;rw[show ks[i]=ks[j] by omega];exact hk
    ·intro hk;exact⟨_,hk,by simp⟩
   have hnn:gq W ks i=0->∀ j,j<i+1->gq W ks j=0:=by
    intro h j hj;rcases wa1 j i with q|q
    ·exact I_i j q
    ·rw[show j=i by omega];exact h
   generalize ep (ks.take i)=m at hml hms hmem⊢;have hgi:=zb h_i;generalize ks[i]=v at hms hEA hat hmem hgi;conv=>whnf
   repeat (refine O6.mk _ rfl ?_;conv=>whnf)
   intro t ht;cases t
   ·exact bu
   conv=>whnf
   repeat' first|((first|refine O6.mk _ qhi ?_|refine aJ (by first|(simp at *;omega)|assumption|exact⟨by kernel_rfl,rfl⟩|decide|omega) ?_|fail);conv=>whnf)|(intro t ht;cases t<;>conv=>whnf)
   ·have hv0:0<=v/\v<W:=by simp at *;omega
    obtain⟨V,rfl⟩:∃ V:Nat,v=V:=⟨v.toNat,by omega⟩
    have hm2:=hmem hv0.1;rw[gx]at hm2 hms;rw[dX qad qad,hm2]at ht;have hni:¬((V:Int)∈ks.take i):=by
     intro hc;rw[decide_eq_true hc]at ht;simp at ht
    have hz:gq W ks i=0:=by rw[hEA,if_neg qad,if_neg hni]
    have hp2:(2:Nat)^V<2^13:=Fq qaj qad;have hor:Cg .i64 (m:Int) (cU .i64 1 (V:Int))=((ep (ks.take (i+1)):Nat):Int):=by
     rw[hms,cq qad,jF qad qad]
    refine N_i _ ?_ ?_
    ·exact hnn hz
    ·refine ah cW ?_ ?_ trivial
     ·repeat' first|exact trivial|refine⟨⟨by first|rfl|assumption|exact congrArg (fun n=>AV.d (iD n)) e_i|exact congrArg (fun n=>AV.d (iD n)) hor,rfl⟩,?_⟩
     ·exact lZ
   ·have hv0:0<=v/\v<W:=by simp at *;omega
    obtain⟨V,rfl⟩:∃ V:Nat,v=V:=⟨v.toNat,by omega⟩
    have hm2:=hmem hv0.1;rw[gx]at hm2;rw[dX qad qad,hm2]at ht;have hni:(V:Int)∈ks.take i:=by
     refine Fp fun hc=>?_;rw[decide_eq_false hc]at ht;simp at ht
    have hz:gq W ks i=5:=by rw[hEA,if_neg qad,if_pos hni]
    rw[if_pos qep,hat (by rw[hz];decide),hz];exact fin rfl
   ·exact qjk
   ·exact qjk
  ·intro A_last I_last;have hml:ep ks<2^W:=Jg fun k hk=>by
    obtain⟨j,hj,rfl⟩:=Uy hk;have:=oV hj (I_last j hj);exact⟨this.1,this.2.1⟩
   have hp:(2:Nat)^W<=2^12:=js qaj hhi;rw[if_neg (by rw[yX I_last];simp)];rw[pS];generalize ep ks=m at hml⊢;have hrk:=TP (G:=GG) (jc l m) false (by rw[jc,ef];omega) (by
    intro r hr;obtain⟨q,_,rfl⟩:=bm.1 hr;exact⟨JS Nat.and_le_right qad,JS Nat.and_le_right qad⟩)
   have hmll:(jc l m).length=l.length:=by rw[jc,ef]
   rw[hmll]at hrk;conv=>whnf
   repeat (refine O6.mk _ rfl ?_;conv=>whnf)
   intro t ht;cases t;rotate_left
   ·exact bu
   conv=>whnf
   repeat' first|(refine O6.mk _ rfl ?_;conv=>whnf)
   refine ax pok (fun i=>⟨[(1,.d (aP ks u)),(7,.d (iD m)),(10,.sl 1 2 0 i i false),(45,.d (az l t)),(46,.d (iD (l.map Ps.l).length)),(47,.d (iD i))],[(1,some (ap 2 (((jc l m).take i).map Rn.l)))],2⟩) (l.length) (fun _=>True) (trivial) ?_ ar ?_ ?_
   ·refine Sub.trans (fB (t:=10) (S:=2) (dW _) rfl) ?_;refine ah cW ?_ ?_ trivial
    ·exact gn
    ·exact lZ
   ·intro i A_i h_i I_i N_i;have e_i:aD .i64 (i:Int) 1=((i+1:Nat):Int):=ak eH;have hi2:i<(jc l m).length:=qad;have hsn:((jc l m).take (i+1)).map Rn.l=((jc l m).take i).map Rn.l++[[iD ((l[i].x.toNat &&& m:Nat)),iD ((l[i].z.toNat &&& m:Nat))]]:=by
     rw[aC hi2,nh];simp[jc,Rn.l]
    have hlen:(((jc l m).take i).map Rn.l).length=i:=qho;obtain⟨X,Z,P,he,g1,g2,g3⟩:=hs.vl _ (ey h_i);have hx:dI .i64 l[i].x (m:Int)=((l[i].x.toNat &&& m:Nat):Int):=by
     rw[he];show dI .i64 (X:Int) (m:Int)=(((X:Int).toNat &&& m:Nat):Int);rw[ka qad qad,gx]
    have hz:dI .i64 l[i].z (m:Int)=((l[i].z.toNat &&& m:Nat):Int):=by
     rw[he];show dI .i64 (Z:Int) (m:Int)=(((Z:Int).toNat &&& m:Nat):Int);rw[ka qad qad,gx]
    generalize ((jc l m).take i).map Rn.l=M at hsn hlen;conv=>whnf
    repeat (refine O6.mk _ rfl ?_;conv=>whnf)
    intro t ht;cases t
    ·exact bu
    conv=>whnf
    repeat' first|((first|refine O6.mk _ TJ ?_|refine O8.mk _ aK ?_|(refine aJ (by first|exact cF _|exact⟨by rw[ef];exact hlen,by decide,by show(2*(i+1)+192)*16<=281474976710656;omega⟩|assumption|exact⟨by kernel_rfl,rfl⟩|decide|omega) ?_)|rw[hJ]|rw[hx,hz]|refine HpP.force ?_);conv=>whnf)
    refine N_i _ ?_ ?_
    ·exact cY
    ·exact qi5
   ·intro A_last I_last;rw[<- hmll,pS,hmll];conv=>whnf
    repeat (refine O6.mk _ rfl ?_;conv=>whnf)
    intro t ht;cases t;rotate_left
    ·exact bu
    conv=>whnf
    repeat' first|((first|refine DS hrk (fg rfl (by simp[hmll])) rfl ?_|fail);conv=>whnf)|fail
    refine fin ?_;rw[ef]
 ·rw[if_pos h];generalize bD w l=e at hc h;refine ae pok Tryz.func34 UV ?_;conv=>whnf
  repeat' first|((first|refine O6.mk _ rfl ?_|refine aa hc ?_);conv=>whnf)|(intro t ht;cases t<;>conv=>whnf)
  ·exact absurd nb h
  ·exact GL
end Go.Tz
namespace Go.Tz
open Go Go.AL Go.Proofs Go.Ma
variable{G:Nat->Option (List D)}
def xF(wb:Nat->Nat->Bool)(i:Nat)(q:Ps)(s:Ps×(Nat->Bool)):Ps×(Nat->Bool):=if 0<=cX q/\da s.1 (cX q)=true then(bc s.1 q,fun j=>s.2 j != wb i j) else s
def jp(m:List Ps)(wb:Nat->Nat->Bool)(p:Ps):Nat->Ps×(Nat->Bool)
 | 0=>(p,fun _=>false)
 | i+1=>xF wb i (m.getD i Ps.z0) (jp m wb p i)
def uh(n:Nat)(f:Nat->Bool):Blk:=ap 1 ((List.range n).map fun j=>[.bool (f j)])
def BG(f:Nat->Bool)(n:Nat):List Nat:=(List.range n).filter f
theorem EO(f:Nat->Bool)(i:Nat):BG f (i+1)=if f i=true then BG f i++[i] else BG f i:=by
 unfold BG;rw[Fa,wd7];by_cases h:f i=true
 ·rw[if_pos h];simp[h]
 ·rw[if_neg h];simp[h]
theorem Qg(f:Nat->Bool)(i:Nat):(BG f i).length<=i:=by
 have:=I5 f (List.range i);simpa[BG] using this
def wdD(n:Nat)(wb:Nat->Nat->Bool):List (List D):=(List.range n).map fun j=>[.sl ((List.range n).map fun q=>[.bool (wb j q)]) true]
theorem wL{n i:Nat}{f:Nat->List D}(h:i<n):((List.range n).map f)[(i:Int).toNat]?=some (f i):=GJ
theorem PQ{w:Nat}(hw:w<=12){m:List Ps}{wb:Nat->Nat->Bool}{p:Ps}(hm:∀ q,q∈m->Vl w q)(hp:Vl w p):∀{i:Nat},i<=m.length->Vl w (jp m wb p i).1
 | 0,_=>hp
 | i+1,hi=>by
  have ih:=PQ hw (wb:=wb) hm hp (i:=i) qad;simp only[jp,xF];split
  ·refine dy hw ih ?_;rw[jI,ew (show i<m.length by omega)];exact hm _ (ey _)
  ·exact ih
theorem KP(n:Nat):List.replicate n [AV.d (.bool false)]=((List.range n).map fun _:Nat=>[D.bool false]).map fun el=>el.map AV.d:=by
 apply Hx
 ·exact aR
 ·intro i h1 h2;simp
theorem CF{n:Nat}{f g:Nat->List D}(h:∀ j,f j=g j):Blk.arr 1 (((List.range n).map f).map fun el=>el.map AV.d)=ap 1 ((List.range n).map g):=qgh
theorem Ml{n:Nat}{f g:Nat->Bool}(h:∀ r,r<n->f r=g r):uh n f=uh n g:=by
 unfold uh;congr 1;exact xX fun r hr=>by rw[h r (cJ.1 hr)]
theorem Ta(q:Ps):cX q<2*q.w.toNat\/cX q = -1:=by
 have key:∀ f k,lG q f k<((k+f:Nat):Int)\/lG q f k = -1:=by
  intro f
  induction f with
  | zero=>intro k;exact .inr rfl
  | succ f ih =>
   intro k;simp only[lG];split
   ·left;omega
   ·have:=ih (k+1);rw[show k+1+f=k+(f+1) by omega]at this;exact this
 have:=key (2*q.w.toNat) 0;unfold cX;rw[jj]at this
 push_cast at this
 exact this
theorem MJ:aq Tryz.f204=true:=ar
def D1(n:Nat)(s:Ps×(Nat->Bool)):D:=if s.1.x≠0\/s.1.z≠0 then .tup [.sl [] true,.bool false] else .tup [.sl (cS (BG s.2 n)) false,.bool true]
theorem KY{w:Nat}(hw:1<=w/\w<=12)(l:List Ps)(t:Bool)(p:Ps)(m:List Ps)(wb:Nat->Nat->Bool)(hn:l.length<=1000)(hml:m.length=l.length)(hm:∀ q,q∈m->Vl w q)(hp:Vl w p)
  (hred:PC Pr G 100 [az l t] (.tup [az m false,.sl (wdD l.length wb) false])):PC Pr G 204 [az l t,p.d] (D1 l.length (jp m wb p l.length)):=by
 refine de (bg Tryz.func204 MJ) (bi pok Tryz.func204 MJ ?_);conv=>whnf
 repeat' first|((first|refine O6.mk _ rfl ?_|refine O8.mk _ (by first|exact KP _|(simp only[List.set,bU,List.take,List.drop,JV,uV,yf,List.length];rfl)|rfl) ?_|(refine aJ (by first|exact⟨mf _,rfl,by show 1*(((l.map Ps.l).length:Nat):Int).toNat<=281474976710656;rw[gx,ef];omega,by decide,by decide⟩|assumption|exact⟨by kernel_rfl,rfl⟩|decide|omega) ?_)|refine aa hred ?_|refine HpP.force ?_);conv=>whnf)
 have eN:(((l.map Ps.l).length:Nat):Int).toNat=l.length:=aR;refine ax pok (fun i=>⟨[(0,.d (az l t)),(6,.d (az m false)),(7,.d (.sl (wdD l.length wb) false)),(8,.ptr 1 4 0 0),(9,.sl 2 1 0 l.length l.length true),(10,.d (iD i))],[(1,some (.arr 4 [(jp m wb p i).1.l.map AV.d])),(2,some (uh l.length (jp m wb p i).2))],3⟩) (l.length) (fun _=>True) (trivial) ?_ ar ?_ ?_
 ·refine ah cW ?_ ?_ trivial
  ·repeat' first|exact trivial|refine⟨⟨by first|rfl|assumption|(show AV.sl 2 1 0 (((l.map Ps.l).length:Nat):Int).toNat (((l.map Ps.l).length:Nat):Int).toNat true=_;rw[eN]),rfl⟩,?_⟩
  ·repeat' first|exact trivial|refine⟨⟨di rfl,_,rfl,by first|rfl|assumption|(show some (Blk.arr 1 (((List.range (((l.map Ps.l).length:Nat):Int).toNat).map fun _=>[D.bool false]).map fun el=>el.map AV.d))=_;rw[eN];rfl),by first|exact ay rfl|exact aj _ _ _|exact au rfl|exact aj _ _ _⟩,?_⟩
 ·intro i A_i h_i I_i N_i;have e_i:aD .i64 (i:Int) 1=((i+1:Nat):Int):=ak eH;have him:i<m.length:=qad;have hs:jp m wb p (i+1)=xF wb i m[i] (jp m wb p i):=by
   simp only[jp,jI,ew him,Hw]
  have hqv:=hm _ (ey him);have hsv:=PQ hw.2 (wb:=wb) hm hp (i:=i) qad;have hqw:=dr hqv;have hsw:=dr hsv;have hlead:=Jd (G:=G) m[i] qad;have hll:=Ta m[i];have hmul:=mF (G:=G) (jp m wb p i).1 m[i] qad qad;unfold xF at hs;generalize jp m wb p i=s at hs hsv hsw hmul⊢;have hgm:(m.map Ps.l)[(i:Int).toNat]?=some (m[i]).l:=gG him;generalize m[i]=q at hs hqv hqw hlead hll hmul hgm;by_cases h0:0<=cX q
  ·have hbit:=zT (G:=G) s.1 (cX q) h0 qad;cases hb:da s.1 (cX q) with
   | false =>
    rw[hb]at hs hbit;rw[if_neg aR]at hs;generalize cX q=k at hlead h0 hbit;conv=>whnf
    repeat (refine O6.mk _ rfl ?_;conv=>whnf)
    intro t ht;cases t
    ·exact bu
    conv=>whnf
    repeat' first|((first|refine O6.mk _ qhj ?_|refine aJ ci ?_|refine aa hlead ?_|refine aa hbit ?_);conv=>whnf)|(intro t ht;cases t<;>conv=>whnf)
    ·exact lQ
    ·exact qjt
   | true =>
    rw[hb]at hs hbit;rw[if_pos ⟨h0,rfl⟩]at hs;generalize cX q=k at hlead h0 hbit;generalize bc s.1 q=g at hs hmul;conv=>whnf
    repeat (refine O6.mk _ rfl ?_;conv=>whnf)
    intro t ht;cases t
    ·exact bu
    conv=>whnf
    repeat' first|((first|refine O6.mk _ qhj ?_|refine O8.mk _ aK ?_|refine aJ ci ?_|refine aa hlead ?_|refine aa hbit ?_|refine ab hmul ?_|refine HpP.force ?_);conv=>whnf)|(intro t ht;cases t<;>conv=>whnf)
    ·exact lQ
    refine ax pok (fun j=>⟨[(0,.d (az l t)),(6,.d (az m false)),(7,.d (.sl (wdD l.length wb) false)),(8,.ptr 1 4 0 0),(9,.sl 2 1 0 l.length l.length true),(10,.d (iD i)),(12,.d (iD j))],[(1,some (.arr 4 [g.l.map AV.d])),(2,some (uh l.length fun r=>if r<j then s.2 r != wb i r else s.2 r))],3⟩) (l.length) (fun _=>True) (trivial) ?_ ar ?_ ?_
    ·refine ah cW ?_ ?_ trivial
     ·exact gn
     ·repeat' first|exact trivial|refine⟨⟨di rfl,_,rfl,by first|rfl|assumption|(show some (uh l.length s.2)=some (uh l.length fun r=>if r<0 then s.2 r != wb i r else s.2 r);simp),by first|exact ay rfl|exact aj _ _ _|exact au rfl|exact aj _ _ _⟩,?_⟩
    ·intro j A_j h_j I_j N_j;have e_j:aD .i64 (j:Int) 1=((j+1:Nat):Int):=ak eH;have hg1:(fun r:Nat=>[D.bool (if r<j then s.2 r != wb i r else s.2 r)]) j=[.bool (s.2 j)]:=aR;conv=>whnf
     repeat (refine O6.mk _ rfl ?_;conv=>whnf)
     intro t ht;cases t
     ·exact bu
     conv=>whnf
     repeat' first|((first|refine O6.mk _ (by first|rfl|exact wL h_i|exact wL h_j|exact dh h_j hg1) ?_|refine O8.mk _ (by first|exact fr (x:=[_]) h_j|rfl) ?_|refine aJ yd ?_|refine HpP.force ?_);conv=>whnf)
     have hst:∀ r,(if r=j then [D.bool (!(s.2 j==wb i j))] else [D.bool (if r<j then s.2 r != wb i r else s.2 r)])=[D.bool (if r<j+1 then s.2 r != wb i r else s.2 r)]:=by
      intro r;by_cases e:r=j
      ·subst e;rw[if_pos rfl,if_pos (Ck _)];rfl
      ·rw[if_neg e];have:(r<j+1) ↔ (r<j):=qad;simp only[this]
     refine N_j _ ?_ ?_
     ·exact cY
     ·refine ah cW ?_ ?_ trivial
      ·exact qar
      ·repeat' first|exact trivial|refine⟨⟨di rfl,_,rfl,by first|rfl|assumption|exact congrArg some (CF hst),by first|exact ay rfl|exact aj _ _ _|exact au rfl|exact aj _ _ _⟩,?_⟩
    ·intro A_last I_last;conv=>whnf
     repeat (refine O6.mk _ rfl ?_;conv=>whnf)
     intro t ht;cases t;rotate_left
     ·exact bu
     conv=>whnf
     skip;have hbb:=Ml (n:=l.length) (f:=fun r=>if r<l.length then s.2 r != wb i r else s.2 r) (g:=fun r=>s.2 r != wb i r) (fun r hr=>by rw[if_pos hr]);refine N_i _ ?_ ?_
     ·exact cY
     ·refine ah cW ?_ ?_ trivial
      ·exact Ch
      ·repeat' first|exact trivial|refine⟨⟨di rfl,_,rfl,by first|rfl|assumption|(rw[hs];rfl)|(rw[hs];exact congrArg some hbb),by first|exact ay rfl|exact aj _ _ _|exact au rfl|exact aj _ _ _⟩,?_⟩
  ·have hb:¬(0<=cX q/\da s.1 (cX q)=true):=fun h=>h0 h.1;rw[if_neg hb]at hs;generalize cX q=k at hlead h0;conv=>whnf
   repeat (refine O6.mk _ rfl ?_;conv=>whnf)
   intro t ht;cases t
   ·exact bu
   conv=>whnf
   repeat' first|((first|refine O6.mk _ qhj ?_|refine aJ ci ?_|refine aa hlead ?_);conv=>whnf)|(intro t ht;cases t<;>conv=>whnf)
   ·exact qjt
   ·exact lQ
 ·intro A_last I_last;have hsv:=PQ hw.2 (wb:=wb) hm hp (i:=l.length) qad;generalize jp m wb p l.length=s at hsv⊢;unfold D1;conv=>whnf
  repeat (refine O6.mk _ rfl ?_;conv=>whnf)
  intro t ht;cases t;rotate_left
  ·exact bu
  conv=>whnf
  repeat' first|(refine O6.mk _ rfl ?_;conv=>whnf)|(intro t ht;cases t<;>conv=>whnf)
  rotate_left
  ·have hz:s.1.x≠0\/s.1.z≠0:=.inr nb;rw[if_pos hz];exact fin (.d _)
  ·have hz:s.1.x≠0\/s.1.z≠0:=.inl nb;rw[if_pos hz];exact fin (.d _)
  have hz:¬(s.1.x≠0\/s.1.z≠0):=by
   rintro(h|h)
   ·simp_all
   ·simp_all
  rw[if_neg hz];refine ax pok (fun i=>⟨[(0,.d (az l t)),(9,.sl 2 1 0 l.length l.length true),(13,.sl 3 1 0 (BG s.2 i).length (BG s.2 i).length false),(14,.d (iD i))],[(2,some (uh l.length s.2)),(3,some (ap 1 (cS (BG s.2 i))))],4⟩) (l.length) (fun _=>True) (trivial) ?_ ar ?_ ?_
  ·refine Sub.trans (fB (t:=13) (S:=1) (dW _) rfl) ?_;first|refine aO [(3,3)] ?_ ?_ ?_ trivial|refine aI [(3,3)] rfl rfl ?_ ?_ ?_ trivial
   ·exact gn
   ·repeat' first|exact trivial|refine⟨⟨di rfl,_,rfl,by first|rfl|assumption|exact aw rfl (by first|rfl|assumption),by first|exact ay rfl|exact aj _ _ _|exact au rfl|exact aj _ _ _⟩,?_⟩
   ·exact iI
  ·intro i A_i h_i I_i N_i;have e_i:aD .i64 (i:Int) 1=((i+1:Nat):Int):=ak eH;have hs:=EO s.2 i;have hle:=Qg s.2 i;have hg1:(fun r:Nat=>[D.bool (s.2 r)]) i=[.bool (s.2 i)]:=rfl;generalize BG s.2 i=A at hs hle;cases hb:s.2 i with
   | false =>
    rw[hb]at hs hg1;rw[if_neg aR]at hs;conv=>whnf
    repeat (refine O6.mk _ rfl ?_;conv=>whnf)
    intro t ht;cases t
    ·exact bu
    conv=>whnf
    repeat' first|((first|refine O6.mk _ (by first|rfl|exact dh h_i hg1) ?_|refine aJ yd ?_|fail);conv=>whnf)|fail
    refine N_i _ ?_ ?_
    ·exact cY
    ·refine ah cW ?_ ?_ trivial
     ·exact qay
     ·exact qbw
   | true =>
    rw[hb]at hs hg1;rw[if_pos rfl]at hs;have hsn:cS (BG s.2 (i+1))=cS A++[[iD i]]:=by rw[hs];simp[cS]
    have hnl:(cS A).length=A.length:=H6;generalize cS A=M at hsn hnl;conv=>whnf
    repeat (refine O6.mk _ rfl ?_;conv=>whnf)
    intro t ht;cases t
    ·exact bu
    conv=>whnf
    repeat' first|((first|refine O6.mk _ (by first|rfl|exact dh h_i hg1) ?_|refine O8.mk _ aK ?_|(refine aJ (by first|exact⟨mf _,by omega⟩|exact cF _|exact⟨by rw[ef];exact hnl,by decide,by show(2*(A.length+1)+192)*8<=281474976710656;omega⟩|assumption|exact⟨by kernel_rfl,rfl⟩|decide|omega) ?_)|rw[hJ]|refine HpP.force ?_);conv=>whnf)
    refine N_i _ ?_ ?_
    ·exact cY
    ·first|refine aO [(3,5)] ?_ ?_ ?_ trivial|refine aI [(3,5)] rfl rfl ?_ ?_ ?_ trivial
     ·exact qb6
     ·repeat' first|exact trivial|refine⟨⟨di rfl,_,rfl,by first|rfl|assumption|exact aw rfl (by first|rfl|assumption|exact aw rfl qdc)|exact aw rfl qdc,by first|exact ay rfl|exact aj _ _ _|exact au rfl|exact aj _ _ _⟩,?_⟩
     ·exact iI
  ·intro A_last I_last;conv=>whnf
   repeat (refine O6.mk _ rfl ?_;conv=>whnf)
   intro t ht;cases t;rotate_left
   ·exact bu
   conv=>whnf
   skip;refine fin (CA (fg rfl H6) (.d _))
end Go.Tz
namespace Go.Tz
open Go Go.AL Go.Proofs Go.Ma
variable{G:Nat->Option (List D)}
theorem lendS{V:AHeap}{nm sz N:Nat}{t:Bool}{es:List (List D)}{a:D}(hg:V.get nm=some (ap sz es))(hN:N=es.length):fb (eY V 9 []) [.d a,.sl nm sz 0 N N t]=some [a,.sl es t]:=by
 have h:=uZ (q:=7) (vis:=[]) (t:=t) hg hN;have e1:eY V 9 [] (.d a)=some a:=rfl;simp only[fb,e1,h]
def QU(w:Nat)(l:List Ps)(p:Ps):Ps×(Nat->Bool):=jp (af l (2*w)) (aG l (2*w)).2.1 p l.length
def tkP(l:List Ps)(f:Nat->Bool):List Ps:=(BG f l.length).map fun n=>l.getD n Ps.z0
def phR(w:Nat)(l:List Ps)(p:Ps):Int:=(cO .i64 (aD .i64 4 p.p) (ii w (tkP l (QU w l p).2)).p).tmod 4
def NA(w:Nat)(l:List Ps)(p:Ps):D:=if(QU w l p).1.x≠0\/(QU w l p).1.z≠0 then .tup [.any,iD 0,iD 6] else .tup [.any,iD (phR w l p),iD 0]
theorem Mz:aq Tryz.f123=true:=ar
theorem RU{w:Nat}{l:List Ps}(hs:SOk w l)(t:Bool){p:Ps}(hp:Vl w p):PC Pr G 123 [az l t,p.d] (NA w l p):=by
 have hlo:=hs.lo;have hhi:=hs.hi;have hlen:=hs.len;have hpos:0<l.length:=qad;have hww:∀ q,q∈l->q.w=(w:Int):=fun q hq=>dr (hs.vl q hq);have hi:=IY (G:=G) l t w qad hpos hww qad qad;rw[gx,hs.rank,decide_eq_true rfl]at hi;have hr:=GQ (G:=G) l t w qad hpos hww qad qad;rw[gx]at hr;have hmv:∀ q,q∈af l (2*w)->Vl w q:=by
  intro q hq;obtain⟨j,hj,rfl⟩:=bm.1 hq;exact(fp hhi hs.vl _).1 j (cJ.1 hj)
 have hsub:=KY (G:=G) ⟨hlo,hhi⟩ l t p (af l (2*w)) (aG l (2*w)).2.1 qad (cZ l _) hmv hp hr;have hsv:jp (af l (2*w)) (aG l (2*w)).2.1 p l.length=QU w l p:=rfl;rw[hsv]at hsub;unfold D1 at hsub;unfold NA phR;generalize QU w l p=s at hsub⊢;have hg0:(l.map Ps.l)[(0:Int).toNat]?=some (l[0]).l:=AC hpos;have hwp:p.w=(l[0]).w:=by rw[dr hp,dr (hs.vl _ (ey hpos))]
 refine mG (bg Tryz.func123 Mz) (bi pok Tryz.func123 Mz ?_);by_cases hz:s.1.x≠0\/s.1.z≠0
 ·rw[if_pos hz]at hsub⊢;conv=>whnf
  repeat' first|((first|refine O6.mk _ qhg ?_|refine aJ ci ?_|refine aa hi ?_|refine aa hsub ?_|refine HpP.force ?_);conv=>whnf)|(intro t ht;cases t<;>conv=>whnf)
  ·exact fin ⟨_,.d _,vm _ _ _⟩
  ·exfalso;simp at ht;exact ht hwp
 ·rw[if_neg hz]at hsub⊢;have htl:∀ n,n∈BG s.2 l.length->n<l.length:=fun n hn=>cJ.1 (VY.1 hn).1;have htn:=Qg s.2 l.length;unfold tkP;generalize BG s.2 l.length=A at hsub htl htn⊢;have hpr:=TE (G:=G) w (A.map fun n=>l.getD n Ps.z0) false fF qad qad (by
   intro q hq;obtain⟨n,hn,rfl⟩:=bm.1 hq;have h:=htl n hn;rw[jI,ew h];exact hww _ (ey h))
  rw[<- dr hp]at hpr⊢;generalize ii p.w (A.map fun n=>l.getD n Ps.z0)=g at hpr⊢;conv=>whnf
  repeat' first|((first|refine O6.mk _ qhg ?_|refine aJ ci ?_|refine aa hi ?_|refine aa hsub ?_|refine HpP.force ?_);conv=>whnf)|(intro t ht;cases t<;>conv=>whnf)
  rotate_left
  ·exfalso;simp at ht;exact ht hwp
  refine ax pok (fun i=>⟨[(0,.d (az l t)),(3,.ptr 0 4 0 0),(7,.d (.sl (cS A) false)),(9,.sl 1 4 0 i i false),(10,.d (iD i))],[(0,some (.arr 4 [p.l.map AV.d])),(1,some (ap 4 (((A.map fun n=>l.getD n Ps.z0).take i).map Ps.l)))],2⟩) (A.length) (fun _=>True) (trivial) ?_ ar ?_ ?_
  ·refine Sub.trans (fB (t:=9) (S:=4) (dW _) rfl) ?_;refine ah cW ?_ ?_ trivial
   ·exact gn
   ·exact lZ
  ·intro i A_i h_i I_i N_i;have e_i:aD .i64 (i:Int) 1=((i+1:Nat):Int):=ak eH;have hai:=htl _ (ey h_i);have hnum:(cS A)[(i:Int).toNat]?=some [iD (A[i]:Nat)]:=by simp[cS,ew h_i]
   have hsn:((A.map fun n=>l.getD n Ps.z0).take (i+1)).map Ps.l=((A.map fun n=>l.getD n Ps.z0).take i).map Ps.l++[(l[A[i]]).l]:=by
    rw[aC (by simpa using h_i),nh];simp[jI,ew hai]
   have hml:(((A.map fun n=>l.getD n Ps.z0).take i).map Ps.l).length=i:=fF;have hgl:(l.map Ps.l)[((A[i]:Nat):Int).toNat]?=some (l[A[i]]).l:=gG hai;generalize ((A.map fun n=>l.getD n Ps.z0).take i).map Ps.l=M at hsn hml;generalize l[A[i]]=q at hsn hgl;generalize A[i]=a at hai hnum hgl;have hlen2:(cS A).length=A.length:=H6;conv=>whnf
   repeat' first|((first|refine O6.mk _ (by first|rfl|exact hnum|exact hgl) ?_|refine O8.mk _ aK ?_|(refine aJ (by first|exact⟨mf _,by omega⟩|exact cF _|exact⟨by rw[ef];exact hml,by decide,by show(2*(i+1)+192)*32<=281474976710656;omega⟩|assumption|exact⟨by kernel_rfl,rfl⟩|decide|omega) ?_)|rw[hJ]|refine HpP.force ?_);conv=>whnf)|(intro t ht;cases t<;>conv=>whnf)
   ·exfalso;simp[cS]at ht;omega
   ·refine N_i _ ?_ ?_
    ·exact cY
    ·first|refine aO [(1,3)] ?_ ?_ ?_ trivial|refine aI [(1,3)] rfl rfl ?_ ?_ ?_ trivial
     ·exact Ch
     ·exact ZY
     ·exact iI
  ·intro A_last I_last;have hlen2:(cS A).length=A.length:=H6;have hT:(A.map fun n=>l.getD n Ps.z0).take A.length=A.map fun n=>l.getD n Ps.z0:=pT aR;rw[hT];have hTl:(A.map fun n=>l.getD n Ps.z0).length=A.length:=aR;generalize (A.map fun n=>l.getD n Ps.z0)=T at hpr hTl⊢;conv=>whnf
   repeat (refine O6.mk _ rfl ?_;conv=>whnf)
   intro t ht;cases t;rotate_left
   ·exact bu
   conv=>whnf
   repeat' first|((first|refine O6.mk _ (by first|rfl|exact lendS rfl (by simp[hTl])) ?_|refine aJ ci ?_|refine aH (l:=[1]) (aM rfl rfl (show _=some (ap 4 (T.map Ps.l)) from rfl)) ?_|refine ab hpr ?_|refine HpP.force ?_);conv=>whnf)
   refine fin ⟨_,.d _,?_⟩;exact vm _ _ _
theorem UY:aq Tryz.f45=true:=ar
def cI(w:Nat)(l:List Ps)(p:Ps):Int:=if(QU w l p).1.x≠0\/(QU w l p).1.z≠0 then 0 else if phR w l p=0 then 1 else -1
theorem jY{w:Nat}{l:List Ps}(hs:SOk w l)(t:Bool){p:Ps}(hp:Vl w p):PC Pr G 45 [cf w l t,p.d] (iD (cI w l p)):=by
 have hf:=RU (G:=G) hs t hp;unfold NA at hf;unfold cI;generalize phR w l p=n at hf⊢;by_cases hz:(QU w l p).1.x≠0\/(QU w l p).1.z≠0
 ·rw[if_pos hz]at hf⊢;refine ae pok Tryz.func45 UY ?_;conv=>whnf
  repeat' first|((first|refine O6.mk _ rfl ?_|refine aa hf ?_);conv=>whnf)|(intro t ht;cases t<;>conv=>whnf)
  all_goals first|exact fin rfl|exact absurd ht qaj|(exfalso;simp_all)
 ·rw[if_neg hz]at hf⊢;refine ae pok Tryz.func45 UY ?_;conv=>whnf
  repeat' first|((first|refine O6.mk _ rfl ?_|refine aa hf ?_);conv=>whnf)|(intro t ht;cases t<;>conv=>whnf)
  ·rw[if_neg nb];exact fin rfl
  ·rw[if_pos nb];exact fin rfl
  ·exact xt
end Go.Tz
namespace Go.Tz
open Go Go.AL Go.Proofs Go.Ma
variable{G:Nat->Option (List D)}
def dz(p:Ps):List Ps->List Ps
 | []=>[]
 | q::l=>if bS q p=true then q::dz p l else p::l.map fun r=>if bS r p=true then r else bc q r
theorem rJ(p:Ps):∀ l,(dz p l).length=l.length
 | []=>rfl
 | q::l=>by
  unfold dz;split
  ·simp[rJ p l]
  ·exact aR
theorem tv(p q:Ps):∀ A:List Ps,dz p (A++[q])=dz p A++[if bS q p=true then q else match A.find? (fun r=>!bS r p) with
  | some f=>bc f q
  | none=>p]
 | []=>by
  simp only[uV,dz,List.find?_nil,QF];split<;>rfl
 | a::A=>by
  rw[yf];unfold dz;by_cases h:bS a p=true
  ·rw[if_pos h,if_pos h,tv p q A,List.find?_cons_of_neg GJ];rfl
  ·rw[if_neg h,if_neg h,nh,List.find?_cons_of_pos uz];rfl
def gv(w:Nat)(l':List Ps)(P:List Ps):Nat->List Ps×Nat
 | 0=>(l',0)
 | k+1=>if cI w (gv w l' P k).1 (P.getD k Ps.z0)=1 then gv w l' P k else(dz (P.getD k Ps.z0) (gv w l' P k).1,(gv w l' P k).2+1)
def uM(w:Nat)(l' P:List Ps)(k:Nat):Int:=cI w (gv w l' P k).1 (P.getD k Ps.z0)
def Vu(w:Nat)(l' P:List Ps):Int:=if(List.range P.length).any (fun k=>decide (uM w l' P k = -1)) then -1 else((gv w l' P P.length).2:Nat)
theorem wO{α:Type}{p:α->Bool}{l:List α}{i:Nat}(h:i<l.length)(h1:p l[i]=false):dG p (l.take (i+1))=dG p (l.take i):=by
 unfold dG;rw[aC h,List.findIdx?_append];cases l.take i |>.findIdx? p with
 | some j=>rfl
 | none=>simp[wd6,h1]
theorem Dl{α:Type}(p:α->Bool)(l:List α):(l.find? p=none/\dG p l = -1) \/ ∃ i,∃ h:i<l.length,dG p l=(i:Nat)/\l.find? p=some l[i]:=by
 unfold dG;rw[List.find?_eq_bind_findIdx?_getElem?];cases h:l.findIdx? p with
 | none=>exact .inl ⟨rfl,rfl⟩
 | some i =>
  have hi:=(List.findIdx?_eq_some_iff_getElem.1 h).1;exact .inr ⟨i,hi,rfl,by simp[hi]⟩
theorem Dj{α:Type}{p:α->Bool}{l:List α}{i:Nat}(h:i<l.length)(h1:p l[i]=true)(h2:dG p (l.take i) = -1):dG p (l.take (i+1))=i:=by
 rw[aC h];unfold dG at h2⊢;rw[List.findIdx?_append];cases hx:(l.take i).findIdx? p with
 | some j=>rw[hx]at h2;exact absurd h2 (by show ¬((j:Int) = -1);omega)
 | none =>
  simp[wd6,h1];omega
theorem Dk{α:Type}{p:α->Bool}{l:List α}{i k:Nat}(h:i<l.length)(h2:dG p (l.take i)=(k:Nat)):dG p (l.take (i+1))=k:=by
 rw[aC h];unfold dG at h2⊢;rw[List.findIdx?_append];cases hx:(l.take i).findIdx? p with
 | some j=>rw[hx]at h2;exact h2
 | none=>rw[hx]at h2;exact absurd h2 (by show ¬((-1:Int)=k);omega)
theorem L7:aq Tryz.f28=true:=ar
theorem ZN{w:Nat}(hw:1<=w/\w<=12)(l:List Ps)(t:Bool)(l':List Ps)(hn:l.length<=1000)(hn':l'.length<=1000)(hv:∀ q,q∈l->Vl w q)
  (hst:∀ k,k<=l.length->(∀ j,j<k->uM w l' l j ≠ -1)->SOk w (gv w l' l k).1):PC Pr G 28 [cf w l t,cf w l' false] (iD (Vu w l' l)):=by
 refine ae pok Tryz.func28 L7 ?_;conv=>whnf
 repeat' first|((first|refine O6.mk _ rfl ?_|refine O8.mk _ aK ?_|refine HpP.force ?_);conv=>whnf)
 refine ax pok (fun k=>⟨[(2,.ptr 0 2 0 0),(5,.ptr 1 2 0 0),(6,.d (iD ((gv w l' l k).2:Nat))),(7,.d (iD k))],[(0,some (.arr 2 [[.d (iD w),.d (az l t)]])),(1,some (.arr 2 [[.d (iD w),.d (az (gv w l' l k).1 false)]]))],2⟩) (l.length) (fun k=>∀ j,j<k->uM w l' l j ≠ -1) qad ?_ ar ?_ ?_
 ·first|refine aO [(1,2)] ?_ ?_ ?_ trivial|refine aI [(1,2)] rfl rfl ?_ ?_ ?_ trivial
  ·exact gn
  ·exact qau
  ·exact iI
 ·intro k A_k h_k I_k N_k;have e_k:aD .i64 (k:Int) 1=((k+1:Nat):Int):=ak eH;have hS:=hst k qad I_k;have hgd:l.getD k Ps.z0=l[k]:=qe2;have hpv:=hv l[k] (ey h_k);have hx:=jY (G:=G) hS false hpv;have hE:uM w l' l k=cI w (gv w l' l k).1 l[k]:=by unfold uM;rw[hgd]
  have hnx:gv w l' l (k+1)=if cI w (gv w l' l k).1 l[k]=1 then gv w l' l k else(dz l[k] (gv w l' l k).1,(gv w l' l k).2+1):=by rw[<- hgd];rfl
  have hcnt:(gv w l' l k).2<=k:=by
   have key:∀ k,(gv w l' l k).2<=k:=by
    intro k
    induction k with
    | zero=>exact cF _
    | succ k ih =>
     simp only[gv];split
     ·exact qad
     ·exact Nat.succ_le_succ ih
   exact key k
  have hout:cI w (gv w l' l k).1 l[k] = -1->Vu w l' l = -1:=by
   intro h;unfold Vu;rw[if_pos (yF.2 ⟨k,cJ.2 h_k,by rw[hE,h];rfl⟩)]
  have hnn:uM w l' l k ≠ -1->∀ j,j<k+1->uM w l' l j ≠ -1:=by
   intro h j hj;rcases wa1 j k with q|q
   ·exact I_k j q
   ·rw[show j=k by omega];exact h
  rw[hE]at hnn;have hSl:=hS.len;have hSv:=hS.vl;generalize gv w l' l k=s at hx hE hnx hcnt hout hnn hSl hSv⊢;generalize cI w s.1 l[k]=e at hx hnx hout hnn;obtain⟨L,n⟩:=s;dsimp only at hx hnx hcnt hSl hSv hnn hout⊢;have hgp:(l.map Ps.l)[(k:Int).toNat]?=some (l[k]).l:=gG h_k;generalize l[k]=p at hnx hpv hgp hx;conv=>whnf
  repeat (refine O6.mk _ rfl ?_;conv=>whnf)
  intro t ht;cases t
  ·exact bu
  conv=>whnf
  repeat' first|((first|refine O6.mk _ (by first|rfl|exact hgp) ?_|refine O8.mk _ aK ?_|refine aJ ci ?_|refine aa hx ?_|refine HpP.force ?_);conv=>whnf)|(intro t ht;cases t<;>conv=>whnf)
  ·have e1:e≠1:=by simpa using ht
   have e2:e ≠ -1:=by intro h;subst h;simp_all
   rw[if_neg e1]at hnx;have hi:aD .i64 (n:Int) 1=((n+1:Nat):Int):=ak (b:=1) qad;have hLN:L.length<=1000:=qad;refine ax pok (fun j=>⟨[(2,.ptr 0 2 0 0),(5,.ptr 1 2 0 0),(6,.d (iD (n+1:Nat))),(7,.d (iD k)),(8,.ptr 2 4 0 0),(9,.d (iD (dG (fun q=>!bS q p) (L.take j)))),(10,.ptr 3 2 0 0),(11,.d (iD j))],[(0,some (.arr 2 [[.d (iD w),.d (az l t)]])),(1,some (.arr 2 [[.d (iD w),.d (az L false)]])),(2,some (.arr 4 [p.l.map AV.d])),(3,some (.arr 2 [[.d (iD w),.sl 4 4 0 j j false]])),(4,some (ap 4 ((dz p (L.take j)).map Ps.l)))],5⟩) (L.length) (fun _=>True) (trivial) ?_ ar ?_ ?_
   ·refine Sub.trans (tI (nm:=3) (S:=4) (dW _) rfl) ?_;refine ah cW ?_ ?_ trivial
    ·repeat' first|exact trivial|refine⟨⟨by first|rfl|assumption|exact congrArg (fun n=>AV.d (iD n)) hi,rfl⟩,?_⟩
    ·exact lZ
   ·intro j A_j h_j I_j N_j;have e_j:aD .i64 (j:Int) 1=((j+1:Nat):Int):=ak eH;have hqv:=hSv _ (ey h_j);have hcm:=sX (G:=G) L[j] p (by rw[dr hqv];omega) (by rw[dr hqv,dr hpv]);rw[Ac hw.2 hqv hpv]at hcm;have hgq:(L.map Ps.l)[(j:Int).toNat]?=some (L[j]).l:=gG h_j;have hsn:(dz p (L.take (j+1))).map Ps.l=(dz p (L.take j)).map Ps.l++[(if bS L[j] p=true then L[j] else match (L.take j).find? (fun r=>!bS r p) with
      | some f=>bc f L[j]
      | none=>p).l]:=by
     rw[aC h_j,tv,nh];rfl
    have hml:((dz p (L.take j)).map Ps.l).length=j:=qgg;generalize (dz p (L.take j)).map Ps.l=M at hsn hml;cases hc:bS L[j] p with
    | true =>
     rw[hc]at hcm hsn;rw[if_pos rfl]at hsn;have hix:dG (fun q=>!bS q p) (L.take (j+1))=dG (fun q=>!bS q p) (L.take j):=wO h_j (by simp[hc]);generalize dG (fun q=>!bS q p) (L.take j)=fi at hix⊢;generalize L[j]=q at hsn hgq hcm;conv=>whnf
     repeat (refine O6.mk _ rfl ?_;conv=>whnf)
     intro t ht;cases t
     ·exact bu
     conv=>whnf
     repeat' first|((first|refine O6.mk _ qft ?_|refine O8.mk _ aK ?_|(refine aJ VD ?_)|refine aa hcm ?_|rw[hJ]|refine HpP.force ?_);conv=>whnf)
     refine N_j _ ?_ ?_
     ·exact cY
     ·exact qh6
    | false =>
     rw[hc]at hcm hsn;rw[if_neg qaj]at hsn;rcases Dl (fun q=>!bS q p) (L.take j) with⟨hf,hi2⟩|⟨i,hil,hi2,hf⟩
     ·rw[hf]at hsn;dsimp only at hsn;have hix:dG (fun q=>!bS q p) (L.take (j+1))=j:=Dj h_j (by simp[hc]) hi2;rw[hi2];generalize L[j]=q at hsn hgq hcm;conv=>whnf
      repeat (refine O6.mk _ rfl ?_;conv=>whnf)
      intro t ht;cases t
      ·exact bu
      conv=>whnf
      repeat' first|((first|refine O6.mk _ qft ?_|refine O8.mk _ aK ?_|(refine aJ VD ?_)|refine aa hcm ?_|rw[hJ]|refine HpP.force ?_);conv=>whnf)|(intro t ht;cases t<;>conv=>whnf)
      ·exact xt
      ·exact qje
     ·rw[hf]at hsn;dsimp only at hsn;have hix:=Dk (p:=fun q=>!bS q p) h_j hi2;have hij:i<j:=by rw[BZ]at hil;omega
      have hiL:i<L.length:=qad;have eL:(L.take j)[i]=L[i]:=aR;rw[eL]at hsn;have hfv:=hSv _ (ey hiL);have hmul:=mF (G:=G) L[i] L[j] (by rw[dr hfv];omega) (by rw[dr hqv,dr hfv]);have hgf:(L.map Ps.l)[((i:Nat):Int).toNat]?=some (L[i]).l:=gG hiL;rw[hi2];generalize L[j]=q at hsn hgq hcm hmul;generalize L[i]=f at hsn hgf hmul;generalize bc f q=r at hsn hmul;conv=>whnf
      repeat (refine O6.mk _ rfl ?_;conv=>whnf)
      intro t ht;cases t
      ·exact bu
      conv=>whnf
      repeat' first|((first|refine O6.mk _ (by first|rfl|exact hgq|exact hgf) ?_|refine O8.mk _ aK ?_|(refine aJ VD ?_)|refine aa hcm ?_|refine ab hmul ?_|rw[hJ]|refine HpP.force ?_);conv=>whnf)|(intro t ht;cases t<;>conv=>whnf)
      ·exact qje
      ·exact lQ
   ·intro A_last I_last;have hT:L.take L.length=L:=pT (cF _);rw[hT];have hml:((dz p L).map Ps.l).length=L.length:=by rw[ef,rJ]
    conv=>whnf
    repeat (refine O6.mk _ rfl ?_;conv=>whnf)
    intro t ht;cases t;rotate_left
    ·exact bu
    conv=>whnf
    repeat' first|((first|refine O6.mk _ rfl ?_|refine O8.mk _ aK ?_|refine HpP.force ?_);conv=>whnf)
    refine N_k _ (hnn e2) ?_;refine Sub.trans (EE (nm:=4) (b:=1) (sz:=4) (N:=L.length) (es:=(dz p L).map Ps.l) (a:=iD w) (t:=false) rfl rfl hml.symm qaj) ?_;refine ah cW ?_ ?_ trivial
    ·exact qcc
    ·exact VC
  ·have e1:e=1:=by simpa using ht
   rw[if_pos e1]at hnx;refine N_k _ ?_ ?_
   ·(refine hnn ?_;rw[e1];decide)
   ·refine ah cW ?_ ?_ trivial
    ·exact qcc
    ·exact VC
  ·have e1:e = -1:=by simpa using ht
   rw[hout e1];exact fin rfl
 ·intro A_last I_last;conv=>whnf
  repeat (refine O6.mk _ rfl ?_;conv=>whnf)
  intro t ht;cases t;rotate_left
  ·exact bu
  conv=>whnf
  skip;have e:Vu w l' l=((gv w l' l l.length).2:Nat):=by
   unfold Vu;rw[if_neg fun h=>?_];obtain⟨k,hk,he⟩:=yF.1 h;exact I_last k (cJ.1 hk) (by simpa using he)
  rw[e];exact fin rfl
end Go.Tz
namespace Go.Tz
open Go Go.AL Go.Proofs Go.Ma
variable{G:Nat->Option (List D)}
def eg(q:Ps)(n l:Int):Ps:=⟨q.w,(ik q.x q.z n l).1,(ik q.x q.z n l).2,q.p⟩
def fq(w:Int)(q:Ps)(ks:List Int):Ps:=ks.foldl (fun a k=>eg a k (bj q.x q.z k)) ⟨w,0,0,0⟩
theorem rest_w(w:Int)(q:Ps):∀(ks:List Int) (a:Ps),a.w=w->(ks.foldl (fun a k=>eg a k (bj q.x q.z k)) a).w=w
 | [],_,h=>h
 | k::ks,a,h=>rest_w w q ks (eg a k (bj q.x q.z k)) h
theorem zx(w:Int)(q:Ps)(ks:List Int)(k:Int):fq w q (ks++[k])=eg (fq w q ks) k (bj q.x q.z k):=by simp[fq]
theorem pq(q:Ps)(n l:Int)(hn:0<=n):PC Pr G 102 [q.d,iD n,iD l] (eg q n l).d:=Hz q.w q.x q.z q.p n l hn
theorem L8:aq Tryz.f29=true:=ar
def Kn(w:Nat)(l:List Ps)(ks:List Int):Int:=cO .i64 (nc (af (l.map fun q=>fq w q ks) (2*w))) ks.length
theorem Vh{w:Nat}(l:List Ps)(t:Bool)(ks:List Int)(u:Bool)(hn:l.length<=1000)(hpos:0<l.length)(hkn:ks.length<=1000)(hk:∀ k,k∈ks->0<=k)(hw1:1<=w)(hw2:w<=12) :
  PC Pr G 29 [cf w l t,aP ks u] (iD (Kn w l ks)):=by
 have hrk:=JA (G:=G) (l.map fun q=>fq w q ks) false w TM (by simpa using hpos) (by intro q hq;obtain⟨q',_,rfl⟩:=bm.1 hq;exact rest_w _ _ _ _ rfl) qad qad;rw[gx]at hrk;unfold Kn;generalize (nc (af (l.map fun q=>fq w q ks) (2*w)))=rk at hrk⊢;refine ae pok Tryz.func29 L8 ?_;conv=>whnf
 skip;refine ax pok (fun i=>⟨[(1,.d (aP ks u)),(2,.ptr 0 2 0 0),(5,.sl 1 4 0 i i false),(6,.d (iD i))],[(0,some (.arr 2 [[.d (iD w),.d (az l t)]])),(1,some (ap 4 (((l.map fun q=>fq w q ks).take i).map Ps.l)))],2⟩) (l.length) (fun _=>True) (trivial) ?_ ar ?_ ?_
 ·refine Sub.trans (fB (t:=5) (S:=4) (dW _) rfl) ?_;refine ah cW ?_ ?_ trivial
  ·exact gn
  ·exact lZ
 ·intro i A_i h_i I_i N_i;have e_i:aD .i64 (i:Int) 1=((i+1:Nat):Int):=ak eH;have hgl:=gG h_i;have hsn:((l.map fun q=>fq w q ks).take (i+1)).map Ps.l=((l.map fun q=>fq w q ks).take i).map Ps.l++[(fq w l[i] ks).l]:=by
   rw[aC (by simpa using h_i),nh];simp
  have hml:(((l.map fun q=>fq w q ks).take i).map Ps.l).length=i:=fF;generalize ((l.map fun q=>fq w q ks).take i).map Ps.l=M at hsn hml⊢;generalize l[i]=q at hsn hgl;conv=>whnf
  repeat (refine O6.mk _ rfl ?_;conv=>whnf)
  intro t ht;cases t
  ·exact bu
  conv=>whnf
  repeat' first|((first|refine O6.mk _ rfl ?_|refine O8.mk _ aK ?_|refine HpP.force ?_);conv=>whnf)
  refine ax pok (fun j=>⟨[(1,.d (aP ks u)),(2,.ptr 0 2 0 0),(5,.sl 1 4 0 i i false),(6,.d (iD i)),(7,.ptr 2 4 0 0),(8,.d (iD j))],[(0,some (.arr 2 [[.d (iD w),.d (az l t)]])),(1,some (ap 4 M)),(2,some (.arr 4 [(fq w q (ks.take j)).l.map AV.d]))],3⟩) (ks.length) (fun _=>True) (trivial) ?_ ar ?_ ?_
  ·exact nr
  ·intro j A_j h_j I_j N_j;have e_j:aD .i64 (j:Int) 1=((j+1:Nat):Int):=ak eH;have hkj:=hk _ (ey h_j);have hr:=zx w q (ks.take j) ks[j];rw[<- aC h_j]at hr;have hgk:=zb h_j;generalize fq w q (ks.take j)=a at hr⊢;generalize ks[j]=v at hkj hr hgk;conv=>whnf
   repeat (refine O6.mk _ rfl ?_;conv=>whnf)
   intro t ht;cases t
   ·exact bu
   conv=>whnf
   repeat' first|((first|refine O6.mk _ (by first|rfl|exact hgl|exact hgk) ?_|refine O8.mk _ aK ?_|refine aJ ci ?_|refine ab (jb _ _ _ _ _ hkj) ?_|refine ab (pq _ _ _ hkj) ?_|refine HpP.force ?_);conv=>whnf)
   refine N_j _ ?_ ?_
   ·exact cY
   ·refine ah cW ?_ ?_ trivial
    ·exact qar
    ·repeat' first|exact trivial|refine⟨⟨di rfl,_,rfl,by first|rfl|assumption|(rw[hr];rfl),by first|exact ay rfl|exact aj _ _ _|exact au rfl⟩,?_⟩
  ·intro A_last I_last;rw[pS];generalize fq w q ks=r at hsn⊢;conv=>whnf
   repeat (refine O6.mk _ rfl ?_;conv=>whnf)
   intro t ht;cases t;rotate_left
   ·exact bu
   conv=>whnf
   repeat' first|((first|refine O6.mk _ rfl ?_|refine O8.mk _ aK ?_|(refine aJ (by first|exact cF _|exact⟨by rw[ef];exact hml,by decide,by show(2*(i+1)+192)*32<=281474976710656;omega⟩|assumption|exact⟨by kernel_rfl,rfl⟩|decide|omega) ?_)|rw[hJ]|refine HpP.force ?_);conv=>whnf)
   refine N_i _ ?_ ?_
   ·exact cY
   ·exact qi5
 ·intro A_last I_last;have hT:(l.map fun q=>fq w q ks).take l.length=l.map fun q=>fq w q ks:=pT aR;rw[hT];have hTl:(l.map fun q=>fq w q ks).length=l.length:=aR;generalize (l.map fun q=>fq w q ks)=T at hrk hTl⊢;conv=>whnf
  repeat (refine O6.mk _ rfl ?_;conv=>whnf)
  intro t ht;cases t;rotate_left
  ·exact bu
  conv=>whnf
  repeat' first|((first|refine DS hrk (fg rfl (by simp[hTl])) rfl ?_|fail);conv=>whnf)|fail
  refine fin ?_;rw[ef]
end Go.Tz
namespace Go.Tz
open Go Go.AL Go.Proofs
variable{G:Nat->Option (List D)}
theorem UR:aq Tryz.f24=true:=ar
theorem Sq(l:List Int):(((l.map fun k=>[iD k]).map (·.map AV.d)).all fun el=>el.all AV.scalar)=true:=by
 simp[AV.scalar,D.scalar]
theorem RB(es:List (List D))(tg:Bool)(hes:∀ el,el∈es->el.length=1)(hsc:((es.map (·.map AV.d)).all fun el=>el.all AV.scalar)=true)(hbig:es.length<=1000000) :
  bq Pr G 24 [.d (.sl es tg)] [] 0 fun v N k=>(v = .d (.sl [] true)/\es=[])\/(v = .sl 1 1 0 (0+es.length) (0+es.length) false/\N.get 1=some (.arr 1 (es.map (·.map .d)))/\k=2):=by
 refine bi pok Tryz.func24 UR ?_;conv=>whnf
 repeat' first|((first|refine O8.mk _ aK ?_|refine aJ (by first|exact⟨rfl,by decide,by simp only[ef,jj];omega⟩|assumption|exact⟨by kernel_rfl,rfl⟩|decide|omega|exact⟨rfl,by decide,by simp only[ef,jj];omega⟩) ?_|rw[hsc]|refine HpP.force ?_);conv=>whnf)|(intro t ht;cases t<;>conv=>whnf)
 ·refine fin (.inr ⟨by simp,?_,rfl⟩);simp[nR,AHeap.get]
 ·exact qjx
theorem zY(l:List Int)(t:Bool)(hn:l.length<=1000000):PC Pr G 24 [aP l t] (aP l false):=by
 refine mG (bg Tryz.func24 UR) (cu (RB _ t (fun el h=>by obtain⟨q,_,rfl⟩:=bm.1 h;rfl) (Sq l) TM) ?_);rintro v N k (⟨rfl,he⟩|⟨rfl,hg,_⟩)
 ·exact⟨_,.d _,by show DW _ (.sl _ false);rw[he];exact Vg [] true⟩
 ·have:=dt (lo:=0) (len:=0+(l.map fun k=>[iD k]).length) (room:=0+(l.map fun k=>[iD k]).length) (t:=false) hg qad;refine⟨_,this,?_⟩;simp only[LQ,jj,pS,Bool.false_and];exact DW.rfl _
theorem M1:aq Tryz.f38=true:=ar
theorem jB(l:List Int)(t u:Bool)(hn:l.length<=1000000):PC Pr G 38 [aP l t,aP l u] (.bool true):=by
 refine ae pok Tryz.func38 M1 ?_;conv=>whnf
 repeat' first|(intro t ht;cases t<;>conv=>whnf)
 ·refine ax pok (fun k=>⟨[(0,.d (aP l t)),(1,.d (aP l u)),(12,.d (iD (l.map fun k=>[iD k]).length)),(13,.d (iD k))],[],0⟩) (l.length) (fun _=>True) (trivial) ?_ ar ?_ ?_
  ·exact nr
  ·intro k A_k h_k I_k N_k;have e_k:aD .i64 (k:Int) 1=((k+1:Nat):Int):=ak eH;have hg:=zb h_k;conv=>whnf
   repeat (refine O6.mk _ rfl ?_;conv=>whnf)
   intro t ht;cases t
   ·exact bu
   conv=>whnf
   repeat' first|((first|refine O6.mk _ qeo ?_|refine aJ ci ?_|refine HpP.force ?_);conv=>whnf)|(intro t ht;cases t<;>conv=>whnf)
   ·refine N_k _ ?_ ?_
    ·exact cY
    ·exact I1
   ·exact Fl
  ·exact qiw
 ·exact Fl
theorem N8:aq Tryz.f99=true:=ar
theorem Ob(l:List Int)(t:Bool)(v:Int)(hn:l.length<=1000000):PC Pr G 99 [aP l t,iD v] (iD (dG (fun k=>decide (v=k)) l)):=by
 refine ae pok Tryz.func99 N8 ?_;conv=>whnf
 skip;refine ax pok (fun k=>⟨[(0,.d (aP l t)),(1,.d (iD v)),(7,.d (iD (l.map fun k=>[iD k]).length)),(8,.d (iD k))],[],0⟩) (l.length) (fun k=>∀ q,q∈l.take k->decide (v=q)=false) aR ?_ ar ?_ ?_
 ·exact nr
 ·intro k A_k h_k I_k N_k;have e_k:aD .i64 (k:Int) 1=((k+1:Nat):Int):=ak eH;have hg:=zb h_k;conv=>whnf
  repeat (refine O6.mk _ rfl ?_;conv=>whnf)
  intro t ht;cases t
  ·exact bu
  conv=>whnf
  repeat' first|((first|refine O6.mk _ qeo ?_|refine aJ ci ?_|fail);conv=>whnf)|(intro t ht;cases t<;>conv=>whnf)
  ·have hnx:∀ q,q∈l.take (k+1)->decide (v=q)=false:=by
    rw[aC h_k];intro q hq;rcases ft.1 hq with h|h
    ·exact I_k q h
    ·rw[mb.1 h];simpa using ht
   refine N_k _ ?_ ?_
   ·exact cY
   ·exact I1
  ·rw[lD h_k nb I_k];exact fin rfl
 ·intro A_last I_last;rw[pS]at I_last;conv=>whnf
  repeat (refine O6.mk _ rfl ?_;conv=>whnf)
  intro t ht;cases t;rotate_left
  ·exact bu
  conv=>whnf
  skip;rw[th I_last];exact fin rfl
theorem L4:aq Tryz.f25=true:=ar
theorem Vn(l:List Int)(t:Bool)(v:Int)(hn:l.length<=1000000):PC Pr G 25 [aP l t,iD v] (.bool (decide (v∈l))):=by
 have hi:=Ob (G:=G) l t v hn;have e:decide (v∈l)=decide (dG (fun k=>decide (v=k)) l>=0):=by
  rw[vt,tV,decide_eq_true_eq,yF];constructor
  ·intro h;exact⟨v,h,by simp⟩
  ·rintro⟨q,hq,h⟩;rw[of_decide_eq_true h];exact hq
 rw[e];generalize dG (fun k=>decide (v=k)) l=i at hi⊢;refine ae pok Tryz.func25 L4 ?_;conv=>whnf
 repeat' first|(refine aa hi ?_;conv=>whnf)|(intro t ht;cases t<;>conv=>whnf)
 all_goals (rw[ht];exact fin rfl)
end Go.Tz
namespace Go.Tz
open Go Go.AL Go.Proofs Go.Ma
variable{G:Nat->Option (List D)}
abbrev Tx(w:Nat)(n:Nat)(t:Bool):AV:=.tup [.agg [.d (iD w),.sl 0 4 0 n n t],.d (iD 0)]
theorem Mo{w:Nat}{l:List Ps}(hs:SOk w l)(t:Bool):PO Pr GG 31 [cf w l t] (Tx w l.length true) [(0,some (ap 4 ((af l (2*w)).map Ps.l)))] 1:=by
 have hc:=cT w l t (by have:=hs.len;have:=hs.hi;omega);rw[kZ hs]at hc;have h1:=lx (G:=GG) ⟨hs.lo,hs.hi⟩ l t (by have:=hs.len;have:=hs.hi;omega) hs.vl;refine⟨bg Tryz.func31 Ie,bk (K:=fun v H _=>v = .tup [.agg [.d (iD w),.sl 2 4 0 l.length l.length true],.d (iD 0)]/\H.get 2=some (ap 4 ((af l (2*w)).map Ps.l))) (bi pok Tryz.func31 Ie ?_) ?_⟩
 ·conv=>whnf
  repeat' first|((first|refine O6.mk _ rfl ?_|refine O8.mk _ aK ?_|refine aJ ny ?_|refine aa hc ?_|refine ab hc ?_|refine aY h1 ?_|refine HpP.force ?_);conv=>whnf)|(intro t ht;cases t<;>conv=>whnf)
  ·refine fin ⟨rfl,?_⟩;show some (Blk.ren _ (ap 4 _))=_;rw[aE]
  ·exact xt
 ·exact qh1
theorem Mw:aq Tryz.f110=true:=ar
theorem QO{w:Nat}(hw:1<=w/\w<=12):bq Pr GG 110 ([iD w].map .d) [] 0 fun v H _=>v = .agg [.d (iD w),.sl 2 4 0 w w false]/\H.get 2=some (ap 4 ((dC w).map Ps.l)):=by
 refine bi pok Tryz.func110 Mw ?_;conv=>whnf
 repeat' first|((first|refine O6.mk _ rfl ?_|refine O8.mk _ aK ?_|refine aJ ny ?_|refine HpP.force ?_);conv=>whnf)|(intro t ht;cases t<;>conv=>whnf)
 refine ax pok (fun i=>⟨[(0,.d (iD w)),(2,.ptr 0 2 0 0),(3,.ptr 1 2 0 0),(7,.d (iD w)),(8,.d (iD i))],[(0,some (.arr 2 [[.d (iD 0),.d (.sl [] true)]])),(1,some (.arr 2 [[.d (iD w),.sl 2 4 0 i i false]])),(2,some (ap 4 (((dC w).take i).map Ps.l)))],3⟩) (w) (fun _=>True) (trivial) ?_ ar ?_ ?_
 ·refine Sub.trans (tI (nm:=1) (S:=4) (dW _) rfl) ?_;refine ah cW ?_ ?_ trivial
  ·exact gn
  ·exact lZ
 ·intro i A_i h_i I_i N_i;have e_i:aD .i64 (i:Int) 1=((i+1:Nat):Int):=ak eH;have hil:i<(dC w).length:=by simpa[dC] using h_i
  have hsn:((dC w).take (i+1)).map Ps.l=((dC w).take i).map Ps.l++[[iD w,iD 0,iD (2^i:Nat),iD 0]]:=by
   rw[aC hil,nh];simp[dC,Ps.l]
  have hml:(((dC w).take i).map Ps.l).length=i:=qho;have hp:cU .i64 1 (i:Int)=((2^i:Nat):Int):=cq qad;generalize ((dC w).take i).map Ps.l=M at hsn hml;conv=>whnf
  repeat (refine O6.mk _ rfl ?_;conv=>whnf)
  intro t ht;cases t
  ·exact bu
  conv=>whnf
  repeat' first|((first|refine O6.mk _ rfl ?_|refine O8.mk _ aK ?_|(refine aJ (by first|exact cF _|exact mf _|exact⟨by rw[ef];exact hml,by decide,by show(2*(i+1)+192)*32<=281474976710656;omega⟩|assumption|exact⟨by kernel_rfl,rfl⟩|decide|omega|exact⟨rfl,by decide,by simp only[ef,jj];omega⟩) ?_)|rw[hJ]|rw[hp]|refine HpP.force ?_);conv=>whnf)|(intro t ht;cases t<;>conv=>whnf)
  refine N_i _ ?_ ?_
  ·exact cY
  ·first|refine aO [(2,4)] ?_ ?_ ?_ trivial|refine aI [(2,4)] rfl rfl ?_ ?_ ?_ trivial
   ·exact Ch
   ·exact ZY
   ·exact iI
 ·intro A_last I_last;have hT:(dC w).take w=dC w:=pT A7;rw[hT];conv=>whnf
  repeat (refine O6.mk _ rfl ?_;conv=>whnf)
  intro t ht;cases t;rotate_left
  ·exact bu
  conv=>whnf
  repeat' first|((first|refine O6.mk _ rfl ?_|refine O8.mk _ aK ?_|refine aJ ny ?_|refine HpP.force ?_);conv=>whnf)|(intro t ht;cases t<;>conv=>whnf)
  exact fin ⟨rfl,rfl⟩
theorem Fi{w:Nat}(hw:1<=w/\w<=12):PO Pr GG 110 [iD w] (.agg [.d (iD w),.sl 0 4 0 w w false]) [(0,some (ap 4 ((dC w).map Ps.l)))] 1:=by
 refine⟨bg Tryz.func110 Mw,bk (QO hw) ?_⟩;rintro v H n ⟨rfl,h2⟩;refine⟨_,_,1,?_,rfl,rfl,rfl⟩;first|refine aO [(0,2)] ?_ ?_ ?_ trivial|refine aI [(0,2)] rfl rfl ?_ ?_ ?_ trivial
 ·exact gn
 ·exact ZZ
 ·exact iI
theorem sC{w:Nat}(hw:1<=w/\w<=12):PO Pr GG 35 [iD w] (Tx w w false) [(0,some (ap 4 ((dC w).map Ps.l)))] 1:=by
 have h1:=Fi hw;refine⟨bg Tryz.func35 MQ,bk (K:=fun v H _=>v = .tup [.agg [.d (iD w),.sl 1 4 0 w w false],.d (iD 0)]/\H.get 1=some (ap 4 ((dC w).map Ps.l))) (bi pok Tryz.func35 MQ ?_) ?_⟩
 ·conv=>whnf
  repeat' first|((first|refine O6.mk _ rfl ?_|refine O8.mk _ aK ?_|refine aJ ny ?_|refine aY h1 ?_|refine HpP.force ?_);conv=>whnf)|(intro t ht;cases t<;>conv=>whnf)
  ·refine fin ⟨rfl,?_⟩;show some (Blk.ren _ (ap 4 _))=_;rw[aE]
  all_goals (exfalso;simp at ht;omega)
 ·rintro v H n ⟨rfl,h2⟩;refine⟨_,_,1,?_,rfl,rfl,rfl⟩;first|refine aO [(0,1)] ?_ ?_ ?_ trivial|refine aI [(0,1)] rfl rfl ?_ ?_ ?_ trivial
  ·exact gn
  ·exact ZZ
  ·exact iI
end Go.Tz
namespace Go.Tz
open Go Go.AL Go.Proofs Go.Ma
variable{G:Nat->Option (List D)}
theorem CL(l:List Ps)(t:Bool)(hpos:0<l.length)(hn:l.length<=1000000):PO Pr G 87 [az l t] (.sl 0 4 0 l.length l.length false) [(0,some (ap 4 (l.map Ps.l)))] 1:=by
 refine⟨bg Tryz.func87 MW,bk (Ii _ t (ko l) (rY l) TM) ?_⟩;rintro v H n (⟨rfl,he⟩|⟨rfl,hg,hk⟩)
 ·exfalso;have:l.length=0:=by simpa using congrArg List.length he
  omega
 ·subst hk;rw[ef,jj];refine⟨_,_,1,?_,rfl,rfl,rfl⟩;first|refine aO [(0,1)] ?_ ?_ ?_ trivial|refine aI [(0,1)] rfl rfl ?_ ?_ ?_ trivial
  ·exact gn
  ·exact qaw
  ·exact iI
theorem bz(w:Int)(l:List Ps)(t:Bool)(hpos:0<l.length)(hn:l.length<=1000000):PO Pr G 18 [cf w l t] (.agg [.d (iD w),.sl 0 4 0 l.length l.length false]) [(0,some (ap 4 (l.map Ps.l)))] 1:=by
 have h1:=CL (G:=G) l t hpos hn;refine⟨bg Tryz.func18 MD,bk (K:=fun v H _=>v = .agg [.d (iD w),.sl 2 4 0 l.length l.length false]/\H.get 2=some (ap 4 (l.map Ps.l))) (bi pok Tryz.func18 MD ?_) ?_⟩
 ·conv=>whnf
  repeat' first|((first|refine O6.mk _ rfl ?_|refine O8.mk _ aK ?_|refine aZ h1 ?_|refine P5.mk _ rfl ?_|refine HpP.force ?_);conv=>whnf)
  refine fin ⟨rfl,?_⟩;show some (Blk.ren _ (ap 4 _))=_;rw[aE]
 ·exact qh1
end Go.Tz
namespace Go.Tz
open Go Go.AL Go.Ma
theorem qd{w:Nat}(hw:w<=12){q:Ps}(h:Vl w q):tc (nf q) ↔ q.p.tmod 2=0:=by
 obtain⟨X,Z,P,rfl,h1,h2,h3⟩:=h;have hp:(2:Nat)^w<=2^12:=js qaj hw;have e:(mk w X Z P).p.tmod 2=((P%2:Nat):Int):=by show((P:Int)).tmod 2=_;rfl
 rw[e];unfold tc;rw[df];dsimp only;rw[xS qad qad,Nat.and_comm Z X];generalize ig 12 (X &&& Z)=k;have:(decide (k%2=1)).toNat=k%2:=by
  by_cases q:k%2=1
  ·rw[decide_eq_true q,q];rfl
  ·rw[decide_eq_false q];simp;omega
 rw[this];constructor
 ·rintro⟨_,h⟩;omega
 ·intro h;exact⟨Cm _ qaj,by omega⟩
theorem tB(l:List Ps):dH (fJ l 0) l.length=(l.map ji).reverse:=by
 have key:∀ n,n<=l.length->dH (fJ l 0) n=((l.take n).map ji).reverse:=by
  intro n
  induction n with
  | zero=>intro _;rfl
  | succ n ih =>
   intro hn;rw[aC qad,nh,List.reverse_append,dH,ih qad];have:fJ l 0 n=ji l[n]:=by
    unfold fJ;simp only[aG,jI,ew (show n<l.length by omega),Hw]
   rw[this];rfl
 rw[key _ (cF _),pS]
theorem PD{l:List Nat}(h:∀ a,a∈l->a<2^24):rk l.reverse=rk l :=
 pN (k:=24) (fun a ha=>h a (VT.1 ha)) h (kq (fun a ha=>bA _ _ (VT.1 ha)) (fun a ha=>bA _ _ (VT.2 ha)))
theorem Ek{w:Nat}(hw:w<=12){l:List Ps}(hv:∀ q,q∈l->Vl w q):nc (af l (2*w))=l.length ↔ ub ((l.map nf).map (·.2)):=by
 rw[vz hw hv,tB,PD]
 ·unfold ub;rw[pU,ef];rfl
 ·intro a ha;obtain⟨q,hq,rfl⟩:=bm.1 ha;exact xT hw (hv q hq)
theorem CD{l:List Ps}{i:Nat}(h:i<l.length):pC l i=false ↔ l[i].p.tmod 2=0 /\ ∀ r,r∈l.take i->bc l[i] r=bc r l[i]:=by
 unfold pC;rw[ew h];dsimp only;rw[wdt,BX];simp
theorem Df{w:Nat}(hw:w<=12){l:List Ps}(hv:∀ q,q∈l->Vl w q):yj l=false ↔ Good (l.map nf):=by
 have hb:yj l=false ↔ ∀ i (h:i<l.length),l[i].p.tmod 2=0 /\ ∀ r,r∈l.take i->bc l[i] r=bc r l[i]:=by
  unfold yj;rw[BX];constructor
  ·intro h i hi;exact(CD hi).1 (by simpa using h i (cJ.2 hi))
  ·intro h i hi;have hi:=cJ.1 hi;rw[(CD hi).2 (h i hi)];simp
 rw[hb];constructor
 ·intro h;refine⟨fun a ha=>?_,fun a b ha hb=>?_⟩
  ·obtain⟨q,hq,rfl⟩:=bm.1 ha;obtain⟨i,hi,rfl⟩:=Uy hq;exact(qd hw (hv _ hq)).2 (h i hi).1
  ·obtain⟨q,hq,rfl⟩:=bm.1 ha;obtain⟨r,hr,rfl⟩:=bm.1 hb;obtain⟨i,hi,rfl⟩:=Uy hq;obtain⟨j,hj,rfl⟩:=Uy hr;rcases Ra i j with e|e|e
   ·exact bT ((vh hw (hv _ hr) (hv _ hq)).1 ((h j hj).2 _ (QW.2 ⟨i,by omega,rfl⟩)))
   ·subst e;exact sZ _
   ·exact(vh hw (hv _ hq) (hv _ hr)).1 ((h i hi).2 _ (QW.2 ⟨j,by omega,rfl⟩))
 ·intro h i hi;have hm:=ey hi;refine⟨(qd hw (hv _ hm)).1 (h.ok _ (bm.2 ⟨_,hm,rfl⟩)),fun r hr=>?_⟩;have hr2:=Ci hr;exact(vh hw (hv _ hm) (hv _ hr2)).2 (h.com _ _ (bm.2 ⟨_,hm,rfl⟩) (bm.2 ⟨_,hr2,rfl⟩))
theorem cN{w:Nat}{l:List Ps}(h:SOk w l):Sta w (l.map nf) :=
 ⟨(Df h.hi h.vl).1 h.good,(Ek h.hi h.vl).1 h.rank,by rw[ef,h.len],fun a ha=>by
  obtain⟨q,hq,rfl⟩:=bm.1 ha;exact tR h.hi (h.vl q hq)⟩
theorem mT{w:Nat}(hw:1<=w/\w<=12){l:List Ps}(hv:∀ q,q∈l->Vl w q)(h:Sta w (l.map nf)):SOk w l :=
 ⟨hw.1,hw.2,by have:=h.len;rwa [ef]at this,hv,(Df hw.2 hv).2 h.good,(Ek hw.2 hv).2 h.ind⟩
end Go.Tz
namespace Go.Tz
open Go Go.AL Go.Ma
theorem pr{v:Nat->Nat}{m m':Nat->Bool}{n:Nat}(h:∀ j,j<n->m j=m' j):xr v m n=xr v m' n:=oI (fun _ _=>rfl) h
theorem Ug(rf:Nat->Ps)(a f j:Nat):ji (bn rf a f j)=yx (fun j=>ji (rf j)) a f j:=by
 unfold bn yx;dsimp only;split
 ·rfl
 ·split<;>rfl
theorem Em{w:Nat}(hw:w<=12){l:List Ps}(hv:∀ q,q∈l->Vl w q):∀{c:Nat},c<=2*w->∀ j,j<l.length->fJ l c j=xr (fJ l 0) ((aG l c).2.1 j) l.length
 | 0,_,j,hj=>(Cc hj).symm
 | c+1,hc,j,hj=>by
  have ih:=Em hw hv (c:=c) qad;obtain⟨q1,q2⟩:=fp hw hv c;rcases xx hw hv (c:=c) qad with⟨_,h2,_⟩|⟨f,f1,f2,_,f4,_,f5⟩
  ·unfold fJ at ih⊢;rw[h2];exact ih j hj
  ·rw[f5 j hj,f4];have ha:(aG l c).2.2<l.length:=qad;have hS:∀ i,i<l.length->yx (fJ l c) (aG l c).2.2 f i=xr (fJ l 0) (bn (aG l c).2.1 (aG l c).2.2 f i) l.length:=by
    intro i hi;unfold yx bn;split
    ·exact ih f f2
    ·split
     ·exact ih _ ha
     ·exact ih i hi
   have hb:da (bn (aG l c).1 (aG l c).2.2 f j) c=cb (yx (fJ l c) (aG l c).2.2 f j) c:=by
    have:Vl w (bn (aG l c).1 (aG l c).2.2 f j):=by
     unfold bn;split
     ·exact q1 f f2
     ·split
      ·exact q1 _ ha
      ·exact q1 j hj
    rw[jz hw qad this,Ug];rfl
   unfold QQ gZ;by_cases e:j≠(aG l c).2.2/\cb (yx (fJ l c) (aG l c).2.2 f j) c=true
   ·rw[if_pos e,if_pos ⟨hj,e.1,by rw[hb];exact e.2⟩,hS j hj,hS _ ha,<- yc];exact pr fun q hq=>by rw[if_pos hq]
   ·rw[if_neg e,if_neg (fun h=>e ⟨h.2.1,by rw[<- hb];exact h.2.2⟩)];exact hS j hj
def gz(L M:List E):Prop:=∀ g,Gen L g ↔ Gen M g
theorem Eu{L M:List E}(hL:Good L)(h1:∀ a,a∈M->Gen L a)(h2:∀ a,a∈L->Gen M a):gz L M:=fun _=>⟨AA (vp hL h1) h2,AA hL h1⟩
theorem PT{w:Nat}(hw:w<=12){L M:List E}(hL:Sta w L)(hM:M.length=w)(h1:∀ a,a∈M->Gen L a)(h2:∀ a,a∈L->Gen M a):Sta w M:=by
 have hlt:∀ v,sE w v->v<2^24:=fun v hv=>pQ _ (Fu hw) _ hv;have hin:∀ a,a∈M->sE w a.2:=fun a ha=>by
  have:=eb (h1 a ha);refine fY _ _ (fun b hb=>?_) _ this;obtain⟨q,hq,rfl⟩:=bm.1 hb;exact hL.inv q hq
 refine⟨vp hL.good h1,?_,hM,hin⟩;have:rk (M.map (·.2))=rk (L.map (·.2)):=by
  refine pN (k:=24) ?_ ?_ (kq ?_ ?_)
  ·intro a ha;obtain⟨q,hq,rfl⟩:=bm.1 ha;exact hlt _ (hin q hq)
  ·intro a ha;obtain⟨q,hq,rfl⟩:=bm.1 ha;exact hlt _ (hL.inv q hq)
  ·intro a ha;obtain⟨q,hq,rfl⟩:=bm.1 ha;exact eb (h1 q hq)
  ·intro a ha;obtain⟨q,hq,rfl⟩:=bm.1 ha;exact eb (h2 q hq)
 unfold ub;rw[this,hL.ind];simp[hL.len,hM]
theorem uB{w:Nat}(hw:w<=12){l:List Ps}(hv:∀ q,q∈l->Vl w q)(hG:Good (l.map nf)):∀{c:Nat},c<=2*w->(∀ j,j<l.length->Gen (l.map nf) (nf ((aG l c).1 j))) /\ ∀ a,a∈l.map nf->Gen ((af l c).map nf) a
 | 0,_=>by
  have e:∀ j (h:j<l.length),(aG l 0).1 j=l[j]:=fun j h=>by
   show l.getD j Ps.z0=l[j];rw[jI,ew h];rfl
  refine⟨fun j hj=>?_,fun a ha=>?_⟩
  ·rw[e j hj];exact bC hG (bm.2 ⟨_,ey hj,rfl⟩)
  ·obtain⟨q,hq,rfl⟩:=bm.1 ha;obtain⟨j,hj,rfl⟩:=Uy hq;refine IO (fun b hb=>?_) (bm.2 ⟨(aG l 0).1 j,bm.2 ⟨j,cJ.2 hj,rfl⟩,by rw[e j hj]⟩);obtain⟨r,_,rfl⟩:=bm.1 hb;exact ux r
 | c+1,hc=>by
  obtain⟨h1,h2⟩:=uB hw hv hG (c:=c) qad;obtain⟨q1,q2⟩:=fp hw hv c;have hmem:∀(f:Nat->Ps) j,j<l.length->nf (f j)∈((List.range l.length).map f).map nf:=fun f j hj=>bm.2 ⟨f j,bm.2 ⟨j,cJ.2 hj,rfl⟩,rfl⟩;simp only[af,aG,wj];cases hf:kS (aG l c).1 l.length c (aG l c).2.2 with
  | none=>exact⟨h1,h2⟩
  | some f =>
   obtain⟨f1,f2,f3,f4⟩:=fv hf;have ha:(aG l c).2.2<l.length:=qad;dsimp only;generalize (aG l c).2.2=a at f1 ha⊢;have sV:∀ j,j<l.length->Vl w (bn (aG l c).1 a f j):=fun j hj=>by
    unfold bn;split
    ·exact q1 f f2
    ·split
     ·exact q1 _ ha
     ·exact q1 j hj
   have sG:∀ j,j<l.length->Gen (l.map nf) (nf (bn (aG l c).1 a f j)):=fun j hj=>by
    unfold bn;split
    ·exact h1 f f2
    ·split
     ·exact h1 _ ha
     ·exact h1 j hj
   have sB:∀ j,j<l.length->∃ i,i<l.length/\(aG l c).1 j=bn (aG l c).1 a f i:=fun j hj=>by
    by_cases e1:j=f
    ·exact⟨a,ha,by unfold bn;rw[if_pos rfl,e1]⟩
    ·by_cases e2:j=a
     ·exact⟨f,f2,by unfold bn;rw[if_neg qad,if_pos rfl,e2]⟩
     ·exact⟨j,hj,by unfold bn;rw[if_neg e2,if_neg e1]⟩
   generalize bn (aG l c).1 a f=s at sV sG sB;have cG:∀ j,j<l.length->Gen (l.map nf) (nf (bO s a c l.length j)):=fun j hj=>by
    unfold bO;split
    ·rw[dT hw (sV j hj) (sV a ha)];exact cg hG (sG j hj) (sG a ha)
    ·exact sG j hj
   have hM:Good (((List.range l.length).map (bO s a c l.length)).map nf):=vp hG fun b hb=>by
    obtain⟨r,hr,rfl⟩:=bm.1 hb;obtain⟨j,hj,rfl⟩:=bm.1 hr;exact cG j (cJ.1 hj)
   have gA:Gen (((List.range l.length).map (bO s a c l.length)).map nf) (nf (s a)):=by
    have:=bC hM (hmem (bO s a c l.length) a ha)
    rwa [vZ]at this
   have gS:∀ j,j<l.length->Gen (((List.range l.length).map (bO s a c l.length)).map nf) (nf (s j)):=fun j hj=>by
    have h:=bC hM (hmem (bO s a c l.length) j hj);unfold bO at h;skip;split at h
    ·rw[dT hw (sV j hj) (sV a ha)]at h;have h3:=cg hM h gA;rw[bx,dn (dv hG (sG a ha)),iU _ (ux _)]at h3;exact h3
    ·exact h
   refine⟨cG,fun b hb=>?_⟩;refine AA hM (fun x hx=>?_) (h2 b hb);obtain⟨r,hr,rfl⟩:=bm.1 hx;obtain⟨j,hj,rfl⟩:=bm.1 hr;obtain⟨i,hi,e⟩:=sB j (cJ.1 hj);rw[e];exact gS i hi
theorem bK{w:Nat}{l:List Ps}(h:SOk w l):SOk w (af l (2*w))/\gz (l.map nf) ((af l (2*w)).map nf):=by
 have hs:=cN h;obtain⟨h1,h2⟩:=uB h.hi h.vl hs.good (cF (2*w));have h1':∀ a,a∈(af l (2*w)).map nf->Gen (l.map nf) a:=fun a ha=>by
  obtain⟨r,hr,rfl⟩:=bm.1 ha;obtain⟨j,hj,rfl⟩:=bm.1 hr;exact h1 j (cJ.1 hj)
 refine⟨mT ⟨h.lo,h.hi⟩ (fun q hq=>?_) (PT h.hi hs (by rw[ef,cZ,h.len]) h1' h2),Eu hs.good h1' h2⟩;obtain⟨j,hj,rfl⟩:=bm.1 hq;exact(fp h.hi h.vl _).1 j (cJ.1 hj)
end Go.Tz
