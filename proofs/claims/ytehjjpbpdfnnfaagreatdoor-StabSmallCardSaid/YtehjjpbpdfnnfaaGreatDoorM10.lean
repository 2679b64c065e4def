import Derived.Test.YtehjjpbpdfnnfaaGreatDoorM00
import Derived.Test.YtehjjpbpdfnnfaaGreatDoorM09
namespace Go.Tz
open Go Go.AL Go.Proofs Go.Ma
def jC(k:Nat):Code->Option (Array Oper)
 | .region id ops _=>if id=k then some ops else none
 | .seq c d=>(jC k c).orElse fun _=>jC k d
 | .cond _ c d=>(jC k c).orElse fun _=>jC k d
 | .block _ c=>jC k c
 | .loop c=>jC k c
 | .scope c=>jC k c
 | _=>none
def kD:Nat->Nat
 | 9=>139
 | 10=>129
 | 11=>140
 | 12=>141
 | 13=>22
 | 14=>23
 | j=>130+j
def VR(f:FuncId)(n o:Nat)(ug:Bool)(ch x:Int):Nat->AV
 | 0=>.ptr 2 3 0 0
 | 1=>.ptr 2 3 0 0
 | 2=>.ptr 2 3 0 (0+2)
 | 3=>.fn f [.ptr 2 3 0 0] []
 | 4=>.ptr 5 4 0 (0+1)
 | 5=>.d (aP [(n:Int)] ug)
 | 6=>.d (.rop [iD n] 0)
 | 7=>.d (iD n)
 | 8=>.d (iD o)
 | 9=>rV ch x
 | 10=>rV ch x
 | 11=>.d (iD ch)
 | 12=>.d (iD x)
 | 13=>.d (iD ch)
 | _=>.d (iD x)
theorem Iv{i j:Nat}(hi:i<15)(hj:j<15)(h:kD i=kD j):i=j:=by
 have key:∀ i,i<15->∀ j,j<15->kD i=kD j->i=j:=qaj;exact key i hi j hj h
theorem RH{i:Nat}(hi:i<15):(22<=kD i/\kD i<=23)\/129<=kD i:=by
 have key:∀ i,i<15->(22<=kD i/\kD i<=23)\/129<=kD i:=qaj;exact key i hi
structure S35 (ks:List (Nat×AV)) (hs:List (Nat×Blk)) (w nm:Nat) (f:FuncId) (A R:List Ps) (n o:Nat) (ug:Bool) (ch x:Int) (L:Nat->Bool) (s:St):Prop where
 kp:∀ t v,(t,v)∈ks->lk s.env t=v
 ho:∀ m bl,(m,bl)∈hs->s.heap.get m=some bl
 h0:L 9=false->s.heap.get 2=some (mg w 3 f)/\s.heap.get 3=some (ap 4 (A.map Ps.l))/\s.nx=6
 h1:L 9=true->s.heap.get 2=some (mg w nm f)/\s.heap.get nm=some (ap 4 (R.map Ps.l))/\s.nx=13
 v:∀ j,j<15->L j=true->lk s.env (kD j)=VR f n o ug ch x j
variable{ks:List (Nat×AV)}{hs:List (Nat×Blk)}{w nm:Nat}{f:FuncId}{A R:List Ps}{n o:Nat}{ug:Bool}{ch x:Int}
theorem eI(hks:∀ p,p∈ks->p.1<22\/(80<=p.1/\p.1<90)){L:Nat->Bool}{s:St}{i:Nat}{v:AV}(h:S35 ks hs w nm f A R n o ug ch x L s)(hi:i<15)(h9:i≠9)(hv:VR f n o ug ch x i=v):S35 ks hs w nm f A R n o ug ch x (fun j=>if j=i then true else L j) (s.put (some (kD i)) v):=by
 subst hv;refine⟨fun t v hm=>?_,h.ho,fun hl=>h.h0 ?_,fun hl=>h.h1 ?_,fun j hj hl=>?_⟩
 ·have:=hks _ hm;have:=RH hi;rw[dq qfc];exact h.kp t v hm
 ·simpa[Ne.symm h9] using hl
 ·simpa[Ne.symm h9] using hl
 ·by_cases e:j=i
  ·subst e;exact ba _ _ _
  ·rw[dq (fun q=>e (Iv hj hi q))];simp only[if_neg e]at hl;exact h.v j hj hl
noncomputable def Vt:Array Oper:=(Tryz.f58.body.bind (jC 35)).getD #[]
theorem reg35(hks:∀ p,p∈ks->p.1<22\/(80<=p.1/\p.1<90))(k16:(16,AV.ptr 2 3 0 0)∈ks)(k20:(20,AV.ptr 5 4 0 0)∈ks)(k21:(21,AV.d (iD o))∈ks){c0 c2 c3:AV}(h5:(5,Blk.arr 4 [[c0,.d (aP [(n:Int)] ug),c2,c3]])∈hs)
  (hhs:∀ p,p∈hs->p.1≠2/\p.1≠3/\p.1<6) (hW:WC f (wA n o) w f A (rV ch x) nm R) (hnm:nm=3\/nm=12) {st:St} (S0:S35 ks hs w nm f A R n o ug ch x (fun _=>false) st) {k:Exit->St->Prop}
  (hk:∀ L s',S35 ks hs w nm f A R n o ug ch x L s'->(∀ i,i<15->L i=true)->∃ st'',Sub GG 0 [] s' st''/\k .normal st''):Q0 Pr GG Tryz.f58.ntmps 0 [] 35 Vt st k:=by
 refine⟨fun r=>vc pok.mixed (qX ar) (S35 ks hs w nm f A R n o ug ch x) S0 ?_ ?_⟩
 ·intro L s i op hS hL ho hall;have hi:i<15:=(BU.1 ho).1;have v:=hS.v;have T162:=pok.tab.get (t:=162) rfl;have T67:=pok.tab.get (t:=67) rfl;have T160:=pok.tab.get (t:=160) rfl;have T42:=pok.tab.get (t:=42) rfl;have T3:=pok.tab.get (t:=3) rfl;have cases15:i=0\/i=1\/i=2\/i=3\/i=4\/i=5\/i=6\/i=7\/i=8\/i=9\/i=10\/i=11\/i=12\/i=13\/i=14:=qad;rcases cases15 with rfl|rfl|rfl|rfl|rfl|rfl|rfl|rfl|rfl|rfl|rfl|rfl|rfl|rfl|rfl
  all_goals
   have ho:=ku (show some _=some op from ho);subst ho;refine⟨rfl,?_⟩
  ·exact aL (fun c h=>by cases h) (jM rfl (hS.kp _ _ k16)) rfl (eI hks hS (i:=0) qaj qaj rfl)
  ·have q:=v 0 qaj (hall ⟨0,.data⟩ (xW (i:=0) rfl) rfl);exact aL (fun c h=>by cases h) (kK rfl q) rfl (eI hks hS (i:=1) qaj qaj rfl)
  ·have q:=v 1 qaj (hall ⟨1,.data⟩ (xW (i:=0) rfl) rfl);exact aL (fun c h=>by cases h) (km rfl (T162.fld rfl rfl) q) rfl (eI hks hS (i:=2) qaj qaj rfl)
  ·have q:=v 2 qaj (hall ⟨2,.data⟩ (xW (i:=0) rfl) rfl);cases h9:L 9 with
   | false=>exact aL (fun c h=>by cases h) (iz rfl T160.tok (fun _=>rfl) q (hS.h0 h9).1 rfl rfl rfl) rfl (eI hks hS (i:=3) qaj qaj rfl)
   | true=>exact aL (fun c h=>by cases h) (iz rfl T160.tok (fun _=>rfl) q (hS.h1 h9).1 rfl rfl rfl) rfl (eI hks hS (i:=3) qaj qaj rfl)
  ·exact aL (fun c h=>by cases h) (km rfl (T67.fld rfl rfl) (hS.kp _ _ k20)) rfl (eI hks hS (i:=4) qaj qaj rfl)
  ·have q:=v 4 qaj (hall ⟨4,.data⟩ (xW (i:=0) rfl) rfl);exact aL (fun c h=>by cases h) (iz rfl T42.tok (fun _=>rfl) q (hS.ho _ _ h5) rfl rfl rfl) rfl (eI hks hS (i:=5) qaj qaj rfl)
  ·have q:=v 5 qaj (hall ⟨5,.data⟩ (xW (i:=0) rfl) rfl);exact aL (fun c h=>by cases h) (kJ (ki:=.i64) (i:=0) rfl ⟨T42.2,T3.1⟩ q rfl qaj rfl rfl) rfl (eI hks hS (i:=6) qaj qaj rfl)
  ·have q:=v 6 qaj (hall ⟨6,.data⟩ (xW (i:=0) rfl) rfl);exact aL (fun c h=>by cases h) (rN rfl T3.tok (fun _=>rfl) q rfl rfl) rfl (eI hks hS (i:=7) qaj qaj rfl)
  ·exact aL (fun c h=>by cases h) (jM rfl (hS.kp _ _ k21)) rfl (eI hks hS (i:=8) qaj qaj rfl)
  ·have q3:=v 3 qaj (hall ⟨3,.data⟩ (xW (i:=0) rfl) rfl);have q7:=v 7 qaj (hall ⟨7,.data⟩ (xW (i:=1) rfl) rfl);have q8:=v 8 qaj (hall ⟨8,.data⟩ (xW (i:=2) rfl) rfl);obtain⟨e2,e3,enx⟩:=hS.h0 hL;have hc:=jO hW (nx:=s.nx) (H:=s.heap) qad e2 e3 (k:=fun v H' nx'=>S35 ks hs w nm f A R n o ug ch x (fun j=>if j=9 then true else L j) (({ env:=s.env,heap:=H',nx:=nx' }:St).put (some 139) v)) ?_
   ·obtain⟨hf,hc⟩:=hc;refine lK (f:=f) (fi:=[.ptr 2 3 0 0]) (ca:=[]) (l:=wA n o) rfl ?_ hf ?_ rfl hc
    ·show Aw (lk s.env 133)=_;rw[show lk s.env 133=_ from q3];rfl
    ·show [AV.ptr 2 3 0 0]++[lk s.env 137,lk s.env 138]++[]=_;rw[show lk s.env 137=_ from q7,show lk s.env 138=_ from q8];rfl
   ·refine⟨fun t v hm=>?_,fun m bl hm=>?_,fun hl=>(by simp at hl),fun _=>⟨rfl,?_,rfl⟩,fun j hj hl=>?_⟩
    ·have:=hks _ hm;exact(aV _ _ qfc).trans (hS.kp t v hm)
    ·obtain⟨a1,a2,a3⟩:=hhs _ hm;have:=hS.ho m bl hm;dsimp only at a1 a2 a3;show AHeap.get ((2,_)::(nm,_)::AHeap.del s.heap 3) m=_;rw[ai _ _ a1,ai _ _ (by rcases hnm with e|e<;>omega),dD,if_neg a2];exact this
    ·show AHeap.get ((2,_)::(nm,_)::AHeap.del s.heap 3) nm=_;rw[ai _ _ (by rcases hnm with e|e<;>omega),ao]
    ·by_cases e:j=9
     ·subst e;exact ba _ _ _
     ·simp only[if_neg e]at hl;exact(aV _ _ (fun q=>e (Iv hj qaj (show kD j=kD 9 from q)))).trans (hS.v j hj hl)
  ·have q:=v 9 qaj (hall ⟨9,.data⟩ (xW (i:=0) rfl) rfl);exact aL (fun c h=>by cases h) (jM rfl q) rfl (eI hks hS (i:=10) qaj qaj rfl)
  ·have q:=v 10 qaj (hall ⟨10,.data⟩ (xW (i:=0) rfl) rfl);exact aL (fun c h=>by cases h) (kl rfl q rfl) rfl (eI hks hS (i:=11) qaj qaj rfl)
  ·have q:=v 10 qaj (hall ⟨10,.data⟩ (xW (i:=0) rfl) rfl);exact aL (fun c h=>by cases h) (kl rfl q rfl) rfl (eI hks hS (i:=12) qaj qaj rfl)
  ·have q:=v 11 qaj (hall ⟨11,.data⟩ (xW (i:=0) rfl) rfl);exact aL (fun c h=>by cases h) (je rfl q) rfl (eI hks hS (i:=13) qaj qaj rfl)
  ·have q:=v 12 qaj (hall ⟨12,.data⟩ (xW (i:=0) rfl) rfl);exact aL (fun c h=>by cases h) (je rfl q) rfl (eI hks hS (i:=14) qaj qaj rfl)
 ·intro L s hS hall;exact⟨rfl,hk L s hS fun i hi=>hall i hi⟩
end Go.Tz
namespace Go.Tz
open Go Go.AL Go.Proofs Go.Ma
theorem qG{α:Type}{f:α->Prop}:∀{l:List α},(∀ a,a∈l->f a)->AllP f l
 | [],_=>trivial
 | _::_,h=>⟨h _ aR,qG fun a ha=>h a qha⟩
variable{w nm:Nat}{f:FuncId}{A R:List Ps}{n o:Nat}{ug:Bool}{ch x:Int}
theorem tx{ops:Array Oper}(hops:ops=Vt)(ks:List (Nat×AV))(hs:List (Nat×Blk))(hks:AllP (fun p=>(p.1<22\/(80<=p.1/\p.1<90))/\p.2.bel 13=true) ks)(k16:(16,AV.ptr 2 3 0 0)∈ks)(k20:(20,AV.ptr 5 4 0 0)∈ks)(k21:(21,AV.d (iD o))∈ks){c0 c2 c3:AV}(h5:(5,Blk.arr 4 [[c0,.d (aP [(n:Int)] ug),c2,c3]])∈hs)
  (hhs:AllP (fun p=>(p.1≠2/\p.1≠3/\p.1<6)/\p.2.Below 13) hs) (hW:WC f (wA n o) w f A (rV ch x) nm R) (hnm:nm=3\/nm=12) {e:List (Nat×AV)} {H:AHeap} {nx:Nat} (he:AllP (fun p=>lk e p.1=p.2) ks) (hH:AllP (fun p=>H.get p.1=some p.2) hs)
  (h2:H.get 2=some (mg w 3 f)) (h3:H.get 3=some (ap 4 (A.map Ps.l))) (hnx:nx=6) {k:Exit->St->Prop}
  (hk:k .normal ⟨(22,.d (iD ch))::(23,.d (iD x))::ks,(2,some (mg w nm f))::(nm,some (ap 4 (R.map Ps.l)))::hs.map (fun p=>(p.1,some p.2)),13⟩):Q0 Pr GG Tryz.f58.ntmps 0 [] 35 ops ⟨e,H,nx⟩ k:=by
 subst hops;refine reg35 (ks:=ks) (hs:=hs) (fun p hp=>(AllP.mem hks p hp).1) k16 k20 k21 h5 (fun p hp=>(AllP.mem hhs p hp).1) hW hnm ⟨fun t v hm=>AllP.mem he _ hm,fun m bl hm=>AllP.mem hH _ hm,fun _=>⟨h2,h3,hnx⟩,fun h=>(by cases h),fun j _ h=>(by cases h)⟩ ?_;intro L s' hS hL;obtain⟨g2,g3,_⟩:=hS.h1 (hL 9 qaj);refine⟨_,ah (dW _) ?_ ?_ trivial,hk⟩
 ·refine⟨⟨hS.v 13 qaj (hL 13 qaj),rfl⟩,⟨hS.v 14 qaj (hL 14 qaj),rfl⟩,qG fun p hp=>⟨hS.kp _ _ hp,(AllP.mem hks p hp).2⟩⟩
 ·refine⟨⟨by show 2<13;omega,_,rfl,g2,?_⟩,⟨by show nm<13;omega,_,rfl,g3,aj _ _ _⟩,qG fun p hp=>?_⟩
  ·rcases hnm with rfl|rfl<;>exact ay rfl
  ·obtain⟨q,hq,rfl⟩:=bm.1 hp;have:=(AllP.mem hhs q hq)
   exact⟨by show q.1<13;omega,_,rfl,hS.ho _ _ hq,this.2⟩
end Go.Tz
namespace Go.Tz
open Go Go.AL Go.Proofs Go.Ma
theorem CI:aq Tryz.f58=true:=ar
abbrev QP(e:Int):D:=.tup [cf 0 [] true,.sl [] true,iD 0,iD e]
def alK(w b:Nat)(l:List Ps)(cw:Int)(gs:List Gt)(wa:List Int)(v:AV)(H:AHeap):Prop :=
 (ln w l cw b gs wa=0/\v = .tup [.agg [.d (iD w),.sl 3 4 0 w w true],.sl 4 1 0 b b true,.d (iD (cr w wa b l gs).c),.d (iD 0)]/\H.get 3=some (ap 4 ((cr w wa b l gs).r.map Ps.l))/\H.get 4=some (ap 1 (fN (cr w wa b l gs).bs))) ∨
 (ln w l cw b gs wa≠0/\v = .d (QP (ln w l cw b gs wa)))
theorem yL{w b:Nat}{l:List Ps}{cw:Int}{gs:List Gt}{wa:List Int}{H:AHeap}{e:Int}(he:e≠0)(h:ln w l cw b gs wa=e):alK w b l cw gs wa (.d (QP e)) H:=by
 unfold alK;rw[h];exact .inr ⟨he,rfl⟩
theorem meaW{w b n k:Nat}{s:As}(hI:Inv w b n k s){g:Gt}(hg:bH g w b=0)(hm:mB g=true){wa:List Int}(hb:∀ x,x∈wa->x=0\/x=1)(F:FuncId) :
  (cI w s.r (pA w wa s g) = -1/\WC (if g.k=13 then 136 else 137) (wA (gA g) (wa.getD s.k 0).toNat) w F s.r (rV 0 6) 3 s.r) ∨
  (cI w s.r (pA w wa s g) ≠ -1 /\ ∃ ch nm:Nat,ch<=1/\(nm=3\/nm=12)/\(if cI w s.r (pA w wa s g)=1 then s.c else s.c+1)=s.c+ch ∧
   WC (if g.k=13 then 136 else 137) (wA (gA g) (wa.getD s.k 0).toNat) w F s.r (rV ch 0) nm (oA w wa s g).r):=by
 obtain⟨h1,h2,h3⟩:=pa hg hm;have ho:=(po hb s.k).2.1;have hpa:pA w wa s g=zP w (gA g) (wa.getD s.k 0).toNat:=rfl;rcases (of_decide_eq_true hm:g.k=13\/g.k=14) with hk|hk
 ·rw[if_pos hk,Bv hk];dsimp only;unfold rA;rw[hpa];rcases Dy hI.ok hI.ok (fun _=>QI) h2 ho F with⟨a,c⟩|⟨a,c⟩|⟨a,_,c⟩
  ·rw[a,if_pos rfl,if_pos rfl];exact .inr ⟨by decide,0,3,by omega,.inl rfl,rfl,c⟩
  ·exact .inl ⟨a,c⟩
  ·rw[a,if_neg qaj,if_neg qaj];exact .inr ⟨by decide,1,12,by omega,.inr rfl,rfl,c⟩
 ·rw[if_neg (show ¬ g.k=13 by rw[hk];decide),Bw hk];dsimp only;unfold rA;rw[hpa];rcases TR hI.ok hI.ok (fun _=>QI) h2 ho F with⟨a,nm,hnm,c⟩|⟨a,c⟩|⟨a,_,c⟩
  ·rw[a,if_pos rfl,if_pos rfl];exact .inr ⟨by decide,0,nm,by omega,hnm,rfl,c⟩
  ·exact .inl ⟨a,c⟩
  ·rw[a,if_neg (show ¬(0:Int)=1 by decide),if_neg (show ¬(0:Int)=1 by decide)];exact .inr ⟨by decide,1,12,by omega,.inr rfl,rfl,c⟩
theorem Ni{wa:List Int}{k:Nat}(h:k<wa.length):((wa.drop k).map fun k=>[iD k])[(0:Int).toNat]?=some [iD (wa.getD k 0)]:=by
 rw[jI,ew h];simp[h]
theorem Kl{wa:List Int}{k n:Nat}{u:Bool}(hn:n=((wa.drop k).map fun k=>[iD k]).length):AV.d (.sl ((((wa.drop k).map fun k=>[iD k]).drop 1).take (n-1)) (u&&decide (n=((wa.drop k).map fun k=>[iD k]).length)))=AV.d (aP (wa.drop (k+1)) u):=by
 rw[decide_eq_true hn,Bool.and_true,hn];have e:(((wa.drop k).map fun k=>[iD k]).drop 1).take (((wa.drop k).map fun k=>[iD k]).length-1)=(wa.drop (k+1)).map fun k=>[iD k]:=by
  rw[pT fF,<- List.map_drop,List.drop_drop]
 rw[e]
theorem Oi{V:AHeap}{nm sz N:Nat}{t:Bool}{es:List (List D)}{a e:D}(hg:V.get nm=some (ap sz es))(hN:N=es.length):fb (eY V 9 []) [.agg [.d a,.sl nm sz 0 N N t],.d e]=some [.agg [a,.sl es t],e]:=by
 have h:=uZ (q:=6) (vis:=[]) (t:=t) hg hN;have e1:eY V 8 [] (.d a)=some a:=rfl;have e2:eY V 9 [] (.d e)=some e:=rfl;have e3:eY V 9 [] (.agg [.d a,.sl nm sz 0 N N t])=some (.agg [a,.sl es t]):=by
  unfold eY;simp only[fb,e1,h]
 simp only[fb,e2,e3]
set_option maxHeartbeats 8000000 in
theorem Cs{w b:Nat}{l:List Ps}(hs:SOk w l)(cw:Int)(gs:List Gt)(wa:List Int)(ct t u:Bool)(hC:dm cw b gs=0)(hws:∀ g,g∈gs->g.ws.length<=1000)(hwn:wa.length<=1000) :
  bq Pr GG 58 ([ei cw b gs ct,cf w l t,aP wa u].map .d) [] 0 (fun v H _=>alK w b l cw gs wa v H):=by
 obtain⟨hcw,hb,hgl,hgc⟩:=cj hC;have hw:1<=w/\w<=12:=⟨hs.lo,hs.hi⟩
 have c1:=nP (G:=GG) cw b gs ct qad hws;rw[hC]at c1;have c2:=cT w l t (dE hs);rw[kZ hs]at c2;have c3:=lJ (G:=GG) hw l t (dE hs) hs.vl;rw[hs.len]at c3;have c4:=Nt (G:=GG) gs ct 132 [] [.rop [.fn 130 [] []] 0] vv qad fun g _=>ok132 g;have c5:=Nu (G:=GG) wa u 135 [] [] (fun x=>!cV x 0 1) hwn fun x _=>Wz x;refine bi pok Tryz.func58 CI ?_;conv=>whnf
 repeat' first|((first|refine O6.mk _ rfl ?_|refine O8.mk _ aK ?_|refine im ?_|refine aa c1 ?_|refine aa c2 ?_|refine HpP.force ?_);conv=>whnf)
 refine ax pok (fun i=>⟨[(2,.d (aP wa u)),(3,.ptr 0 3 0 0),(4,.ptr 1 2 0 0),(6,.ptr 2 2 0 0),(12,.ptr 3 1 0 0),(13,.d (iD ((gs.take i).countP mB:Nat))),(37,.d (bN gs ct)),(38,.d (iD (gs.map Gt.l).length)),(39,.d (iD i))],[(0,some (.arr 3 [[.d (iD cw),.d (iD b),.d (bN gs ct)]])),(1,some (.arr 2 [[.d (iD w),.d (az l t)]])),(2,some (.arr 2 [[.d (iD 0),.d (.sl [] true)]])),(3,some (.arr 1 [[.d (.fn 130 [] [])]]))],4⟩) (gs.length) (fun _=>True) (trivial) ?_ ar ?_ ?_
 ·exact nr
 ·intro i A_i h_i I_i N_i;have e_i:aD .i64 (i:Int) 1=((i+1:Nat):Int):=ak eH;have hgg:(gs.map Gt.l)[(i:Int).toNat]?=some (gs[i]).l:=wK h_i;have hcs:(gs.take (i+1)).countP mB=(gs.take i).countP mB+if mB gs[i]=true then 1 else 0:=by
   rw[aC h_i,QY];simp[List.countP_cons]
  have hkn:=AO gs[i];have hcb:(gs.take i).countP mB<=i:=by
   have:=wdp (p:=mB) (l:=gs.take i);rw[BZ]at this;omega
  generalize gs[i]=g at hgg hcs hkn;generalize mB g=m at hcs hkn;generalize (gs.take i).countP mB=n at hcs hcb⊢;have hia:aD .i64 (n:Int) 1=((n+1:Nat):Int):=ak (b:=1) qad;conv=>whnf
  repeat (refine O6.mk _ rfl ?_;conv=>whnf)
  intro t ht;cases t
  ·exact bu
  conv=>whnf
  repeat' first|((first|refine O6.mk _ qhh ?_|refine O8.mk _ aK ?_|refine aJ ci ?_|refine cK hkn rfl ?_|refine HpP.force ?_);conv=>whnf)|(intro t ht;cases t<;>conv=>whnf)
  ·subst ht;refine N_i _ ?_ ?_
   ·exact cY
   ·refine ah cW ?_ ?_ trivial
    ·exact qdr
    ·exact lZ
  ·subst ht;refine N_i _ ?_ ?_
   ·exact cY
   ·refine ah cW ?_ ?_ trivial
    ·exact qdl
    ·exact lZ
 ·intro A_last I_last;rw[pS];conv=>whnf
  repeat (refine O6.mk _ rfl ?_;conv=>whnf)
  intro t ht;cases t;rotate_left
  ·exact bu
  conv=>whnf
  by_cases hcww:cw=w
  ·subst hcww;repeat' first|((first|refine O6.mk _ rfl ?_|refine O8.mk _ aK ?_|refine aJ qdh ?_|refine im ?_);conv=>whnf)|(refine eV c4 rfl ?_)|(refine cc c5 ?_)|((first|refine aY c3 ?_|refine HpP.force ?_);conv=>whnf)|(intro t ht;cases t<;>conv=>whnf)
   ·exact fin (yL qaj (F1 (.inr ht)))
   ·exact fin (yL qaj (al3 LH qhq ht))
   ·have hkb:gs.all vv=true:=by assumption
    have hcn:wa.length=gs.countP mB:=qhq;have hbt:=ht;clear c4 c5 c1 c2;have hA:=OG hC hkb hcn hbt;refine NK pok 35 (fun i=>⟨[(2,.d (aP (wa.drop (cr w wa b l (gs.take i)).k) u)),(6,.ptr 0 2 0 0),(12,.ptr 1 1 0 0),(16,.ptr 2 3 0 0),(17,.sl 4 1 0 b b true),(18,.d (iD (cr w wa b l (gs.take i)).c)),(80,.d (bN gs ct)),(81,.d (iD (gs.map Gt.l).length)),(82,.d (iD i))],[(0,some (.arr 2 [[.d (iD 0),.d (.sl [] true)]])),(1,some (.arr 1 [[.d (.fn 130 [] [])]])),(2,some (mg w 3 (cr w wa b l (gs.take i)).f)),(3,some (ap 4 ((cr w wa b l (gs.take i)).r.map Ps.l))),(4,some (ap 1 (fN (cr w wa b l (gs.take i)).bs)))],5⟩) (gs.length) (fun i=>∀ j (h:j<gs.length),j<i->jy w wa b l gs j gs[j]=false) (fun j _ h=>absurd h (Nat.not_lt_zero j)) ?_ ar ?_ ?_
    ·first|refine aO [(0,2),(1,3),(2,4),(3,5),(4,6)] ?_ ?_ ?_ trivial|refine aI [(0,2),(1,3),(2,4),(3,5),(4,6)] rfl rfl ?_ ?_ ?_ trivial
     ·exact gn
     ·repeat' first|exact trivial|refine⟨⟨di rfl,_,rfl,by first|rfl|assumption|exact aw rfl (by first|rfl|assumption|exact aw rfl (show some (Blk.ren _ (ap 4 ((af l (2*w)).map Ps.l)))=some (ap 4 ((af l (2*w)).map Ps.l)) from by rw[aE])|exact aw (l:=fN (List.replicate b 0)) rfl (congrArg some (show Blk.arr 1 (List.replicate b [AV.d (iD 0)])=ap 1 (fN (List.replicate b 0)) from by unfold ap fN;simp)))|exact aw rfl (show some (Blk.ren _ (ap 4 ((af l (2*w)).map Ps.l)))=some (ap 4 ((af l (2*w)).map Ps.l)) from by rw[aE])|exact aw (l:=fN (List.replicate b 0)) rfl (congrArg some (show Blk.arr 1 (List.replicate b [AV.d (iD 0)])=ap 1 (fN (List.replicate b 0)) from by unfold ap fN;simp)),by first|exact ay rfl|exact aj _ _ _|exact au rfl⟩,?_⟩
     ·exact iI
    ·intro i A_i h_i I_i N_i;have e_i:aD .i64 (i:Int) 1=((i+1:Nat):Int):=ak eH;have hI:=ol hA hs i qad I_i;have hgi:=hgc _ (ey h_i);have hkd:=hA.kd _ (ey h_i);have hgg:(gs.map Gt.l)[(i:Int).toNat]?=some (gs[i]).l:=wK h_i;have hsn:=tE (w:=w) (wa:=wa) (b:=b) (l:=l) h_i;have hbd:jy w wa b l gs i gs[i]=(mB gs[i]&&decide (cI w (cr w wa b l (gs.take i)).r (pA w wa (cr w wa b l (gs.take i)) gs[i]) = -1)):=rfl;have hNx:jy w wa b l gs i gs[i]=false->∀ j (h:j<gs.length),j<i+1->jy w wa b l gs j gs[j]=false:=fun q j h hj=>by
      rcases wa1 j i with c|c
      ·exact I_i j h c
      ·obtain rfl:j=i:=by omega
       exact q
     have hE6:jy w wa b l gs i gs[i]=true->ln w l w b gs wa=6:=fun q=>al6 hkb hcn hbt h_i q;have hkl:mB gs[i]=true->(cr w wa b l (gs.take i)).k<wa.length:=fun hm=>by rw[hI.k,hcn];exact cnt_le h_i hm
     have hkn:=AO gs[i];rw[hbd]at hNx hE6;clear hbd;generalize cr w wa b l (gs.take i)=s at hI hsn hNx hE6 hkl⊢;generalize cr w wa b l (gs.take (i+1))=s' at hsn N_i;generalize gs[i]=g at hgi hkd hgg hsn hNx hE6 hkl hkn;have hlen:=hI.ok.len;have hvl:=hI.ok.vl;cases hm:mB g with
     | false =>
      rw[hm]at hNx hkn;have hk:bV g.k=true:=hkd.resolve_left (by simp[hm]);have hst:=ED (w:=w) (wa:=wa) (s:=s) hm;obtain⟨b1,b2,b3,b4⟩:=oP (jD hgi).2.2.2.2;obtain⟨k,ws,ug,gb,gi⟩:=g;have ha:=mi (G:=GG) hw (i:=gi) (oZ hk hgi) hk s.r true (dE hI.ok) hvl;have hga:dF w ⟨k,ws,ug,gb,0⟩ s.r=dF w ⟨k,ws,ug,gb,gi⟩ s.r:=rfl;rw[hga,hlen]at ha;dsimp only at b1;have hbl:=hI.bl;have hml:w=(s.r.map Ps.l).length:=qgn;obtain⟨r,bs,c,kk,f⟩:=s;rw[hst]at hsn;dsimp only at ha hsn hbl hml⊢;generalize dF w ⟨k,ws,ug,gb,gi⟩ r=r' at ha hsn;by_cases hi0:gi=0
      ·subst hi0;rw[show Vq ⟨r,bs,c,kk,f⟩ ⟨k,ws,ug,gb,0⟩=true from rfl,if_pos rfl]at hsn;subst hsn;conv=>whnf
       repeat (refine O6.mk _ rfl ?_;conv=>whnf)
       intro t ht;cases t
       ·exact bu
       conv=>whnf
       repeat' first|((first|refine O6.mk _ (by first|rfl|exact hgg|exact Oi rfl hml) ?_|refine O8.mk _ aK ?_|refine aJ ci ?_|refine cK hkn rfl ?_|refine aQ ?_|refine aH (l:=[3]) (aM rfl rfl (show _=some (ap 4 (r.map Ps.l)) from rfl)) ?_|refine aZ ha ?_|rw[aW]|refine P5.mk _ rfl ?_|refine HpP.force ?_);conv=>whnf)|(intro t ht;cases t<;>conv=>whnf)
       ·refine N_i _ ?_ ?_
        ·exact hNx rfl
        ·exact qi3
       ·cases ht
      ·obtain⟨m,rfl⟩:∃ m:Nat,gi=((m+1:Nat):Int):=⟨(gi-1).toNat,by omega⟩
       have hsb:cO .i64 ((m+1:Nat):Int) 1=((m:Nat):Int):=iY (b:=1) qad qad;have hmb:m<bs.length:=qad;have hgb:=AB hmb;have hon:Vq ⟨r,bs,c,kk,f⟩ ⟨k,ws,ug,gb,((m+1:Nat):Int)⟩=decide (bs.getD m 0=1):=by
        unfold Vq;rw[decide_eq_false (show ¬((m+1:Nat):Int)=0 by omega),show(((m+1:Nat):Int)-1).toNat=m by omega];rfl
       rw[hon]at hsn;generalize bs.getD m 0=x at hgb hsn;conv=>whnf
       repeat (refine O6.mk _ rfl ?_;conv=>whnf)
       intro t ht;cases t
       ·exact bu
       conv=>whnf
       repeat' first|((first|refine O6.mk _ (by first|rfl|exact hgg|exact hgb|exact Oi rfl hml) ?_|refine O8.mk _ aK ?_|refine aJ ci ?_|refine cK hkn rfl ?_|rw[hsb]|refine aH (l:=[3]) (aM rfl rfl (show _=some (ap 4 (r.map Ps.l)) from rfl)) ?_|refine aZ ha ?_|rw[aW]|refine P5.mk _ rfl ?_|refine HpP.force ?_);conv=>whnf)|(intro t ht;cases t<;>conv=>whnf)
       all_goals first|(exfalso;simp at ht;omega)|(cases ht;done)|skip
       ·exact qix
       ·rw[decide_eq_true (show x=1 from eq_of_beq ht),if_pos rfl]at hsn;subst hsn;refine N_i _ ?_ ?_
        ·exact hNx rfl
        ·exact qi3
     | true =>
      rw[hm]at hNx hE6 hkn;have hkl:=hkl hm;obtain⟨hws,hn,hi0⟩:=pa hgi hm;obtain⟨w1,w2,w3⟩:=po hA.bit s.k;have hwg:=Ni hkl;rw[<- w3]at hwg;have hrc:=hI.c;have hbl:=hI.bl;have hs1:1<=((wa.drop s.k).map fun k=>[iD k]).length:=fF;have hs2:∀ el,el∈((wa.drop s.k).map fun k=>[iD k])->el.length=1:=fun el h=>by
       obtain⟨x,_,rfl⟩:=bm.1 h;rfl
      rcases meaW hI hgi hm hA.bit (if g.k=13 then 136 else 137) with⟨hx,hc⟩|⟨hx,ch,nm,hch,hnm,hcc,hc⟩
      ·have h6:=hE6 (by rw[hx];rfl);have hk:=(of_decide_eq_true hm:g.k=13\/g.k=14)
       clear hE6 hNx hx hI w1 w3 hkd hgi hm hsn N_i hbl;generalize (wa.getD s.k 0).toNat=o at *;generalize gA g=n at *;obtain⟨k,ws,ug,gb,gi⟩:=g;obtain⟨r,bs,c,kk,f⟩:=s;dsimp only at hk hws hi0 hc hwg hs1 hs2⊢;subst hws hi0;rcases hk with rfl|rfl
       ·rw[if_pos rfl]at hc;conv=>whnf
        repeat (refine O6.mk _ rfl ?_;conv=>whnf)
        intro t ht;cases t
        ·exact bu
        conv=>whnf
        repeat' first|((first|refine O6.mk _ TI ?_|refine O8.mk _ aK ?_|refine aJ G1 ?_|refine cK hkn rfl ?_|refine aQ ?_|refine bF (a:=13) (b:=14) rfl ?_|refine HpP.force ?_);conv=>whnf)|(intro t ht;cases t<;>conv=>whnf)
        ·cases ht
        refine tx ar [(16,.ptr 2 3 0 0),(20,.ptr 5 4 0 0),(21,.d (iD o)),(2,.d (aP (wa.drop (kk+1)) u)),(6,.ptr 0 2 0 0),(12,.ptr 1 1 0 0),(17,.sl 4 1 0 b b true),(18,.d (iD c)),(80,.d (bN gs ct)),(81,.d (iD (gs.map Gt.l).length)),(82,.d (iD i))] [(5,.arr 4 [[.d (iD 13),.d (aP [(n:Int)] ug),.d (iD gb),.d (iD 0)]]),(0,.arr 2 [[.d (iD 0),.d (.sl [] true)]]),(1,.arr 1 [[.d (.fn 130 [] [])]]),(4,ap 1 (fN bs))] G0 sF (eJ _ sF) (eJ _ (eJ _ sF)) sF F9 hc (.inl rfl) G3 LC rfl rfl rfl ?_;conv=>whnf
        repeat' first|((first|refine O6.mk _ rfl ?_|refine O8.mk _ aK ?_|refine mj (a:=6) (b:=0) qaj ?_|refine HpP.force ?_);conv=>whnf)
        exact fin (yL qaj h6)
       ·rw[if_neg (show ¬(14:Int)=13 by decide)]at hc;conv=>whnf
        repeat (refine O6.mk _ rfl ?_;conv=>whnf)
        intro t ht;cases t
        ·exact bu
        conv=>whnf
        repeat' first|((first|refine O6.mk _ TI ?_|refine O8.mk _ aK ?_|refine aJ G1 ?_|refine cK hkn rfl ?_|refine aQ ?_|refine HpP.force ?_);conv=>whnf)|(intro t ht;cases t<;>conv=>whnf)
        ·cases ht
        refine tx ar [(16,.ptr 2 3 0 0),(20,.ptr 5 4 0 0),(21,.d (iD o)),(2,.d (aP (wa.drop (kk+1)) u)),(6,.ptr 0 2 0 0),(12,.ptr 1 1 0 0),(17,.sl 4 1 0 b b true),(18,.d (iD c)),(80,.d (bN gs ct)),(81,.d (iD (gs.map Gt.l).length)),(82,.d (iD i))] [(5,.arr 4 [[.d (iD 14),.d (aP [(n:Int)] ug),.d (iD gb),.d (iD 0)]]),(0,.arr 2 [[.d (iD 0),.d (.sl [] true)]]),(1,.arr 1 [[.d (.fn 130 [] [])]]),(4,ap 1 (fN bs))] G0 sF (eJ _ sF) (eJ _ (eJ _ sF)) sF F9 hc (.inl rfl) G3 LC rfl rfl rfl ?_;conv=>whnf
        repeat' first|((first|refine O6.mk _ rfl ?_|refine O8.mk _ aK ?_|refine mj (a:=6) (b:=0) qaj ?_|refine HpP.force ?_);conv=>whnf)
        exact fin (yL qaj h6)
      ·have hNx2:=hNx (by rw[decide_eq_false hx];rfl);have hia:aD .i64 (s.c:Int) (ch:Int)=((s.c+ch:Nat):Int):=ak qad;rw[<- hsn]at hc;rcases (of_decide_eq_true hm:g.k=13\/g.k=14) with hk|hk
       ·rw[if_pos hk]at hc;rw[Bv hk,hcc,<- w3]at hsn;have hbb:=Ok hgi hk;clear hE6 hNx hx hI w1 hkd hgi hcc hm;generalize rA w wa s g=R at hsn;subst hsn;dsimp only at hc⊢;generalize (wa.getD s.k 0).toNat=o at *;generalize gA g=n at *;obtain⟨k,ws,ug,gb,gi⟩:=g;obtain⟨r,bs,c,kk,f⟩:=s;dsimp only at hk hws hi0 hbb hc hwg hia hs1 hs2 hbl⊢;subst hk hws hi0;obtain⟨m,rfl⟩:∃ m:Nat,gb=m:=⟨gb.toNat,by omega⟩
        have hmb:m<bs.length:=qad;have hgb:=AB hmb;rcases hnm with rfl|rfl
        ·conv=>whnf
         repeat (refine O6.mk _ rfl ?_;conv=>whnf)
         intro t ht;cases t
         ·exact bu
         conv=>whnf
         repeat' first|((first|refine O6.mk _ TI ?_|refine O8.mk _ aK ?_|refine aJ G1 ?_|refine cK hkn rfl ?_|refine aQ ?_|refine bF (a:=13) (b:=14) rfl ?_|refine HpP.force ?_);conv=>whnf)|(intro t ht;cases t<;>conv=>whnf)
         ·cases ht
         refine tx ar [(16,.ptr 2 3 0 0),(20,.ptr 5 4 0 0),(21,.d (iD o)),(2,.d (aP (wa.drop (kk+1)) u)),(6,.ptr 0 2 0 0),(12,.ptr 1 1 0 0),(17,.sl 4 1 0 b b true),(18,.d (iD c)),(80,.d (bN gs ct)),(81,.d (iD (gs.map Gt.l).length)),(82,.d (iD i))] [(5,.arr 4 [[.d (iD 13),.d (aP [(n:Int)] ug),.d (iD m),.d (iD 0)]]),(0,.arr 2 [[.d (iD 0),.d (.sl [] true)]]),(1,.arr 1 [[.d (.fn 130 [] [])]]),(4,ap 1 (fN bs))] G0 sF (eJ _ sF) (eJ _ (eJ _ sF)) sF F9 hc (.inl rfl) G3 LC rfl rfl rfl ?_;conv=>whnf
         repeat' first|((first|refine O6.mk _ (by first|rfl|exact hgb) ?_|refine O8.mk _ (by first|exact Hb (x:=o)|rfl) ?_|refine aJ ci ?_|refine im ?_|refine aQ ?_|refine HpP.force ?_);conv=>whnf)
         refine N_i _ ?_ ?_
         ·exact hNx2
         ·exact qi4
        ·conv=>whnf
         repeat (refine O6.mk _ rfl ?_;conv=>whnf)
         intro t ht;cases t
         ·exact bu
         conv=>whnf
         repeat' first|((first|refine O6.mk _ TI ?_|refine O8.mk _ aK ?_|refine aJ G1 ?_|refine cK hkn rfl ?_|refine aQ ?_|refine bF (a:=13) (b:=14) rfl ?_|refine HpP.force ?_);conv=>whnf)|(intro t ht;cases t<;>conv=>whnf)
         ·cases ht
         refine tx ar [(16,.ptr 2 3 0 0),(20,.ptr 5 4 0 0),(21,.d (iD o)),(2,.d (aP (wa.drop (kk+1)) u)),(6,.ptr 0 2 0 0),(12,.ptr 1 1 0 0),(17,.sl 4 1 0 b b true),(18,.d (iD c)),(80,.d (bN gs ct)),(81,.d (iD (gs.map Gt.l).length)),(82,.d (iD i))] [(5,.arr 4 [[.d (iD 13),.d (aP [(n:Int)] ug),.d (iD m),.d (iD 0)]]),(0,.arr 2 [[.d (iD 0),.d (.sl [] true)]]),(1,.arr 1 [[.d (.fn 130 [] [])]]),(4,ap 1 (fN bs))] G0 sF (eJ _ sF) (eJ _ (eJ _ sF)) sF F9 hc (.inr rfl) G3 LC rfl rfl rfl ?_;conv=>whnf
         repeat' first|((first|refine O6.mk _ (by first|rfl|exact hgb) ?_|refine O8.mk _ (by first|exact Hb (x:=o)|rfl) ?_|refine aJ ci ?_|refine im ?_|refine aQ ?_|refine HpP.force ?_);conv=>whnf)
         refine N_i _ ?_ ?_
         ·exact hNx2
         ·exact qi1
       ·rw[if_neg (show ¬ g.k=13 by rw[hk];decide)]at hc;rw[Bw hk,hcc]at hsn;clear hE6 hNx hx hI w1 hkd hgi hcc hm;generalize (if(wa.getD s.k 0).toNat=1 then dF w (xG (gA g)) (rA w wa s g) else rA w wa s g)=R at hsn;subst hsn;dsimp only at hc⊢;generalize (wa.getD s.k 0).toNat=o at *;generalize gA g=n at *;obtain⟨k,ws,ug,gb,gi⟩:=g;obtain⟨r,bs,c,kk,f⟩:=s;dsimp only at hk hws hi0 hc hwg hia hs1 hs2 hbl⊢;subst hk hws hi0;rcases hnm with rfl|rfl
        ·conv=>whnf
         repeat (refine O6.mk _ rfl ?_;conv=>whnf)
         intro t ht;cases t
         ·exact bu
         conv=>whnf
         repeat' first|((first|refine O6.mk _ TI ?_|refine O8.mk _ aK ?_|refine aJ G1 ?_|refine cK hkn rfl ?_|refine aQ ?_|refine HpP.force ?_);conv=>whnf)|(intro t ht;cases t<;>conv=>whnf)
         ·cases ht
         refine tx ar [(16,.ptr 2 3 0 0),(20,.ptr 5 4 0 0),(21,.d (iD o)),(2,.d (aP (wa.drop (kk+1)) u)),(6,.ptr 0 2 0 0),(12,.ptr 1 1 0 0),(17,.sl 4 1 0 b b true),(18,.d (iD c)),(80,.d (bN gs ct)),(81,.d (iD (gs.map Gt.l).length)),(82,.d (iD i))] [(5,.arr 4 [[.d (iD 14),.d (aP [(n:Int)] ug),.d (iD gb),.d (iD 0)]]),(0,.arr 2 [[.d (iD 0),.d (.sl [] true)]]),(1,.arr 1 [[.d (.fn 130 [] [])]]),(4,ap 1 (fN bs))] G0 sF (eJ _ sF) (eJ _ (eJ _ sF)) sF F9 hc (.inl rfl) G3 LC rfl rfl rfl ?_;conv=>whnf
         repeat' first|((first|refine O6.mk _ rfl ?_|refine im ?_|refine bF (a:=14) (b:=13) rfl ?_);conv=>whnf)
         refine N_i _ ?_ ?_
         ·exact hNx2
         ·exact qi4
        ·conv=>whnf
         repeat (refine O6.mk _ rfl ?_;conv=>whnf)
         intro t ht;cases t
         ·exact bu
         conv=>whnf
         repeat' first|((first|refine O6.mk _ TI ?_|refine O8.mk _ aK ?_|refine aJ G1 ?_|refine cK hkn rfl ?_|refine aQ ?_|refine HpP.force ?_);conv=>whnf)|(intro t ht;cases t<;>conv=>whnf)
         ·cases ht
         refine tx ar [(16,.ptr 2 3 0 0),(20,.ptr 5 4 0 0),(21,.d (iD o)),(2,.d (aP (wa.drop (kk+1)) u)),(6,.ptr 0 2 0 0),(12,.ptr 1 1 0 0),(17,.sl 4 1 0 b b true),(18,.d (iD c)),(80,.d (bN gs ct)),(81,.d (iD (gs.map Gt.l).length)),(82,.d (iD i))] [(5,.arr 4 [[.d (iD 14),.d (aP [(n:Int)] ug),.d (iD gb),.d (iD 0)]]),(0,.arr 2 [[.d (iD 0),.d (.sl [] true)]]),(1,.arr 1 [[.d (.fn 130 [] [])]]),(4,ap 1 (fN bs))] G0 sF (eJ _ sF) (eJ _ (eJ _ sF)) sF F9 hc (.inr rfl) G3 LC rfl rfl rfl ?_;conv=>whnf
         repeat' first|((first|refine O6.mk _ rfl ?_|refine im ?_|refine bF (a:=14) (b:=13) rfl ?_);conv=>whnf)
         refine N_i _ ?_ ?_
         ·exact hNx2
         ·exact qi1
    ·intro A_last3 I_last3;have hE0:=al0 hkb hcn hbt I_last3;rw[pS];conv=>whnf
     repeat (refine O6.mk _ rfl ?_;conv=>whnf)
     intro t ht;cases t;rotate_left
     ·exact bu
     conv=>whnf
     repeat' first|((first|refine O6.mk _ rfl ?_|refine O8.mk _ aK ?_|refine HpP.force ?_);conv=>whnf)
     exact fin (.inl ⟨hE0,rfl,rfl,rfl⟩)
   ·exact fin (yL qaj (al2 LH G7))
  ·repeat' first|((first|refine O6.mk _ rfl ?_|refine O8.mk _ aK ?_|refine mj hcww ?_|refine HpP.force ?_);conv=>whnf)
   exact fin (yL qaj (F1 (.inl hcww)))
end Go.Tz
namespace Go.Tz
open Go Go.AL Go.Proofs Go.Ma
abbrev own4(w b:Nat)(c:Int):AV:=.tup [.agg [.d (iD w),.sl 0 4 0 w w true],.sl 1 1 0 b b true,.d (iD c),.d (iD 0)]
theorem qH{w b:Nat}{l:List Ps}(hs:SOk w l)(cw:Int)(gs:List Gt)(wa:List Int)(ct t u:Bool)(hC:dm cw b gs=0)(hws:∀ g,g∈gs->g.ws.length<=1000)(hwn:wa.length<=1000)(h:ln w l cw b gs wa=0) :
  PO Pr GG 58 [ei cw b gs ct,cf w l t,aP wa u] (own4 w b (cr w wa b l gs).c) [(0,some (ap 4 ((cr w wa b l gs).r.map Ps.l))),(1,some (ap 1 (fN (cr w wa b l gs).bs)))] 2:=by
 refine⟨bg Tryz.func58 CI,bk (Cs hs cw gs wa ct t u hC hws hwn) ?_⟩;rintro v H n (⟨_,rfl,h3,h4⟩|⟨q,_⟩)
 ·refine⟨_,_,2,?_,rfl,rfl,rfl⟩;first|refine aO [(0,3),(1,4)] ?_ ?_ ?_ trivial|refine aI [(0,3),(1,4)] rfl rfl ?_ ?_ ?_ trivial
  ·exact gn
  ·repeat' first|exact trivial|refine⟨⟨di rfl,_,rfl,by first|rfl|assumption|exact aw rfl (by first|rfl|assumption|exact aw rfl h3|exact aw rfl h4)|exact aw rfl h3|exact aw rfl h4,by first|exact ay rfl|exact aj _ _ _|exact au rfl⟩,?_⟩
  ·exact iI
 ·exact absurd h q
theorem nI{w b:Nat}{l:List Ps}(hs:SOk w l)(cw:Int)(gs:List Gt)(wa:List Int)(ct t u:Bool)(hC:dm cw b gs=0)(hws:∀ g,g∈gs->g.ws.length<=1000)(hwn:wa.length<=1000)(h:ln w l cw b gs wa≠0) :
  PC Pr GG 58 [ei cw b gs ct,cf w l t,aP wa u] (QP (ln w l cw b gs wa)):=by
 refine de (bg Tryz.func58 CI) (cu (Cs hs cw gs wa ct t u hC hws hwn) ?_);rintro v H n (⟨q,_⟩|⟨_,rfl⟩)
 ·exact absurd q h
 ·exact .d _
theorem lq(cw b:Int)(gs:List Gt)(w:Int)(l:List Ps)(wa:List Int)(ct t u:Bool)(hn:gs.length<=1000)(hws:∀ g,g∈gs->g.ws.length<=1000)(h:dm cw b gs≠0) :
  PC Pr GG 58 [ei cw b gs ct,cf w l t,aP wa u] (QP (dm cw b gs)):=by
 have c1:=nP (G:=GG) cw b gs ct hn hws;generalize dm cw b gs=e at c1 h⊢;refine ae pok Tryz.func58 CI ?_;conv=>whnf
 repeat' first|((first|refine O6.mk _ rfl ?_|refine O8.mk _ aK ?_|refine mj h ?_|refine aa c1 ?_|refine HpP.force ?_);conv=>whnf)
 exact fin rfl
theorem LW(cw b:Int)(gs:List Gt)(w:Int)(l:List Ps)(wa:List Int)(ct t u:Bool)(hn:gs.length<=1000)(hws:∀ g,g∈gs->g.ws.length<=1000)(h:dm cw b gs=0)(hl:l.length<=1000)(h2:bD w l≠0) :
  PC Pr GG 58 [ei cw b gs ct,cf w l t,aP wa u] (QP (bD w l)):=by
 have c1:=nP (G:=GG) cw b gs ct hn hws;have c2:=cT w l t hl;rw[h]at c1;generalize bD w l=e at c2 h2⊢;refine ae pok Tryz.func58 CI ?_;conv=>whnf
 repeat' first|((first|refine O6.mk _ rfl ?_|refine O8.mk _ aK ?_|refine im ?_|refine mj h2 ?_|refine aa c1 ?_|refine aa c2 ?_|refine HpP.force ?_);conv=>whnf)
 exact fin rfl
def mR(w n o:Nat)(l:List Ps):List Ps:=if cI w l (zP w n o)=1 then af l (2*w) else af (dz (zP w n o) l) (2*w)
def mN(w n o:Nat)(l:List Ps):Int:=if cI w l (zP w n o)=1 then 0 else 1
theorem mR_ok{w n o:Nat}{l:List Ps}(hs:SOk w l)(hn:n<w)(ho:o<=1)(h:cI w l (zP w n o) ≠ -1)(t:Bool) :
  SOk w (mR w n o l)/\PO Pr GG 56 [cf w l t,iD n,iD o] (Gv w (mN w n o l)) [(0,some (ap 4 ((mR w n o l).map Ps.l)))] 1 ∧
  PO Pr GG 57 [cf w l t,iD n,iD o] (Gv w (mN w n o l)) [(0,some (ap 4 ((if o=1 then dF w (xG n) (mR w n o l) else mR w n o l).map Ps.l)))] 1 ∧
  PC Pr GG 53 [cf w l t,iD n,iD o] (mD w (mR w n o l) false (mN w n o l) 0):=by
 have hr:=(bK hs).1;have hg:gz ((af l (2*w)).map nf) (l.map nf):=fun g=>((bK hs).2 g).symm;unfold mR mN;rcases Dy hs hr hg hn ho 136 with⟨a,c⟩|⟨a,_⟩|⟨a,hP,c⟩
 ·rw[a,if_pos rfl,if_pos rfl];refine⟨hr,zk (rg t hs hn ho (.inl ⟨rfl,rfl⟩) (.inl rfl) c),?_,wV hs hn ho t a⟩;rcases TR hs hr hg hn ho 137 with⟨_,nm,hnm,c⟩|⟨a',_⟩|⟨a',_⟩
  ·exact JE (rg t hs hn ho (.inr ⟨rfl,rfl⟩) hnm c)
  ·rw[a]at a';cases a'
  ·rw[a]at a';cases a'
 ·exact absurd a h
 ·rw[a,if_neg (show ¬(0:Int)=1 by decide),if_neg (show ¬(0:Int)=1 by decide)];refine⟨(bK hP).1,zk (rg t hs hn ho (.inl ⟨rfl,rfl⟩) (.inr rfl) c),?_,wX hs hn ho t a hP⟩;rcases TR hs hr hg hn ho 137 with⟨a',_⟩|⟨a',_⟩|⟨_,_,c⟩
  ·rw[a]at a';cases a'
  ·rw[a]at a';cases a'
  ·exact JE (rg t hs hn ho (.inr ⟨rfl,rfl⟩) (.inr rfl) c)
theorem mR_no{w n o:Nat}{l:List Ps}(hs:SOk w l)(hn:n<w)(ho:o<=1)(h:cI w l (zP w n o) = -1)(t:Bool) :
  PC Pr GG 56 [cf w l t,iD n,iD o] (Vp 6)/\PC Pr GG 57 [cf w l t,iD n,iD o] (Vp 6)/\PC Pr GG 53 [cf w l t,iD n,iD o] (mD 0 [] true 0 6):=by
 have hr:=(bK hs).1;have hg:gz ((af l (2*w)).map nf) (l.map nf):=fun g=>((bK hs).2 g).symm;refine⟨?_,?_,wW hs hn ho t h⟩
 ·rcases Dy hs hr hg hn ho 136 with⟨a,_⟩|⟨_,c⟩|⟨a,_⟩
  ·rw[h]at a;cases a
  ·exact mC (wG t hs hn ho (.inl ⟨rfl,rfl⟩) c)
  ·rw[h]at a;cases a
 ·rcases TR hs hr hg hn ho 137 with⟨a,_⟩|⟨_,c⟩|⟨a,_⟩
  ·rw[h]at a;cases a
  ·exact rS (wG t hs hn ho (.inr ⟨rfl,rfl⟩) c)
  ·rw[h]at a;cases a
end Go.Tz
namespace Go.Tz
open Go Go.AL Go.Proofs Go.Ma
noncomputable def Vs:Array Oper:=(Tryz.f6.body.bind (jC 15)).getD #[]
structure S15 (ks:List (Nat×AV)) (hs:List (Nat×Blk)) (base a17:Nat) (old:Blk) (w n:Nat) (R Q:List Ps) (L:Nat->Bool) (s:St):Prop where
 kp:∀ t v,(t,v)∈ks->lk s.env t=v
 ho:∀ m bl,(m,bl)∈hs->s.heap.get m=some bl
 nx:base<=s.nx
 v0:L 0=true->lk s.env 74 = .d (cf w R false)
 v1:L 1=true->lk s.env 75 = .d (iD n)
 v2:L 2=true->L 3=false->∃ X,base<=X/\X<s.nx/\lk s.env 76 = .sl X 1 0 1 1 true/\s.heap.get X=some (ap 1 [[iD n]])
 v3:L 3=true->lk s.env 77 = .d (xG n).d
 v4:L 4=true->lk s.env 78 = .d (cf w Q false)
 g0:L 5=false->s.heap.get a17=some old
 g1:L 5=true->s.heap.get a17=some (.arr 2 [[.d (iD w),.d (az Q false)]])
theorem N0:aq Tryz.f54=true:=ar
theorem Yx(n:Nat):PC Pr GG 54 [iD 1,.sl [[iD n]] true] (xG n).d:=by
 refine ae pok Tryz.func54 N0 ?_;conv=>whnf
 repeat' first|((first|refine O6.mk _ rfl ?_|refine O8.mk _ aK ?_|refine HpP.force ?_);conv=>whnf)
 exact fin rfl
theorem K5{H:AHeap}{X:Nat}{es:List (List D)}(hg:H.get X=some (ap 1 es))(h1:es.length=1):∀(i:Nat) (v:AV) (d:D),[AV.d (iD 1),.sl X 1 0 1 1 true][i]?=some v->[iD 1,D.sl es true][i]?=some d->AsD H v d:=fun i v d a1 a2=>by
 match i,a1,a2 with
 | 0,a1,a2=>simp at a1 a2;subst a1 a2;exact .d _
 | 1,a1,a2=>simp at a1 a2;subst a1 a2;exact fR hg h1.symm
 | i+2,a1,_=>simp at a1
theorem reg15(ks:List (Nat×AV))(hs:List (Nat×Blk)){base a16 a17:Nat}{old:Blk}{o0 o1:AV}{w n:Nat}{R Q:List Ps}(hold:old = .arr 2 [[o0,o1]])(hks:∀ p,p∈ks->p.1<74\/78<p.1)(k16:(16,AV.ptr a16 2 0 0)∈ks)(k17:(17,AV.ptr a17 2 0 0)∈ks)(k1:(1,AV.d (iD n))∈ks)
  (h16:(a16,Blk.arr 2 [[.d (iD w),.d (az R false)]])∈hs) (hhs:∀ p,p∈hs->p.1≠a17/\p.1<base) (h17:a17<base) (hf:PC Pr GG 44 [cf w R false,(xG n).d] (cf w Q false)) {st:St} (S0:S15 ks hs base a17 old w n R Q (fun _=>false) st) {k:Exit->St->Prop}
  (hk:∀ L s',S15 ks hs base a17 old w n R Q L s'->L 5=true->∃ st'',Sub GG 0 [] s' st''/\k .normal st''):Q0 Pr GG Tryz.f6.ntmps 0 [] 15 Vs st k:=by
 have put:∀{L:Nat->Bool} {s:St} {i d:Nat} {v:AV},S15 ks hs base a17 old w n R Q L s->74<=d/\d<=78->i≠5->L i=false->(i=0->d=74/\v = .d (cf w R false))->(i≠0->d≠74)->(i=1->d=75/\v = .d (iD n))->(i≠1->d≠75)->i≠2->d≠76->i≠3->d≠77->(i=4->d=78/\v = .d (cf w Q false))->(i≠4->d≠78) ->
   S15 ks hs base a17 old w n R Q (fun j=>if j=i then true else L j) (s.put (some d) v):=by
  intro L s i d v h hd h5 hLi e0 n0 e1 n1 n2 m2 n3 m3 e4 n4;refine⟨fun t x hm=>?_,h.ho,h.nx,fun hl=>?_,fun hl=>?_,fun hl h3=>?_,fun hl=>?_,fun hl=>?_,fun hl=>h.g0 (by simpa[Ne.symm h5] using hl),fun hl=>h.g1 (by simpa[Ne.symm h5] using hl)⟩
  ·have:=hks _ hm;rw[dq qfc];exact h.kp t x hm
  ·by_cases e:0=i
   ·obtain⟨rfl,rfl⟩:=e0 e.symm;exact ba _ _ _
   ·simp only[if_neg e]at hl;rw[dq (Ne.symm (n0 (Ne.symm e)))];exact h.v0 hl
  ·by_cases e:1=i
   ·obtain⟨rfl,rfl⟩:=e1 e.symm;exact ba _ _ _
   ·simp only[if_neg e]at hl;rw[dq (Ne.symm (n1 (Ne.symm e)))];exact h.v1 hl
  ·simp only[if_neg (Ne.symm n2)]at hl;simp only[if_neg (Ne.symm n3)]at h3;obtain⟨X,x1,x2,x3,x4⟩:=h.v2 hl h3;exact⟨X,x1,x2,by rw[dq (Ne.symm m2)];exact x3,x4⟩
  ·simp only[if_neg (Ne.symm n3)]at hl;rw[dq (Ne.symm m3)];exact h.v3 hl
  ·by_cases e:4=i
   ·obtain⟨rfl,rfl⟩:=e4 e.symm;exact ba _ _ _
   ·simp only[if_neg e]at hl;rw[dq (Ne.symm (n4 (Ne.symm e)))];exact h.v4 hl
 refine⟨fun r=>vc pok.mixed (qX ar) (S15 ks hs base a17 old w n R Q) S0 ?_ ?_⟩
 ·intro L s i op hS hL ho hall;have hi:i<6:=(BU.1 ho).1;have T29:=pok.tab.get (t:=29) rfl;have T42:=pok.tab.get (t:=42) rfl;have T3:=pok.tab.get (t:=3) rfl;have cases6:i=0\/i=1\/i=2\/i=3\/i=4\/i=5:=qad;rcases cases6 with rfl|rfl|rfl|rfl|rfl|rfl
  all_goals
   have ho:=ku (show some _=some op from ho);subst ho;refine⟨rfl,?_⟩
  ·exact aL (fun c h=>by cases h) (iz rfl T29.tok (fun h=>by cases h) (hS.kp _ _ k16) (hS.ho _ _ h16) rfl rfl rfl) rfl (put hS (i:=0) (d:=74) qaj qaj hL (fun _=>⟨rfl,rfl⟩) qaj (fun h=>absurd h qaj) qaj qaj qaj qaj qaj (fun h=>absurd h qaj) qaj)
  ·exact aL (fun c h=>by cases h) (jM rfl (hS.kp _ _ k1)) rfl (put hS (i:=1) (d:=75) qaj qaj hL (fun h=>absurd h qaj) qaj (fun _=>⟨rfl,rfl⟩) qaj qaj qaj qaj qaj (fun h=>absurd h qaj) qaj)
  ·have q:=hS.v1 (hall ⟨1,.data⟩ (xW (i:=0) rfl) rfl);refine gm (k:=1) (fun c hc=>by cases hc) ((ng (len:=1) (ps:=#[(0,.tmp 75)]) (nm:=s.nx) (zs:=[.d (iD 0)]) (els:=[[.d (iD n)]]) rfl ⟨T42.2,T3.1⟩ rfl rfl (by show pI [(0*1,1)] [AV.d (iD 0)] [(0,lk s.env 75)]=_;rw[show lk s.env 75=_ from q];rfl) (fun el h=>by simp at h;subst h;rfl) rfl (nA rfl)).names fun m hm=>by subst hm;omega) rfl ?_;have hnx:=hS.nx;have old':∀ m,m<base->AHeap.get ((s.nx,some (Blk.arr 1 [[AV.d (iD n)]]))::s.heap) m=s.heap.get m:=fun m hm=>ai _ _ qad;refine⟨fun t x hm=>?_,fun m bl hm=>(old' m (hhs _ hm).2).trans (hS.ho m bl hm),by show base<=s.nx+1;omega,fun hl=>?_,fun hl=>?_,fun _ _=>⟨s.nx,hnx,by show s.nx<s.nx+1;omega,ba _ _ _,ao _ _ _⟩,fun hl=>?_,fun hl=>?_,fun hl=>?_,fun hl=>?_⟩
   ·have:=hks _ hm;exact(aV _ _ qfc).trans (hS.kp t x hm)
   ·exact(aV _ _ qaj).trans (hS.v0 yu)
   ·exact(aV _ _ qaj).trans (hS.v1 yu)
   ·exact(aV _ _ qaj).trans (hS.v3 yu)
   ·exact(aV _ _ qaj).trans (hS.v4 yu)
   ·exact(old' a17 h17).trans (hS.g0 yu)
   ·exact(old' a17 h17).trans (hS.g1 yu)
  ·obtain⟨X,x1,x2,x3,x4⟩:=hS.v2 (hall ⟨2,.data⟩ (xW (i:=0) rfl) rfl) hL;have dl:∀ m,m<base->AHeap.get (gF [X] s.heap) m=s.heap.get m:=fun m hm=>by
    show AHeap.get (AHeap.del s.heap X) m=_;rw[dD,if_neg qad]
   have hc:=Bd (L:=[X]) (HL:=[(X,some (ap 1 [[iD (n:Int)]]))]) (H:=s.heap) (nx:=s.nx) (k:=fun v H' nx'=>S15 ks hs base a17 old w n R Q (fun j=>if j=3 then true else L j) (({ env:=s.env,heap:=H',nx:=nx' }:St).put (some 77) v)) (Yx n) rfl (ri x4) (K5 (ao X _ []) rfl) ?_
   ·obtain⟨hf,hc⟩:=hc;refine lK (f:=54) (fi:=[]) (ca:=[]) (l:=[.d (iD 1),.sl X 1 0 1 1 true]) rfl rfl hf ?_ rfl hc;show []++[AV.d (iD 1),lk s.env 76]++[]=_;rw[show lk s.env 76=_ from x3];rfl
   ·refine⟨fun t x hm=>?_,fun m bl hm=>(dl m (hhs _ hm).2).trans (hS.ho m bl hm),hS.nx,fun hl=>?_,fun hl=>?_,fun _ h=>(by simp at h),fun _=>ba _ _ _,fun hl=>?_,fun hl=>?_,fun hl=>?_⟩
    ·have:=hks _ hm;exact(aV _ _ qfc).trans (hS.kp t x hm)
    ·exact(aV _ _ qaj).trans (hS.v0 yu)
    ·exact(aV _ _ qaj).trans (hS.v1 yu)
    ·exact(aV _ _ qaj).trans (hS.v4 yu)
    ·exact(dl a17 h17).trans (hS.g0 yu)
    ·exact(dl a17 h17).trans (hS.g1 yu)
  ·have q0:=hS.v0 (hall ⟨0,.data⟩ (xW (i:=0) rfl) rfl);have q3:=hS.v3 (hall ⟨3,.data⟩ (xW (i:=1) rfl) rfl);have hc:=aa (H:=s.heap) (nx:=s.nx) (k:=fun v H' nx'=>S15 ks hs base a17 old w n R Q (fun j=>if j=4 then true else L j) (({ env:=s.env,heap:=H',nx:=nx' }:St).put (some 78) v)) hf ?_
   ·obtain⟨hf,hc⟩:=hc;refine lK (f:=44) (fi:=[]) (ca:=[]) (l:=[cf w R false,(xG n).d].map .d) rfl rfl hf ?_ rfl hc;show []++[lk s.env 74,lk s.env 77]++[]=_;rw[show lk s.env 74=_ from q0,show lk s.env 77=_ from q3];rfl
   ·exact put hS (i:=4) (d:=78) qaj qaj hL (fun h=>absurd h qaj) qaj (fun h=>absurd h qaj) qaj qaj qaj qaj qaj (fun _=>⟨rfl,rfl⟩) qaj
  ·have q4:=hS.v4 (hall ⟨4,.data⟩ (xW (i:=0) rfl) rfl);subst hold;refine gm (k:=0) (fun c hc=>by cases hc) ((mU (x:=.tmp 17) (y:=.tmp 78) (nm:=a17) (sz:=2) (idx:=0) (off:=0) (v:=.d (cf w Q false)) rfl T29.1 (hS.kp _ _ k17) q4 (hS.g0 hL) rfl rfl rfl rfl (nA rfl)).names fun _ h=>h.elim) rfl ?_;refine⟨hS.kp,fun m bl hm=>(ai _ _ (hhs _ hm).1).trans (hS.ho m bl hm),hS.nx,fun hl=>hS.v0 yu,fun hl=>hS.v1 yu,fun hl h3=>?_,fun hl=>hS.v3 yu,fun hl=>hS.v4 yu,fun hl=>(by simp at hl),fun _=>ao _ _ _⟩;obtain⟨X,x1,x2,x3,x4⟩:=hS.v2 yu (by simpa using h3);exact⟨X,x1,x2,x3,(ai _ _ qad).trans x4⟩
 ·intro L s hS hall;exact⟨rfl,hk L s hS (hall 5 qaj)⟩
theorem GR{ops:Array Oper}(hops:ops=Vs)(ks:List (Nat×AV))(hs:List (Nat×Blk))(base a16 a17:Nat){o0 o1:AV}{w n:Nat}{R Q:List Ps}(hks:AllP (fun p=>(p.1<74\/78<p.1)/\p.2.bel base=true) ks)(k16:(16,AV.ptr a16 2 0 0)∈ks)(k17:(17,AV.ptr a17 2 0 0)∈ks)(k1:(1,AV.d (iD n))∈ks)
  (h16:(a16,Blk.arr 2 [[.d (iD w),.d (az R false)]])∈hs) (hhs:AllP (fun p=>(p.1≠a17/\p.1<base)/\p.2.Below base) hs) (h17:a17<base) (hf:PC Pr GG 44 [cf w R false,(xG n).d] (cf w Q false)) {e:List (Nat×AV)} {H:AHeap} {nx:Nat} (hnx:base<=nx)
  (he:AllP (fun p=>lk e p.1=p.2) ks) (hH:AllP (fun p=>H.get p.1=some p.2) hs) (h0:H.get a17=some (.arr 2 [[o0,o1]])) {k:Exit->St->Prop}
  (hk:k .normal ⟨ks,(a17,some (.arr 2 [[.d (iD w),.d (az Q false)]]))::hs.map (fun p=>(p.1,some p.2)),base⟩):Q0 Pr GG Tryz.f6.ntmps 0 [] 15 ops ⟨e,H,nx⟩ k:=by
 subst hops;refine reg15 (base:=base) ks hs rfl (fun p hp=>(AllP.mem hks p hp).1) k16 k17 k1 h16 (fun p hp=>(AllP.mem hhs p hp).1) h17 hf ⟨fun t v hm=>AllP.mem he _ hm,fun m bl hm=>AllP.mem hH _ hm,hnx,fun h=>(by cases h),fun h=>(by cases h),fun h=>(by cases h),fun h=>(by cases h),fun h=>(by cases h),fun _=>h0,fun h=>(by cases h)⟩ ?_;intro L s' hS hL;refine⟨_,ah (dW _) ?_ ?_ trivial,hk⟩
 ·exact qG fun p hp=>⟨hS.kp _ _ hp,(AllP.mem hks p hp).2⟩
 ·refine⟨⟨h17,_,rfl,hS.g1 hL,ay rfl⟩,qG fun p hp=>?_⟩;obtain⟨q,hq,rfl⟩:=bm.1 hp;have:=(AllP.mem hhs q hq)
  exact⟨this.1.2,_,rfl,hS.ho _ _ hq,this.2⟩
end Go.Tz
namespace Go.Tz
open Go Go.AL Go.Proofs Go.Ma
theorem nj:aq Tryz.f6=true:=ar
theorem lU(w:Nat)(wa:List Int)(b:Int)(l:List Ps)(gs:List Gt):cr w wa b l (gs.map Gt.own)=cr w wa b l gs:=by
 unfold cr;rw[List.foldl_map];rfl
theorem Mg(w:Nat)(wa:List Int)(b:Int)(l:List Ps)(gs:List Gt)(i:Nat)(g:Gt):jy w wa b l (gs.map Gt.own) i g.own=jy w wa b l gs i g:=by
 unfold jy;rw[<- E0,lU];rfl
theorem oL(w:Nat)(l:List Ps)(cw b:Int)(gs:List Gt)(wa:List Int):ln w l cw b (gs.map Gt.own) wa=ln w l cw b gs wa:=by
 unfold ln;have e1:(gs.map Gt.own).all vv=gs.all vv:=by rw[List.all_map];rfl
 have e2:(gs.map Gt.own).countP mB=gs.countP mB:=by rw[List.countP_map];rfl
 have e3:((List.range (gs.map Gt.own).length).any fun j=>jy w wa b l (gs.map Gt.own) j ((gs.map Gt.own).getD j ⟨0,[],true,0,0⟩))=((List.range gs.length).any fun j=>jy w wa b l gs j (gs.getD j ⟨0,[],true,0,0⟩)):=by
  rw[ef];rw[tV,yF,yF];have key:∀ j,j∈List.range gs.length->jy w wa b l (gs.map Gt.own) j ((gs.map Gt.own).getD j ⟨0,[],true,0,0⟩)=jy w wa b l gs j (gs.getD j ⟨0,[],true,0,0⟩):=fun j hj=>by
   have hj:=cJ.1 hj;rw[jI,jI,mV,ew hj];exact Mg w wa b l gs j _
  exact⟨fun⟨j,h1,h2⟩=>⟨j,h1,by rw[<- key j h1];exact h2⟩,fun⟨j,h1,h2⟩=>⟨j,h1,by rw[key j h1];exact h2⟩⟩
 rw[e1,e2,e3]
theorem om{w b:Nat}{l:List Ps}{gs:List Gt}{wa:List Int}(hs:SOk w l)(hC:dm w b gs=0)(h:ln w l w b gs wa=0):(cr w wa b l gs).r.length=w/\(cr w wa b l gs).bs.length=b:=by
 have h1:gs.all vv=true:=by
  cases q:gs.all vv with
  | true=>rfl
  | false=>rw[F1 (.inr q)]at h;cases h
 have h2:wa.length=gs.countP mB:=by
  rcases Nat.decEq wa.length (gs.countP mB) with q|q
  ·rw[al2 h1 q]at h;cases h
  ·exact q
 have h3:wa.all (fun x=>!cV x 0 1)=true:=by
  cases q:wa.all (fun x=>!cV x 0 1) with
  | true=>rfl
  | false=>rw[al3 h1 h2 q]at h;cases h
 have hA:=OG hC h1 h2 h3;have h4:∀ j (hj:j<gs.length),j<gs.length->jy w wa b l gs j gs[j]=false:=fun j hj _=>by
  cases q:jy w wa b l gs j gs[j] with
  | false=>rfl
  | true=>rw[al6 h1 h2 h3 hj q]at h;cases h
 have hI:=ol hA hs gs.length (cF _) h4;rw[pS]at hI;exact⟨hI.ok.len,by have:=hI.bl;omega⟩
set_option maxHeartbeats 8000000 in
set_option maxRecDepth 100000 in
theorem Gj(w:Int)(l:List Ps)(t:Bool)(n o cw cb:Int)(gs:List Gt)(ct:Bool)(wa:List Int)(u:Bool)(h1:l.length<=20)(h2:jm gs=false)(h3:wa.length<=130):PC Pr GG 6 [cf w l t,iD n,iD o,ei cw cb gs ct,aP wa u] (.bool true):=by
 have hgs:gs.length<=130 /\ ∀ g,g∈gs->g.ws.length<=6:=by
  unfold jm at h2;rw[wdt]at h2;exact⟨by simpa using h2.1,fun g hg=>by have:=BX.1 h2.2 g hg;simpa using this⟩
 have hgw:∀ g,g∈gs->g.ws.length<=1000:=fun g hg=>by have:=hgs.2 g hg;omega
 have hgw':∀ g,g∈gs.map Gt.own->g.ws.length<=1000:=fun g hg=>by
  obtain⟨x,hx,rfl⟩:=bm.1 hg;exact hgw x hx
 have hgl:gs.length<=1000:=qad;have hgl':(gs.map Gt.own).length<=1000:=by rw[ef];exact hgl
 have hwl:wa.length<=1000:=qad;have c39:=vr (G:=GG) cw cb gs ct;rw[h2]at c39;have c16:=DN (G:=GG) w l t qad;have c18:=lW (G:=GG) w l t qad;have c17:=oq (G:=GG) w l false qad;have c40:=Vv (G:=GG) cw cb gs ct hgl hgw;have c24:=zY (G:=GG) wa u qad;have c52:=zW (G:=GG) cw cb gs ct hgl hgw;have c23:=xE (G:=GG) w w l l false t qad;rw[decide_eq_true ⟨rfl,rfl⟩]at c23;have c50:=PM (G:=GG) cw cb gs ct false hgl hgw;have c38:=jB (G:=GG) wa false u qad;have c38n:=jB (G:=GG) [] true true qaj;have s20:¬((l.map Ps.l).length:Int)>20:=qga;have s130:¬((wa.map fun k=>[iD k]).length:Int)>130:=qga;by_cases hc:bD w l=0
 ·obtain⟨W,rfl,hs⟩:=jT hc;have hlen:=hs.len;have hlo:=hs.lo;rw[hc]at c17;by_cases hN:n<0\/n>=W
  ·have hf:fE W l n o=1:=by unfold fE;rw[if_neg (fun q=>q hc),if_pos hN]
   have c56:=mC (oY (w:=W) (n:=n) (o:=o) (l:=l) qgo false false qad);have c57:=rS (oY (w:=W) (n:=n) (o:=o) (l:=l) qgo false true qad);rw[hf]at c56 c57;clear hf;by_cases hC:dm cw cb gs=0
   ·by_cases hE:ln W l cw cb gs wa=0
    ·skip;obtain⟨B,rfl⟩:∃ B:Nat,cb=B:=⟨cb.toNat,by have:=(cj hC).2.1;omega⟩
     have c55:=iC hs cw gs wa ct false u hC hwl;rw[hC]at c52;obtain rfl:cw=W:=by
      rcases Int.decEq cw W with q|q
      ·exact qda
      ·exact q
     have c58:=qH hs W (gs.map Gt.own) wa false false false Ej hgw' hwl QT;rw[lU]at c58;obtain⟨hlA,hlB⟩:=om hs hC hE;have eR:Cp W l W B gs wa = .tup [cf W (cr W wa B l gs).r false,aP (cr W wa B l gs).bs true,iD (cr W wa B l gs).c,iD 0]:=qd7;rw[eR]at c55;generalize cr W wa B l gs=S at c55 c58 hlA hlB;obtain⟨A,bs,cA,kA,fA⟩:=S;dsimp only at c55 c58 hlA hlB;have hrB:∀ ρ:Nat->Nat,some (Blk.ren ρ (ap 1 (fN bs)))=some (ap 1 (fN bs)):=fun ρ=>by rw[aE]
     have c38b:=jB (G:=GG) bs true true qdj;have htA:=bz (G:=GG) W A true qad qad;have h27A:=bP (G:=GG) W W A A false false qad;rw[decide_eq_true ⟨rfl,rfl⟩]at h27A;rw[hlA]at htA;have hrA:∀ ρ:Nat->Nat,some (Blk.ren ρ (ap 4 (A.map Ps.l)))=some (ap 4 (A.map Ps.l)):=fun ρ=>by rw[aE]
     refine ae pok Tryz.func6 nj ?_;conv=>whnf
     repeat' first|((first|refine O6.mk _ qcr ?_|refine O8.mk _ aK ?_|refine aJ qcz ?_|refine cy s20 ?_|refine cy s130 ?_|refine aa c39 ?_|refine ab c16 ?_|refine ab c40 ?_|refine ab c24 ?_|refine aa c18 ?_|refine ab c18 ?_|refine aa c17 ?_|refine aa c52 ?_|refine im ?_|refine aQ ?_|refine aa c56 ?_|refine aa c57 ?_|refine bF (a:=1) (b:=0) rfl ?_|refine aY c58 ?_|refine ab c55 ?_|refine aa (aX _) ?_|refine aH (aM rfl rfl (hrA _)) ?_|refine aZ htA ?_|refine ab h27A ?_|rw[aW]|refine P5.mk _ rfl ?_|refine aB pok Tryz.func37 dj ?_|refine gP c38b (fR (hrB _) qgp) (.d _) rfl ?_|refine aa c23 ?_|refine aa c50 ?_|refine aa c38 ?_|refine aa av ?_|refine HpP.force ?_);conv=>whnf)|(intro t ht;cases t<;>conv=>whnf)
     all_goals first|exact fin rfl|(exfalso;simp at ht;done)|(exfalso;simp at *;omega)|(exfalso;simp_all;done)
    ·skip;obtain⟨B,rfl⟩:∃ B:Nat,cb=B:=⟨cb.toNat,by have:=(cj hC).2.1;omega⟩
     have c55:=iC hs cw gs wa ct false u hC hwl;rw[hC]at c52;have c58:=nI hs cw (gs.map Gt.own) wa false false false Ej hgw' hwl QT;rw[oL]at c58;have eR:Cp W l cw B gs wa=QP (ln W l cw B gs wa):=qd6;rw[eR]at c55;generalize ln W l cw B gs wa=eE at c55 c58 hE;refine ae pok Tryz.func6 nj ?_;conv=>whnf
     repeat' first|((first|refine O6.mk _ rfl ?_|refine O8.mk _ aK ?_|refine aJ VE ?_|refine cy s20 ?_|refine cy s130 ?_|refine aa c39 ?_|refine ab c16 ?_|refine ab c40 ?_|refine ab c24 ?_|refine aa c18 ?_|refine ab c18 ?_|refine aa c17 ?_|refine aa c52 ?_|refine im ?_|refine aQ ?_|refine aa c56 ?_|refine aa c57 ?_|refine aa c58 ?_|refine ab c55 ?_|refine aa (aX _) ?_|refine aa c38n ?_|refine aa c23 ?_|refine aa c50 ?_|refine aa c38 ?_|refine aa av ?_|refine HpP.force ?_);conv=>whnf)|(intro t ht;cases t<;>conv=>whnf)
     all_goals first|exact fin rfl|(exfalso;simp at ht;done)|(exfalso;simp at *;omega)|(exfalso;simp_all;done)
   ·skip;have c58:=lq cw cb (gs.map Gt.own) W l wa false false false hgl' hgw' Ej;rw[iQ]at c58;generalize dm cw cb gs=eC at c52 c58 hC;refine ae pok Tryz.func6 nj ?_;conv=>whnf
    repeat' first|((first|refine O6.mk _ rfl ?_|refine O8.mk _ aK ?_|refine aJ VE ?_|refine cy s20 ?_|refine cy s130 ?_|refine aa c39 ?_|refine ab c16 ?_|refine ab c40 ?_|refine ab c24 ?_|refine aa c18 ?_|refine aa c17 ?_|refine aa c52 ?_|refine im ?_|refine eh hC ?_|refine aQ ?_|refine aa c56 ?_|refine aa c57 ?_|refine aa c58 ?_|refine aa (aX _) ?_|refine aa c38n ?_|refine aa c23 ?_|refine aa c50 ?_|refine aa c38 ?_|refine aa av ?_|refine HpP.force ?_);conv=>whnf)|(intro t ht;cases t<;>conv=>whnf)
    all_goals first|exact fin rfl|(exfalso;simp at ht;done)|(exfalso;simp at *;omega)|(exfalso;simp_all;done)
  ·obtain⟨N,rfl,hnW⟩:∃ N:Nat,n=N/\N<W:=⟨n.toNat,by omega,by omega⟩
   have hn0:¬(N:Int)<0:=qad;have hn1:¬(N:Int)>=W:=qad;by_cases hO:o<0\/o>1
   ·have hf:fE W l N o=3:=by unfold fE;rw[if_neg (fun q=>q hc),if_neg hN,if_pos hO]
    have c56:=mC (oY (w:=W) (n:=N) (o:=o) (l:=l) qgo false false qad);have c57:=rS (oY (w:=W) (n:=N) (o:=o) (l:=l) qgo false true qad);rw[hf]at c56 c57;clear hf;have ho0:o≠0:=qad;have ho1:o≠1:=qad;by_cases hC:dm cw cb gs=0
    ·by_cases hE:ln W l cw cb gs wa=0
     ·skip;obtain⟨B,rfl⟩:∃ B:Nat,cb=B:=⟨cb.toNat,by have:=(cj hC).2.1;omega⟩
      have c55:=iC hs cw gs wa ct false u hC hwl;rw[hC]at c52;obtain rfl:cw=W:=by
       rcases Int.decEq cw W with q|q
       ·exact qda
       ·exact q
      have c58:=qH hs W (gs.map Gt.own) wa false false false Ej hgw' hwl QT;rw[lU]at c58;obtain⟨hlA,hlB⟩:=om hs hC hE;have eR:Cp W l W B gs wa = .tup [cf W (cr W wa B l gs).r false,aP (cr W wa B l gs).bs true,iD (cr W wa B l gs).c,iD 0]:=qd7;rw[eR]at c55;generalize cr W wa B l gs=S at c55 c58 hlA hlB;obtain⟨A,bs,cA,kA,fA⟩:=S;dsimp only at c55 c58 hlA hlB;have hrB:∀ ρ:Nat->Nat,some (Blk.ren ρ (ap 1 (fN bs)))=some (ap 1 (fN bs)):=fun ρ=>by rw[aE]
      have c38b:=jB (G:=GG) bs true true qdj;have htA:=bz (G:=GG) W A true qad qad;have h27A:=bP (G:=GG) W W A A false false qad;rw[decide_eq_true ⟨rfl,rfl⟩]at h27A;rw[hlA]at htA;have hrA:∀ ρ:Nat->Nat,some (Blk.ren ρ (ap 4 (A.map Ps.l)))=some (ap 4 (A.map Ps.l)):=fun ρ=>by rw[aE]
      refine ae pok Tryz.func6 nj ?_;conv=>whnf
      repeat' first|((first|refine O6.mk _ qcr ?_|refine O8.mk _ aK ?_|refine aJ qcz ?_|refine cy s20 ?_|refine cy s130 ?_|refine aa c39 ?_|refine ab c16 ?_|refine ab c40 ?_|refine ab c24 ?_|refine aa c18 ?_|refine ab c18 ?_|refine aa c17 ?_|refine aa c52 ?_|refine im ?_|refine cy hn0 ?_|refine cy hn1 ?_|refine mj ho0 ?_|refine mj ho1 ?_|refine aQ ?_|refine aa c56 ?_|refine aa c57 ?_|refine aY c58 ?_|refine ab c55 ?_|refine aa (aX _) ?_|refine aH (aM rfl rfl (hrA _)) ?_|refine aZ htA ?_|refine ab h27A ?_|rw[aW]|refine P5.mk _ rfl ?_|refine aB pok Tryz.func37 dj ?_|refine gP c38b (fR (hrB _) qgp) (.d _) rfl ?_|refine aa c23 ?_|refine aa c50 ?_|refine aa c38 ?_|refine aa av ?_|refine HpP.force ?_);conv=>whnf)
      all_goals first|exact fin rfl|(exfalso;simp at ht;done)|(exfalso;simp at *;omega)|(exfalso;simp_all;done)
     ·skip;obtain⟨B,rfl⟩:∃ B:Nat,cb=B:=⟨cb.toNat,by have:=(cj hC).2.1;omega⟩
      have c55:=iC hs cw gs wa ct false u hC hwl;rw[hC]at c52;have c58:=nI hs cw (gs.map Gt.own) wa false false false Ej hgw' hwl QT;rw[oL]at c58;have eR:Cp W l cw B gs wa=QP (ln W l cw B gs wa):=qd6;rw[eR]at c55;generalize ln W l cw B gs wa=eE at c55 c58 hE;refine ae pok Tryz.func6 nj ?_;conv=>whnf
      repeat' first|((first|refine O6.mk _ rfl ?_|refine O8.mk _ aK ?_|refine aJ VE ?_|refine cy s20 ?_|refine cy s130 ?_|refine aa c39 ?_|refine ab c16 ?_|refine ab c40 ?_|refine ab c24 ?_|refine aa c18 ?_|refine ab c18 ?_|refine aa c17 ?_|refine aa c52 ?_|refine im ?_|refine cy hn0 ?_|refine cy hn1 ?_|refine mj ho0 ?_|refine mj ho1 ?_|refine aQ ?_|refine aa c56 ?_|refine aa c57 ?_|refine aa c58 ?_|refine ab c55 ?_|refine aa (aX _) ?_|refine aa c38n ?_|refine aa c23 ?_|refine aa c50 ?_|refine aa c38 ?_|refine aa av ?_|refine HpP.force ?_);conv=>whnf)
      all_goals first|exact fin rfl|(exfalso;simp at ht;done)|(exfalso;simp at *;omega)|(exfalso;simp_all;done)
    ·skip;have c58:=lq cw cb (gs.map Gt.own) W l wa false false false hgl' hgw' Ej;rw[iQ]at c58;generalize dm cw cb gs=eC at c52 c58 hC;refine ae pok Tryz.func6 nj ?_;conv=>whnf
     repeat' first|((first|refine O6.mk _ rfl ?_|refine O8.mk _ aK ?_|refine aJ VE ?_|refine cy s20 ?_|refine cy s130 ?_|refine aa c39 ?_|refine ab c16 ?_|refine ab c40 ?_|refine ab c24 ?_|refine aa c18 ?_|refine aa c17 ?_|refine aa c52 ?_|refine im ?_|refine cy hn0 ?_|refine cy hn1 ?_|refine mj ho0 ?_|refine mj ho1 ?_|refine eh hC ?_|refine aQ ?_|refine aa c56 ?_|refine aa c57 ?_|refine aa c58 ?_|refine aa (aX _) ?_|refine aa c38n ?_|refine aa c23 ?_|refine aa c50 ?_|refine aa c38 ?_|refine aa av ?_|refine HpP.force ?_);conv=>whnf)
     all_goals first|exact fin rfl|(exfalso;simp at ht;done)|(exfalso;simp at *;omega)|(exfalso;simp_all;done)
   ·obtain⟨Q,rfl,hQ⟩:∃ Q:Nat,o=Q/\Q<=1:=⟨o.toNat,by omega,by omega⟩
    by_cases hx:cI W l (zP W N Q) = -1
    ·obtain⟨c56,c57,c53⟩:=mR_no hs hnW hQ hx false;rcases (by omega:Q=0\/Q=1) with rfl|rfl
     all_goals
      by_cases hC:dm cw cb gs=0
      ·by_cases hE:ln W l cw cb gs wa=0
       ·skip;obtain⟨B,rfl⟩:∃ B:Nat,cb=B:=⟨cb.toNat,by have:=(cj hC).2.1;omega⟩
        have c55:=iC hs cw gs wa ct false u hC hwl;rw[hC]at c52;obtain rfl:cw=W:=by
         rcases Int.decEq cw W with q|q
         ·exact qda
         ·exact q
        have c58:=qH hs W (gs.map Gt.own) wa false false false Ej hgw' hwl QT;rw[lU]at c58;obtain⟨hlA,hlB⟩:=om hs hC hE;have eR:Cp W l W B gs wa = .tup [cf W (cr W wa B l gs).r false,aP (cr W wa B l gs).bs true,iD (cr W wa B l gs).c,iD 0]:=qd7;rw[eR]at c55;generalize cr W wa B l gs=S at c55 c58 hlA hlB;obtain⟨A,bs,cA,kA,fA⟩:=S;dsimp only at c55 c58 hlA hlB;have hrB:∀ ρ:Nat->Nat,some (Blk.ren ρ (ap 1 (fN bs)))=some (ap 1 (fN bs)):=fun ρ=>by rw[aE]
        have c38b:=jB (G:=GG) bs true true qdj;have htA:=bz (G:=GG) W A true qad qad;have h27A:=bP (G:=GG) W W A A false false qad;rw[decide_eq_true ⟨rfl,rfl⟩]at h27A;rw[hlA]at htA;have hrA:∀ ρ:Nat->Nat,some (Blk.ren ρ (ap 4 (A.map Ps.l)))=some (ap 4 (A.map Ps.l)):=fun ρ=>by rw[aE]
        refine ae pok Tryz.func6 nj ?_;conv=>whnf
        repeat' first|((first|refine O6.mk _ qcr ?_|refine O8.mk _ aK ?_|refine aJ qcz ?_|refine cy s20 ?_|refine cy s130 ?_|refine aa c39 ?_|refine ab c16 ?_|refine ab c40 ?_|refine ab c24 ?_|refine aa c18 ?_|refine ab c18 ?_|refine aa c17 ?_|refine aa c52 ?_|refine im ?_|refine cy hn0 ?_|refine cy hn1 ?_|refine aQ ?_|refine aa c56 ?_|refine aa c57 ?_|refine aa c53 ?_|refine aY c58 ?_|refine ab c55 ?_|refine aa (aX _) ?_|refine aH (aM rfl rfl (hrA _)) ?_|refine aZ htA ?_|refine ab h27A ?_|rw[aW]|refine P5.mk _ rfl ?_|refine aB pok Tryz.func37 dj ?_|refine gP c38b (fR (hrB _) qgp) (.d _) rfl ?_|refine aa c23 ?_|refine aa c50 ?_|refine aa c38 ?_|refine aa av ?_|refine HpP.force ?_);conv=>whnf)|(intro t ht;cases t<;>conv=>whnf)
        all_goals first|exact fin rfl|(exfalso;simp at ht;done)|(exfalso;simp at *;omega)|(exfalso;simp_all;done)
       ·skip;obtain⟨B,rfl⟩:∃ B:Nat,cb=B:=⟨cb.toNat,by have:=(cj hC).2.1;omega⟩
        have c55:=iC hs cw gs wa ct false u hC hwl;rw[hC]at c52;have c58:=nI hs cw (gs.map Gt.own) wa false false false Ej hgw' hwl QT;rw[oL]at c58;have eR:Cp W l cw B gs wa=QP (ln W l cw B gs wa):=qd6;rw[eR]at c55;generalize ln W l cw B gs wa=eE at c55 c58 hE;refine ae pok Tryz.func6 nj ?_;conv=>whnf
        repeat' first|((first|refine O6.mk _ rfl ?_|refine O8.mk _ aK ?_|refine aJ VE ?_|refine cy s20 ?_|refine cy s130 ?_|refine aa c39 ?_|refine ab c16 ?_|refine ab c40 ?_|refine ab c24 ?_|refine aa c18 ?_|refine ab c18 ?_|refine aa c17 ?_|refine aa c52 ?_|refine im ?_|refine cy hn0 ?_|refine cy hn1 ?_|refine aQ ?_|refine aa c56 ?_|refine aa c57 ?_|refine aa c53 ?_|refine aa c58 ?_|refine ab c55 ?_|refine aa (aX _) ?_|refine aa c38n ?_|refine aa c23 ?_|refine aa c50 ?_|refine aa c38 ?_|refine aa av ?_|refine HpP.force ?_);conv=>whnf)|(intro t ht;cases t<;>conv=>whnf)
        all_goals first|exact fin rfl|(exfalso;simp at ht;done)|(exfalso;simp at *;omega)|(exfalso;simp_all;done)
      ·skip;have c58:=lq cw cb (gs.map Gt.own) W l wa false false false hgl' hgw' Ej;rw[iQ]at c58;generalize dm cw cb gs=eC at c52 c58 hC;refine ae pok Tryz.func6 nj ?_;conv=>whnf
       repeat' first|((first|refine O6.mk _ rfl ?_|refine O8.mk _ aK ?_|refine aJ VE ?_|refine cy s20 ?_|refine cy s130 ?_|refine aa c39 ?_|refine ab c16 ?_|refine ab c40 ?_|refine ab c24 ?_|refine aa c18 ?_|refine aa c17 ?_|refine aa c52 ?_|refine im ?_|refine cy hn0 ?_|refine cy hn1 ?_|refine eh hC ?_|refine aQ ?_|refine aa c56 ?_|refine aa c57 ?_|refine aa c53 ?_|refine aa c58 ?_|refine aa (aX _) ?_|refine aa c38n ?_|refine aa c23 ?_|refine aa c50 ?_|refine aa c38 ?_|refine aa av ?_|refine HpP.force ?_);conv=>whnf)|(intro t ht;cases t<;>conv=>whnf)
       all_goals first|exact fin rfl|(exfalso;simp at ht;done)|(exfalso;simp at *;omega)|(exfalso;simp_all;done)
    ·obtain⟨hsR,c56,c57,c53⟩:=mR_ok hs hnW hQ hx false;have hlR:=hsR.len;rcases (by omega:Q=0\/Q=1) with rfl|rfl
     ·rw[if_neg qaj]at c57;generalize mR W N 0 l=R at c56 c57 c53 hlR hsR;generalize mN W N 0 l=mc at c56 c57 c53;have htR:=bz (G:=GG) W R true qad qad;have h27R:=bP (G:=GG) W W R R false false qad;rw[decide_eq_true ⟨rfl,rfl⟩]at h27R;rw[hlR]at htR;have hrR:∀ ρ:Nat->Nat,some (Blk.ren ρ (ap 4 (R.map Ps.l)))=some (ap 4 (R.map Ps.l)):=fun ρ=>by rw[aE]
      by_cases hC:dm cw cb gs=0
      ·by_cases hE:ln W l cw cb gs wa=0
       ·skip;obtain⟨B,rfl⟩:∃ B:Nat,cb=B:=⟨cb.toNat,by have:=(cj hC).2.1;omega⟩
        have c55:=iC hs cw gs wa ct false u hC hwl;rw[hC]at c52;obtain rfl:cw=W:=by
         rcases Int.decEq cw W with q|q
         ·exact qda
         ·exact q
        have c58:=qH hs W (gs.map Gt.own) wa false false false Ej hgw' hwl QT;rw[lU]at c58;obtain⟨hlA,hlB⟩:=om hs hC hE;have eR:Cp W l W B gs wa = .tup [cf W (cr W wa B l gs).r false,aP (cr W wa B l gs).bs true,iD (cr W wa B l gs).c,iD 0]:=qd7;rw[eR]at c55;generalize cr W wa B l gs=S at c55 c58 hlA hlB;obtain⟨A,bs,cA,kA,fA⟩:=S;dsimp only at c55 c58 hlA hlB;have hrB:∀ ρ:Nat->Nat,some (Blk.ren ρ (ap 1 (fN bs)))=some (ap 1 (fN bs)):=fun ρ=>by rw[aE]
        have c38b:=jB (G:=GG) bs true true qdj;have htA:=bz (G:=GG) W A true qad qad;have h27A:=bP (G:=GG) W W A A false false qad;rw[decide_eq_true ⟨rfl,rfl⟩]at h27A;rw[hlA]at htA;have hrA:∀ ρ:Nat->Nat,some (Blk.ren ρ (ap 4 (A.map Ps.l)))=some (ap 4 (A.map Ps.l)):=fun ρ=>by rw[aE]
        refine ae pok Tryz.func6 nj ?_;conv=>whnf
        repeat' first|((first|refine O6.mk _ (by first|rfl|exact kG (hrR _) (by simp[hlR])|exact ja (hrR _) (by simp[hlR])|exact kG (hrA _) (by simp[hlA])|exact ja (hrA _) (by simp[hlA])) ?_|refine O8.mk _ aK ?_|refine aJ (by first|(simp[hlR,hlA];done)|assumption|exact⟨by kernel_rfl,rfl⟩|decide|omega) ?_|refine cy s20 ?_|refine cy s130 ?_|refine aa c39 ?_|refine ab c16 ?_|refine ab c40 ?_|refine ab c24 ?_|refine aa c18 ?_|refine ab c18 ?_|refine aa c17 ?_|refine aa c52 ?_|refine im ?_|refine cy hn0 ?_|refine cy hn1 ?_|refine aQ ?_|refine aY c56 ?_|refine aY c57 ?_|refine aa c53 ?_|refine aY c58 ?_|refine ab c55 ?_|refine aH (aM rfl rfl (hrR _)) ?_|refine aH (aM rfl rfl (hrA _)) ?_|refine aZ htR ?_|refine aZ htA ?_|refine ab h27R ?_|refine ab h27A ?_|rw[aW]|refine P5.mk _ rfl ?_|refine aB pok Tryz.func37 dj ?_|refine gP c38b (fR (hrB _) qgp) (.d _) rfl ?_|refine aa c23 ?_|refine aa c50 ?_|refine aa c38 ?_|refine aa av ?_|refine HpP.force ?_);conv=>whnf)
        all_goals first|exact fin rfl|(exfalso;simp at ht;done)|(exfalso;simp at *;omega)|(exfalso;simp_all;done)
       ·skip;obtain⟨B,rfl⟩:∃ B:Nat,cb=B:=⟨cb.toNat,by have:=(cj hC).2.1;omega⟩
        have c55:=iC hs cw gs wa ct false u hC hwl;rw[hC]at c52;have c58:=nI hs cw (gs.map Gt.own) wa false false false Ej hgw' hwl QT;rw[oL]at c58;have eR:Cp W l cw B gs wa=QP (ln W l cw B gs wa):=qd6;rw[eR]at c55;generalize ln W l cw B gs wa=eE at c55 c58 hE;refine ae pok Tryz.func6 nj ?_;conv=>whnf
        repeat' first|((first|refine O6.mk _ qfi ?_|refine O8.mk _ aK ?_|refine aJ qgt ?_|refine cy s20 ?_|refine cy s130 ?_|refine aa c39 ?_|refine ab c16 ?_|refine ab c40 ?_|refine ab c24 ?_|refine aa c18 ?_|refine ab c18 ?_|refine aa c17 ?_|refine aa c52 ?_|refine im ?_|refine cy hn0 ?_|refine cy hn1 ?_|refine aQ ?_|refine aY c56 ?_|refine aY c57 ?_|refine aa c53 ?_|refine aa c58 ?_|refine ab c55 ?_|refine aa (aX _) ?_|refine aH (aM rfl rfl (hrR _)) ?_|refine aZ htR ?_|refine ab h27R ?_|rw[aW]|refine P5.mk _ rfl ?_|refine aB pok Tryz.func37 dj ?_|refine aa c38n ?_|refine aa c23 ?_|refine aa c50 ?_|refine aa c38 ?_|refine aa av ?_|refine HpP.force ?_);conv=>whnf)
        all_goals first|exact fin rfl|(exfalso;simp at ht;done)|(exfalso;simp at *;omega)|(exfalso;simp_all;done)
      ·skip;have c58:=lq cw cb (gs.map Gt.own) W l wa false false false hgl' hgw' Ej;rw[iQ]at c58;generalize dm cw cb gs=eC at c52 c58 hC;refine ae pok Tryz.func6 nj ?_;conv=>whnf
       repeat' first|((first|refine O6.mk _ qfi ?_|refine O8.mk _ aK ?_|refine aJ qgt ?_|refine cy s20 ?_|refine cy s130 ?_|refine aa c39 ?_|refine ab c16 ?_|refine ab c40 ?_|refine ab c24 ?_|refine aa c18 ?_|refine aa c17 ?_|refine aa c52 ?_|refine im ?_|refine cy hn0 ?_|refine cy hn1 ?_|refine eh hC ?_|refine aQ ?_|refine aY c56 ?_|refine aY c57 ?_|refine aa c53 ?_|refine aa c58 ?_|refine aa (aX _) ?_|refine aH (aM rfl rfl (hrR _)) ?_|refine aZ htR ?_|refine ab h27R ?_|rw[aW]|refine P5.mk _ rfl ?_|refine aB pok Tryz.func37 dj ?_|refine aa c38n ?_|refine aa c23 ?_|refine aa c50 ?_|refine aa c38 ?_|refine aa av ?_|refine HpP.force ?_);conv=>whnf)
       all_goals first|exact fin rfl|(exfalso;simp at ht;done)|(exfalso;simp at *;omega)|(exfalso;simp_all;done)
     ·rw[if_pos rfl]at c57;have c44:=qJ (G:=GG) ⟨hs.lo,hs.hi⟩ (xG N) (uC hnW).1 (uC hnW).2 (mR W N 1 l) false qad qad hsR.vl;have hlR2:(dF W (xG N) (mR W N 1 l)).length=W:=(vN (uC hnW).1 (uC hnW).2 hsR).len;generalize dF W (xG N) (mR W N 1 l)=R2 at c57 c44 hlR2;generalize mR W N 1 l=R at c56 c57 c53 c44 hlR hsR;generalize mN W N 1 l=mc at c56 c57 c53;have htR:=bz (G:=GG) W R true qad qad;have h27R:=bP (G:=GG) W W R R false false qad;rw[decide_eq_true ⟨rfl,rfl⟩]at h27R;rw[hlR]at htR;have hrR:∀ ρ:Nat->Nat,some (Blk.ren ρ (ap 4 (R.map Ps.l)))=some (ap 4 (R.map Ps.l)):=fun ρ=>by rw[aE]
      have htR2:=bz (G:=GG) W R2 true qad qad;have h27R2:=bP (G:=GG) W W R2 R2 false false qad;rw[decide_eq_true ⟨rfl,rfl⟩]at h27R2;rw[hlR2]at htR2;have hrR2:∀ ρ:Nat->Nat,some (Blk.ren ρ (ap 4 (R2.map Ps.l)))=some (ap 4 (R2.map Ps.l)):=fun ρ=>by rw[aE]
      by_cases hC:dm cw cb gs=0
      ·by_cases hE:ln W l cw cb gs wa=0
       ·skip;obtain⟨B,rfl⟩:∃ B:Nat,cb=B:=⟨cb.toNat,by have:=(cj hC).2.1;omega⟩
        have c55:=iC hs cw gs wa ct false u hC hwl;rw[hC]at c52;obtain rfl:cw=W:=by
         rcases Int.decEq cw W with q|q
         ·exact qda
         ·exact q
        have c58:=qH hs W (gs.map Gt.own) wa false false false Ej hgw' hwl QT;rw[lU]at c58;obtain⟨hlA,hlB⟩:=om hs hC hE;have eR:Cp W l W B gs wa = .tup [cf W (cr W wa B l gs).r false,aP (cr W wa B l gs).bs true,iD (cr W wa B l gs).c,iD 0]:=qd7;rw[eR]at c55;generalize cr W wa B l gs=S at c55 c58 hlA hlB;obtain⟨A,bs,cA,kA,fA⟩:=S;dsimp only at c55 c58 hlA hlB;have hrB:∀ ρ:Nat->Nat,some (Blk.ren ρ (ap 1 (fN bs)))=some (ap 1 (fN bs)):=fun ρ=>by rw[aE]
        have c38b:=jB (G:=GG) bs true true qdj;have htA:=bz (G:=GG) W A true qad qad;have h27A:=bP (G:=GG) W W A A false false qad;rw[decide_eq_true ⟨rfl,rfl⟩]at h27A;rw[hlA]at htA;have hrA:∀ ρ:Nat->Nat,some (Blk.ren ρ (ap 4 (A.map Ps.l)))=some (ap 4 (A.map Ps.l)):=fun ρ=>by rw[aE]
        refine xi pok 15 Tryz.func6 nj ?_;conv=>whnf
        repeat' first|((first|refine O6.mk _ qcd ?_|refine O8.mk _ aK ?_|refine aJ qgs ?_|refine cy s20 ?_|refine cy s130 ?_|refine aa c39 ?_|refine ab c16 ?_|refine ab c40 ?_|refine ab c24 ?_|refine aa c18 ?_|refine aa c17 ?_|refine aa c52 ?_|refine im ?_|refine cy hn0 ?_|refine cy hn1 ?_|refine aQ ?_|refine aa c53 ?_|refine mj (a:=1) (b:=0) qaj ?_|refine HpP.force ?_);conv=>whnf)
        refine GR ar [(1,.d (iD N)),(2,.d (iD 1)),(4,.d (aP wa u)),(5,.ptr 0 2 0 0),(8,.ptr 1 3 0 0),(10,.d (.bool false)),(11,.ptr 2 2 0 0),(12,.ptr 3 3 0 0),(13,.d (aP wa false)),(14,.d (iD 0)),(15,.d (iD 0)),(16,.ptr 4 2 0 0),(17,.ptr 5 2 0 0),(18,.ptr 6 2 0 0),(19,.d (iD mc)),(20,.d (iD 0)),(21,.d (.sl [] true))] [(4,.arr 2 [[.d (iD W),.d (az R false)]]),(0,.arr 2 [[.d (iD W),.d (az l t)]]),(1,.arr 3 [[.d (iD W),.d (iD B),.d (bN gs ct)]]),(2,.arr 2 [[.d (iD W),.d (az l false)]]),(3,.arr 3 [[.d (iD W),.d (iD B),.d (bN (gs.map Gt.own) false)]]),(6,.arr 2 [[.d (iD 0),.d (.sl [] true)]])] 7 4 5 qb2 aR aR aR sF qbz qaj c44 (nA rfl) LC LC rfl ?_;conv=>whnf
        repeat' first|((first|refine O6.mk _ qcd ?_|refine O8.mk _ aK ?_|refine aJ qgs ?_|refine ab c18 ?_|refine aQ ?_|refine aY c56 ?_|refine aY c57 ?_|refine aY c58 ?_|refine ab c55 ?_|refine aH (aM rfl rfl (hrR _)) ?_|refine aH (aM rfl rfl (hrR2 _)) ?_|refine aH (aM rfl rfl (hrA _)) ?_|refine aZ htR ?_|refine aZ htR2 ?_|refine aZ htA ?_|refine ab h27R ?_|refine ab h27R2 ?_|refine ab h27A ?_|rw[aW]|refine P5.mk _ rfl ?_|refine aB pok Tryz.func37 dj ?_|refine gP c38b (fR (hrB _) qgp) (.d _) rfl ?_|refine aa c23 ?_|refine aa c50 ?_|refine aa c38 ?_|refine aa av ?_|refine HpP.force ?_);conv=>whnf)
        all_goals first|exact fin rfl|(exfalso;simp at ht;done)|(exfalso;simp at *;omega)|(exfalso;simp_all;done)
       ·skip;obtain⟨B,rfl⟩:∃ B:Nat,cb=B:=⟨cb.toNat,by have:=(cj hC).2.1;omega⟩
        have c55:=iC hs cw gs wa ct false u hC hwl;rw[hC]at c52;have c58:=nI hs cw (gs.map Gt.own) wa false false false Ej hgw' hwl QT;rw[oL]at c58;have eR:Cp W l cw B gs wa=QP (ln W l cw B gs wa):=qd6;rw[eR]at c55;generalize ln W l cw B gs wa=eE at c55 c58 hE;refine xi pok 15 Tryz.func6 nj ?_;conv=>whnf
        repeat' first|((first|refine O6.mk _ qa8 ?_|refine O8.mk _ aK ?_|refine aJ qb9 ?_|refine cy s20 ?_|refine cy s130 ?_|refine aa c39 ?_|refine ab c16 ?_|refine ab c40 ?_|refine ab c24 ?_|refine aa c18 ?_|refine aa c17 ?_|refine aa c52 ?_|refine im ?_|refine cy hn0 ?_|refine cy hn1 ?_|refine aQ ?_|refine aa c53 ?_|refine mj (a:=1) (b:=0) qaj ?_|refine HpP.force ?_);conv=>whnf)
        refine GR ar [(1,.d (iD N)),(2,.d (iD 1)),(4,.d (aP wa u)),(5,.ptr 0 2 0 0),(8,.ptr 1 3 0 0),(10,.d (.bool false)),(11,.ptr 2 2 0 0),(12,.ptr 3 3 0 0),(13,.d (aP wa false)),(14,.d (iD 0)),(15,.d (iD 0)),(16,.ptr 4 2 0 0),(17,.ptr 5 2 0 0),(18,.ptr 6 2 0 0),(19,.d (iD mc)),(20,.d (iD 0)),(21,.d (.sl [] true))] [(4,.arr 2 [[.d (iD W),.d (az R false)]]),(0,.arr 2 [[.d (iD W),.d (az l t)]]),(1,.arr 3 [[.d (iD cw),.d (iD B),.d (bN gs ct)]]),(2,.arr 2 [[.d (iD W),.d (az l false)]]),(3,.arr 3 [[.d (iD cw),.d (iD B),.d (bN (gs.map Gt.own) false)]]),(6,.arr 2 [[.d (iD 0),.d (.sl [] true)]])] 7 4 5 qb2 aR aR aR sF qbz qaj c44 (nA rfl) LC LC rfl ?_;conv=>whnf
        repeat' first|((first|refine O6.mk _ qa8 ?_|refine O8.mk _ aK ?_|refine aJ qb9 ?_|refine ab c18 ?_|refine aQ ?_|refine aY c56 ?_|refine aY c57 ?_|refine aa c58 ?_|refine ab c55 ?_|refine aa (aX _) ?_|refine aH (aM rfl rfl (hrR _)) ?_|refine aH (aM rfl rfl (hrR2 _)) ?_|refine aZ htR ?_|refine aZ htR2 ?_|refine ab h27R ?_|refine ab h27R2 ?_|rw[aW]|refine P5.mk _ rfl ?_|refine aB pok Tryz.func37 dj ?_|refine aa c38n ?_|refine aa c23 ?_|refine aa c50 ?_|refine aa c38 ?_|refine aa av ?_|refine HpP.force ?_);conv=>whnf)
        all_goals first|exact fin rfl|(exfalso;simp at ht;done)|(exfalso;simp at *;omega)|(exfalso;simp_all;done)
      ·skip;have c58:=lq cw cb (gs.map Gt.own) W l wa false false false hgl' hgw' Ej;rw[iQ]at c58;generalize dm cw cb gs=eC at c52 c58 hC;refine xi pok 15 Tryz.func6 nj ?_;conv=>whnf
       repeat' first|((first|refine O6.mk _ qa8 ?_|refine O8.mk _ aK ?_|refine aJ qb9 ?_|refine cy s20 ?_|refine cy s130 ?_|refine aa c39 ?_|refine ab c16 ?_|refine ab c40 ?_|refine ab c24 ?_|refine aa c18 ?_|refine aa c17 ?_|refine aa c52 ?_|refine im ?_|refine cy hn0 ?_|refine cy hn1 ?_|refine eh hC ?_|refine aQ ?_|refine aa c53 ?_|refine mj (a:=1) (b:=0) qaj ?_|refine HpP.force ?_);conv=>whnf)
       refine GR ar [(1,.d (iD N)),(2,.d (iD 1)),(4,.d (aP wa u)),(5,.ptr 0 2 0 0),(8,.ptr 1 3 0 0),(10,.d (.bool false)),(11,.ptr 2 2 0 0),(12,.ptr 3 3 0 0),(13,.d (aP wa false)),(14,.d (iD 0)),(15,.d (iD eC)),(16,.ptr 4 2 0 0),(17,.ptr 5 2 0 0),(18,.ptr 6 2 0 0),(19,.d (iD mc)),(20,.d (iD 0)),(21,.d (.sl [] true))] [(4,.arr 2 [[.d (iD W),.d (az R false)]]),(0,.arr 2 [[.d (iD W),.d (az l t)]]),(1,.arr 3 [[.d (iD cw),.d (iD cb),.d (bN gs ct)]]),(2,.arr 2 [[.d (iD W),.d (az l false)]]),(3,.arr 3 [[.d (iD cw),.d (iD cb),.d (bN (gs.map Gt.own) false)]]),(6,.arr 2 [[.d (iD 0),.d (.sl [] true)]])] 7 4 5 qb2 aR aR aR sF qbz qaj c44 (nA rfl) LC LC rfl ?_;conv=>whnf
       repeat' first|((first|refine O6.mk _ qa8 ?_|refine O8.mk _ aK ?_|refine aJ qb9 ?_|refine eh hC ?_|refine aQ ?_|refine aY c56 ?_|refine aY c57 ?_|refine aa c58 ?_|refine aa (aX _) ?_|refine aH (aM rfl rfl (hrR _)) ?_|refine aH (aM rfl rfl (hrR2 _)) ?_|refine aZ htR ?_|refine aZ htR2 ?_|refine ab h27R ?_|refine ab h27R2 ?_|rw[aW]|refine P5.mk _ rfl ?_|refine aB pok Tryz.func37 dj ?_|refine aa c38n ?_|refine aa c23 ?_|refine aa c50 ?_|refine aa c38 ?_|refine aa av ?_|refine HpP.force ?_);conv=>whnf)
       all_goals first|exact fin rfl|(exfalso;simp at ht;done)|(exfalso;simp at *;omega)|(exfalso;simp_all;done)
 ·have he:bD w l≠0:=hc;have hf:fE w l n o=bD w l:=by unfold fE;rw[if_pos he]
  have c56:=mC (oY (w:=w) (n:=n) (o:=o) (l:=l) (by rw[hf];exact he) false false qad);have c57:=rS (oY (w:=w) (n:=n) (o:=o) (l:=l) (by rw[hf];exact he) false true qad);rw[hf]at c56 c57;clear hf hc;by_cases hC:dm cw cb gs=0
  ·skip;have c58:=LW cw cb (gs.map Gt.own) w l wa false false false hgl' hgw' Ej qad he;rw[hC]at c52;refine ae pok Tryz.func6 nj ?_;conv=>whnf
   repeat' first|((first|refine O6.mk _ rfl ?_|refine O8.mk _ aK ?_|refine aJ VE ?_|refine cy s20 ?_|refine cy s130 ?_|refine aa c39 ?_|refine ab c16 ?_|refine ab c40 ?_|refine ab c24 ?_|refine aa c18 ?_|refine aa c17 ?_|refine aa c52 ?_|refine mj he ?_|refine eh he ?_|refine aQ ?_|refine aa c56 ?_|refine aa c57 ?_|refine aa c58 ?_|refine aa (aX _) ?_|refine aa c38n ?_|refine aa c23 ?_|refine aa c50 ?_|refine aa c38 ?_|refine aa av ?_|refine HpP.force ?_);conv=>whnf)
   all_goals first|exact fin rfl|(exfalso;simp at ht;done)|(exfalso;simp at *;omega)|(exfalso;simp_all;done)
  ·skip;have c58:=lq cw cb (gs.map Gt.own) w l wa false false false hgl' hgw' Ej;rw[iQ]at c58;generalize dm cw cb gs=eC at c52 c58 hC;refine ae pok Tryz.func6 nj ?_;conv=>whnf
   repeat' first|((first|refine O6.mk _ rfl ?_|refine O8.mk _ aK ?_|refine aJ VE ?_|refine cy s20 ?_|refine cy s130 ?_|refine aa c39 ?_|refine ab c16 ?_|refine ab c40 ?_|refine ab c24 ?_|refine aa c18 ?_|refine aa c17 ?_|refine aa c52 ?_|refine mj he ?_|refine eh hC ?_|refine aQ ?_|refine aa c56 ?_|refine aa c57 ?_|refine aa c58 ?_|refine aa (aX _) ?_|refine aa c38n ?_|refine aa c23 ?_|refine aa c50 ?_|refine aa c38 ?_|refine aa av ?_|refine HpP.force ?_);conv=>whnf)
   all_goals first|exact fin rfl|(exfalso;simp at ht;done)|(exfalso;simp at *;omega)|(exfalso;simp_all;done)
end Go.Tz
namespace Go.Tz
open Go Go.AL Go.Proofs Go.Ma
theorem KC(w:Int)(l:List Ps)(t:Bool)(n o cw cb:Int)(gs:List Gt)(ct:Bool)(wa:List Int)(u:Bool):PC Pr GG 6 [cf w l t,iD n,iD o,ei cw cb gs ct,aP wa u] (.bool true):=by
 by_cases h:l.length<=20/\jm gs=false/\wa.length<=130
 ·exact Gj w l t n o cw cb gs ct wa u h.1 h.2.1 h.2.2
 ·have c39:=vr (G:=GG) cw cb gs ct;generalize jm gs=gr at c39 h;refine ae pok Tryz.func6 nj ?_;conv=>whnf
  repeat' first|(refine O6.mk _ rfl ?_;conv=>whnf)|(refine cc c39 ?_)|(refine aa av ?_;conv=>whnf)|(intro t ht;cases t<;>conv=>whnf)
  all_goals first|exact fin rfl|skip
  all_goals (exfalso;simp at *;simp_all;omega)
end Go.Tz
namespace Go.Tz
open Go Go.AL Go.Proofs Go.Ma
def xv(v:Nat):Nat:=v%4096
def nv(e:E)(b:Nat):Nat:=(e.1+2*(bt e.2 b).toNat)%4
theorem xg{u v:Nat}:∀ k,(∀ i,i<k->u.testBit i=v.testBit i)->jo k u=jo k v
 | 0,_=>rfl
 | k+1,h=>by
  simp only[jo];rw[xg k fun i hi=>h i qad,h k qad]
theorem Mn(a b:Nat):bt a (xv b)=bt a b:=by
 unfold bt;refine xg 12 fun i hi=>?_;rw[Fo,Fo,xv,show 4096=2^12 from rfl,QX];simp[hi]
theorem lj(a b:Nat):xv (a^^^b)=xv a^^^xv b:=by
 unfold xv;rw[show 4096=2^12 from rfl,Nat.xor_mod_two_pow]
theorem tu(e:E)(b:Nat):nv e b<4:=Cm _ qaj
theorem mH(e f:E)(b:Nat):nv (aU e f) b=(nv f b+nv e (b^^^xv f.2))%4:=by
 unfold nv aU;simp only[eF,dM,Mn];cases bt e.2 f.2<;>cases bt e.2 b<;>cases bt f.2 b<;>simp<;>omega
theorem Bg(b:Nat):nv e1 b=0:=by simp[nv,e1,vU]
def oK(L:List E)(k:Nat):Prop:=∀ g,Gen L g->xv g.2=0->nv g k=0
theorem Qb{L:List E}(hL:Good L){k:Nat}(h:oK L k){f g:E}(hf:Gen L f)(hg:Gen L g)(e:xv f.2=xv g.2):nv f k=nv g k:=by
 have hx:xv (aU f g).2=0:=by
  show xv (f.2^^^g.2)=0;rw[lj,e,yE]
 have h0:=h _ (cg hL hf hg) hx;have e2:aU g (aU f g)=f:=by
  rw[dL (lB hL hf hg),<- bx,dn (dv hL hg),eP f (dv hL hf).1]
 have:=mH g (aU f g) k;rw[e2,h0,hx,zF]at this;have h4:=tu g k;rw[this];omega
theorem PY{L:List E}(hL:Good L){k:Nat}(h:oK L k){g:E}(hg:Gen L g):oK L (k^^^xv g.2):=by
 intro f hf hx;have a1:=mH f g k;have a2:=mH g f k;rw[h f hf hx,hx,zF]at a2;rw[dL (lB hL hf hg),a2]at a1;have h4:=tu g k;have h5:=tu f (k^^^xv g.2);omega
theorem IP{L:List E}{g:E}(h:Gen L g):bG (L.map fun a=>xv a.2) (xv g.2)=true:=by
 induction h with
 | one=>exact kM _
 | mul a f ha _ ih =>
  show bG _ (xv (a.2^^^f.2))=true;rw[lj];exact dK _ _ _ (bA _ _ (bm.2 ⟨a,ha,rfl⟩)) ih
theorem Bu{L:List E}{v:Nat}:∀(M:List E),(∀ a,a∈M->a∈L)->bG (M.map fun a=>xv a.2) v=true->∃ g,Gen L g/\xv g.2=v
 | [],_,h=>⟨e1,.one,by simp only[QF,bG,beq_iff_eq]at h;rw[h];rfl⟩
 | a::M,hm,h=>by
  simp only[nB,bG,zG]at h;rcases h with h|h
  ·exact Bu M (fun b hb=>hm b (eJ _ hb)) h
  ·obtain⟨g,h1,h2⟩:=Bu (v:=v^^^xv a.2) M (fun b hb=>hm b (eJ _ hb)) h;refine⟨aU a g,.mul a g (hm a aR) h1,?_⟩;show xv (a.2^^^g.2)=v;rw[lj,h2,Hy v,<- py,yE,Lo]
theorem De:∀(A B:List E),Good (A++B)->(∀ b,b∈B->xv b.2=0)->ub (A.map fun a=>xv a.2)->∀ g,Gen (A++B) g->xv g.2=0->Gen B g
 | [],_,_,_,_,_,hg,_=>hg
 | a::A,B,hG,hB,hi,g,hg,hx=>by
  rw[nB,kc]at hi;rcases nT hG hg with h|⟨f,hf,rfl⟩
  ·exact De A B (vq hG) hB hi.1 g h hx
  ·exfalso;have h1:=IP hf;have h2:xv f.2=xv a.2:=by
    have h3:xv (a.2^^^f.2)=0:=hx;rw[lj]at h3;have h4:=congrArg (fun n=>xv a.2^^^n) h3;simp only[<- py,yE,Lo,zF]at h4;exact h4
   rw[h2]at h1;have h5:=fY _ (A.map fun a=>xv a.2) (fun v hv=>by
    obtain⟨b,hb,rfl⟩:=bm.1 hv;rcases ft.1 hb with hb|hb
    ·exact bA _ _ (bm.2 ⟨b,hb,rfl⟩)
    ·rw[hB b hb];exact kM _) _ h1
   rw[hi.2]at h5;cases h5
theorem Qa{B:List E}{k:Nat}(h:∀ b,b∈B->xv b.2=0/\nv b k=0){g:E}(hg:Gen B g):xv g.2=0/\nv g k=0:=by
 induction hg with
 | one=>exact⟨rfl,Bg k⟩
 | mul a f ha _ ih =>
  refine⟨?_,?_⟩
  ·show xv (a.2^^^f.2)=0;rw[lj,(h a ha).1,ih.1];rfl
  ·rw[mH,ih.1,ih.2,zF,(h a ha).2]
theorem PZ{A B L:List E}(hG:Good (A++B))(hs:∀ g,Gen L g ↔ Gen (A++B) g)(hB:∀ b,b∈B->xv b.2=0)(hi:ub (A.map fun a=>xv a.2))(k:Nat):oK L k ↔ ∀ b,b∈B->nv b k=0:=by
 constructor
 ·intro h b hb;exact h b ((hs b).2 (bC hG (ft.2 (.inr hb)))) (hB b hb)
 ·intro h g hg hx;exact(Qa (fun b hb=>⟨hB b hb,h b hb⟩) (De A B hG hB hi g ((hs g).1 hg) hx)).2
structure Amp (L:List E) (w lst m:Nat) (val:Nat->Option Nat):Prop where
 sup:oK L lst
 lt:lst<2^w
 min:∀ k,k<2^w->oK L k->lst<=k
 has:∀ b p,b<2^w->val b=some p->∃ g,Gen L g/\lst^^^xv g.2=b/\nv g lst=p
 no:∀ b,b<2^w->val b=none->∀ g,Gen L g->lst^^^xv g.2≠b
 rank:∃ A:List Nat,(∀ a,a∈A->a<2^12)/\ub A/\A.length=m /\ ∀ v,bG A v=true ↔ ∃ g,Gen L g/\xv g.2=v
theorem LY{L M:List E}{w a b m n:Nat}{u v:Nat->Option Nat}(hL:Good L)(h:gz L M)(h1:Amp L w a m u)(h2:Amp M w b n v):a=b/\m=n /\ ∀ k,k<2^w->u k=v k:=by
 have hs:∀ k,oK L k ↔ oK M k:=fun k=>⟨fun q g hg=>q g ((h g).2 hg),fun q g hg=>q g ((h g).1 hg)⟩
 have e:a=b:=Nat.le_antisymm (h1.min b h2.lt ((hs b).2 h2.sup)) (h2.min a h1.lt ((hs a).1 h1.sup));subst e;refine⟨rfl,?_,fun k hk=>?_⟩
 ·obtain⟨A,a1,a2,a3,a4⟩:=h1.rank;obtain⟨B,b1,b2,b3,b4⟩:=h2.rank;have:=pN a1 b1 fun v=>by
   rw[tV,a4,b4];constructor
   ·rintro⟨g,q1,q2⟩;exact⟨g,(h g).1 q1,q2⟩
   ·rintro⟨g,q1,q2⟩;exact⟨g,(h g).2 q1,q2⟩
  have i1:rk A=A.length:=a2;have i2:rk B=B.length:=b2;omega
 ·cases e1:u k with
  | none =>
   cases e2:v k with
   | none=>rfl
   | some q =>
    obtain⟨g,q1,q2,_⟩:=h2.has k q hk e2;exact absurd q2 (h1.no k hk e1 g ((h g).2 q1))
  | some p =>
   obtain⟨f,p1,p2,p3⟩:=h1.has k p hk e1;cases e2:v k with
   | none=>exact absurd p2 (h2.no k hk e2 f ((h f).1 p1))
   | some q =>
    obtain⟨g,q1,q2,q3⟩:=h2.has k q hk e2;have hx:xv f.2=xv g.2:=by
     have:=congrArg (fun n=>a^^^n) (p2.trans q2.symm);simp only[<- py,yE,Lo]at this;exact this
    rw[<- p3,<- q3,Qb hL h1.sup p1 ((h g).2 q1) hx]
end Go.Tz
namespace Go.Tz
open Go Go.AL Go.Proofs Go.Ma
abbrev xB(q:Ps)(n:Nat):Bool:=q.x.toNat.testBit n
theorem jv{w:Nat}(hw:w<=12){q:Ps}(h:Vl w q):xv (nf q).2=q.x.toNat/\q.x.toNat<2^w/\q.x=(q.x.toNat:Int):=by
 obtain⟨X,Z,P,rfl,h1,_,_⟩:=h;have h2:X<4096:=uU h1 (js qaj hw);rw[df];refine⟨?_,?_,?_⟩
 ·show(X+4096*Z)%4096=(X:Int).toNat;rw[gx];omega
 ·show(X:Int).toNat<_
  rwa [gx]
 ·show(X:Int)=((X:Int).toNat:Int);rw[gx]
theorem Wk{w:Nat}(hw:w<=12){q r:Ps}(hq:Vl w q)(hr:Vl w r):(bc q r).x.toNat=q.x.toNat^^^r.x.toNat:=by
 rw[<- (jv hw (dy hw hq hr)).1,<- (jv hw hq).1,<- (jv hw hr).1,dT hw hq hr,<- lj];rfl
def co(f:Ps)(n:Nat)(q:Ps):Ps:=if xB q n=true then bc q f else q
theorem Il{w n:Nat}(hw:w<=12){f q:Ps}(hf:Vl w f)(hq:Vl w q):Vl w (co f n q):=by
 unfold co;split
 ·exact dy hw hq hf
 ·exact hq
theorem jU{w n m:Nat}(hw:w<=12){f q:Ps}(hf:Vl w f)(hq:Vl w q):xB (co f n q) m=(xB q m != (xB q n&&xB f m)):=by
 unfold co;split
 ·rename_i h;unfold xB at h⊢;rw[Wk hw hq hf,gy,h];simp
 ·rename_i h;have h:xB q n=false:=uz;rw[h];simp
theorem FH{w:Nat}(hw:w<=12){M M':List Ps}{f:Ps}(hv:∀ q,q∈M->Vl w q)(hG:Good (M.map nf))(hf:f∈M)(hf':f∈M')(h1:∀ q,q∈M'->q∈M \/ ∃ r,r∈M/\q=bc r f)(h2:∀ q,q∈M->q∈M'\/bc q f∈M'):gz (M.map nf) (M'.map nf)/\Good (M'.map nf):=by
 have g:∀ q,q∈M->Gen (M.map nf) (nf q):=fun q hq=>bC hG (bm.2 ⟨q,hq,rfl⟩);have a1:∀ a,a∈M'.map nf->Gen (M.map nf) a:=fun a ha=>by
  obtain⟨q,hq,rfl⟩:=bm.1 ha;rcases h1 q hq with h|⟨r,hr,rfl⟩
  ·exact g q h
  ·rw[dT hw (hv r hr) (hv f hf)];exact cg hG (g r hr) (g f hf)
 have hG':Good (M'.map nf):=vp hG a1;have g':∀ q,q∈M'->Gen (M'.map nf) (nf q):=fun q hq=>bC hG' (bm.2 ⟨q,hq,rfl⟩);refine⟨Eu hG a1 fun a ha=>?_,hG'⟩;obtain⟨q,hq,rfl⟩:=bm.1 ha;rcases h2 q hq with h|h
 ·exact g' q h
 ·have h3:=cg hG' (g' _ h) (g' f hf');rw[dT hw (hv q hq) (hv f hf),bx,dn (dv hG (g f hf)),iU _ (ux _)]at h3;exact h3
structure Pt (w n:Nat) (L:List E) (A:List (Nat×Ps)) (B:List Ps):Prop where
 vl:∀ q,q∈A.map (·.2)++B->Vl w q
 good:Good ((A.map (·.2)++B).map nf)
 same:gz L ((A.map (·.2)++B).map nf)
 lt:∀ a,a∈A->a.1<n
 bit:∀ a,a∈A->xB a.2 a.1=true
 piv:A.Pairwise fun a b=>xB b.2 a.1=false/\xB a.2 b.1=false
 rest:∀ b,b∈B->∀ m,m<n->xB b m=false
theorem Ee{w n:Nat}{L:List E}{A:List (Nat×Ps)}{B:List Ps}(h:Pt w n L A B)(hz:∀ b,b∈B->xB b n=false):Pt w (n+1) L A B :=
 ⟨h.vl,h.good,h.same,fun a ha=>Nat.lt_succ_of_lt (h.lt a ha),h.bit,h.piv,fun b hb m hm=>by
  rcases Nat.lt_succ_iff_lt_or_eq.1 hm with q|q
  ·exact h.rest b hb m q
  ·rw[q];exact hz b hb⟩
theorem Ef{w n:Nat}(hw:w<=12){L:List E}{A:List (Nat×Ps)}{B B':List Ps}{f:Ps}(h:Pt w n L A B)(hf:f∈B)(hb:xB f n=true)(h1:∀ q,q∈B'->∃ r,r∈B/\q=co f n r)(h2:∀ r,r∈B->r=f\/co f n r∈B')(h3:∀ q,q∈B'->xB q n=false) :
  Pt w (n+1) L (A.map (fun a=>(a.1,co f n a.2))++[(n,f)]) B':=by
 have hA:∀ a,a∈A->Vl w a.2:=fun a ha=>h.vl _ (ft.2 (.inl (bm.2 ⟨a,ha,rfl⟩)));have hB:∀ b,b∈B->Vl w b:=fun b hb=>h.vl _ (ft.2 (.inr hb));have hfv:=hB f hf;have mA:∀ a,a∈A->a.2∈A.map (·.2)++B:=fun a ha=>ft.2 (.inl (bm.2 ⟨a,ha,rfl⟩));have hmem:∀ q,q∈(A.map (fun a=>(a.1,co f n a.2))++[(n,f)]).map (·.2)++B' ↔ (∃ a,a∈A/\q=co f n a.2)\/q=f\/q∈B':=by
  intro q;simp only[ft,bm,mb];constructor
  ·rintro(⟨p,(⟨a,ha,rfl⟩|rfl),rfl⟩|hq)
   ·exact .inl ⟨a,ha,rfl⟩
   ·exact .inr (.inl rfl)
   ·exact .inr (.inr hq)
  ·rintro(⟨a,ha,rfl⟩|rfl|hq)
   ·exact .inl ⟨_,.inl ⟨a,ha,rfl⟩,rfl⟩
   ·exact .inl ⟨_,.inr rfl,rfl⟩
   ·exact .inr hq
 have hcl:∀ r,r∈A.map (·.2)++B->co f n r∈A.map (·.2)++B \/ ∃ q,q∈A.map (·.2)++B/\co f n r=bc q f:=fun r hr=>by
  unfold co;split
  ·exact .inr ⟨r,hr,rfl⟩
  ·exact .inl hr
 have hcs:=FH (M':=(A.map (fun a=>(a.1,co f n a.2))++[(n,f)]).map (·.2)++B') (f:=f) hw h.vl h.good (ft.2 (.inr hf)) ((hmem f).2 (.inr (.inl rfl)))
  (fun q hq=>by
   rcases (hmem q).1 hq with⟨a,ha,rfl⟩|rfl|hq
   ·exact hcl _ (mA a ha)
   ·exact .inl (ft.2 (.inr hf))
   ·obtain⟨r,hr,rfl⟩:=h1 q hq;exact hcl r (ft.2 (.inr hr)))
  (fun q hq=>by
   have hin:q=f\/co f n q∈(A.map (fun a=>(a.1,co f n a.2))++[(n,f)]).map (·.2)++B':=by
    rcases ft.1 hq with hq|hq
    ·obtain⟨a,ha,rfl⟩:=bm.1 hq;exact .inr ((hmem _).2 (.inl ⟨a,ha,rfl⟩))
    ·rcases h2 q hq with e|e
     ·exact .inl e
     ·exact .inr ((hmem _).2 (.inr (.inr e)))
   rcases hin with rfl|hin
   ·exact .inl ((hmem _).2 (.inr (.inl rfl)))
   ·unfold co at hin;split at hin
    ·exact .inr hin
    ·exact .inl hin)
 refine⟨fun q hq=>?_,hcs.2,fun g=>(h.same g).trans (hcs.1 g),fun a ha=>?_,fun a ha=>?_,?_,fun b hb m hm=>?_⟩
 ·rcases (hmem q).1 hq with⟨a,ha,rfl⟩|rfl|hq
  ·exact Il hw hfv (hA a ha)
  ·exact hfv
  ·obtain⟨r,hr,rfl⟩:=h1 q hq;exact Il hw hfv (hB r hr)
 ·rcases ft.1 ha with ha|ha
  ·obtain⟨b,hb,rfl⟩:=bm.1 ha;exact Nat.lt_succ_of_lt (h.lt b hb)
  ·rw[mb.1 ha];exact Ck n
 ·rcases ft.1 ha with ha|ha
  ·obtain⟨b,hb',rfl⟩:=bm.1 ha;show xB (co f n b.2) b.1=true;rw[jU hw hfv (hA b hb'),h.bit b hb',h.rest f hf b.1 (h.lt b hb')];simp
  ·rw[mb.1 ha];exact hb
 ·refine I8.2 ⟨?_,List.pairwise_singleton _ _,fun a ha b hb'=>?_⟩
  ·refine List.pairwise_map.2 ?_;refine(List.Pairwise.imp_of_mem (fun{a b} ha hb' hab=>?_) h.piv);refine⟨?_,?_⟩
   ·show xB (co f n b.2) a.1=false;rw[jU hw hfv (hA b hb'),hab.1,h.rest f hf a.1 (h.lt a ha)];simp
   ·show xB (co f n a.2) b.1=false;rw[jU hw hfv (hA a ha),hab.2,h.rest f hf b.1 (h.lt b hb')];simp
  ·obtain⟨c,hc,rfl⟩:=bm.1 ha;rw[mb.1 hb'];refine⟨h.rest f hf c.1 (h.lt c hc),?_⟩;show xB (co f n c.2) n=false;rw[jU hw hfv (hA c hc),hb];cases xB c.2 n<;>rfl
 ·rcases Nat.lt_succ_iff_lt_or_eq.1 hm with q|q
  ·obtain⟨r,hr,rfl⟩:=h1 b hb;rw[jU hw hfv (hB r hr),h.rest r hr m q,h.rest f hf m q];simp
  ·rw[q];exact h3 b hb
theorem Jy:∀{A:List (Nat×Ps)},(∀ a,a∈A->xB a.2 a.1=true)->A.Pairwise (fun a b=>xB b.2 a.1=false/\xB a.2 b.1=false)->ub (A.map fun a=>a.2.x.toNat)
 | [],_,_=>rfl
 | a::A,hb,hp=>by
  obtain⟨h1,h2⟩:=J2.1 hp;rw[nB,kc];refine⟨Jy (fun b hb'=>hb b (eJ _ hb')) h2,?_⟩;cases e:bG (A.map fun a=>a.2.x.toNat) a.2.x.toNat with
  | false=>rfl
  | true =>
   have h4:=jq (j:=a.1) (A.map fun a=>a.2.x.toNat) (fun v hv=>by
    obtain⟨b,hb',rfl⟩:=bm.1 hv;exact(h1 b hb').1) _ e
   have h5:a.2.x.toNat.testBit a.1=true:=hb a aR;rw[h5]at h4;cases h4
structure PtE (w:Nat) (L:List E) (A:List (Nat×Ps)) (B:List Ps):Prop where
 pt:Pt w w L A B
 zero:∀ b,b∈B->b.x.toNat=0
 xs:((A.map (·.2)).map nf).map (fun a=>xv a.2)=A.map fun a=>a.2.x.toNat
 ind:ub (A.map fun a=>a.2.x.toNat)
theorem Jx{w:Nat}(hw:w<=12){L:List E}{A:List (Nat×Ps)}{B:List Ps}(h:Pt w w L A B):PtE w L A B:=by
 refine⟨h,fun b hb=>?_,?_,Jy h.bit h.piv⟩
 ·obtain⟨_,h2,_⟩:=jv hw (h.vl b (ft.2 (.inr hb)));refine Fs fun m=>?_;rw[Cj];rcases wa1 m w with q|q
  ·exact h.rest b hb m q
  ·exact LM (uU h2 (js qaj q))
 ·rw[pU,pU];refine xX fun a ha=>?_;exact(jv hw (h.vl a.2 (ft.2 (.inl (bm.2 ⟨a,ha,rfl⟩))))).1
theorem TG{w:Nat}(hw:w<=12){L:List E}{A:List (Nat×Ps)}{B:List Ps}(h:PtE w L A B)(k:Nat):oK L k ↔ ∀ b,b∈B->nv (nf b) k=0:=by
 have e:(A.map (·.2)++B).map nf=(A.map (·.2)).map nf++B.map nf:=nh;have hx:∀ b,b∈B.map nf->xv b.2=0:=fun b hb=>by
  obtain⟨q,hq,rfl⟩:=bm.1 hb;rw[(jv hw (h.pt.vl q (ft.2 (.inr hq)))).1];exact h.zero q hq
 have hg:=h.pt.good;have hs:=h.pt.same;rw[e]at hg hs;rw[PZ hg hs hx (by rw[h.xs];exact h.ind)];constructor
 ·intro q b hb;exact q _ (bm.2 ⟨b,hb,rfl⟩)
 ·intro q b hb;obtain⟨r,hr,rfl⟩:=bm.1 hb;exact q r hr
theorem rL{w:Nat}(hw:w<=12){L:List E}{A:List (Nat×Ps)}{B:List Ps}(h:PtE w L A B)(v:Nat):bG (A.map fun a=>a.2.x.toNat) v=true ↔ ∃ g,Gen L g/\xv g.2=v:=by
 rw[<- h.xs];constructor
 ·intro hv;obtain⟨g,g1,g2⟩:=Bu (L:=(A.map (·.2)++B).map nf) ((A.map (·.2)).map nf) (fun a ha=>by rw[nh];exact ft.2 (.inl ha)) hv;exact⟨g,(h.pt.same g).2 g1,g2⟩
 ·rintro⟨g,g1,rfl⟩;have h1:=IP ((h.pt.same g).1 g1);refine fY _ _ (fun v hv=>?_) _ h1;obtain⟨a,ha,rfl⟩:=bm.1 hv;rw[nh]at ha;rcases ft.1 ha with ha|ha
  ·exact bA _ _ (bm.2 ⟨a,ha,rfl⟩)
  ·obtain⟨q,hq,rfl⟩:=bm.1 ha;rw[(jv hw (h.pt.vl q (ft.2 (.inr hq)))).1,h.zero q hq];exact kM _
end Go.Tz
namespace Go.Tz
open Go Go.AL Go.Proofs Go.Ma
theorem vE(a b:Nat):a^^^(a^^^b)=b:=qg0
def Fe(s:Ps×Nat)(a:Nat×Ps):Ps×Nat:=if s.2.testBit a.1=true then(bc s.1 a.2,s.2^^^a.2.x.toNat) else s
def wyF(w:Nat)(A:List (Nat×Ps))(u:Nat):Ps×Nat:=A.foldl Fe (⟨w,0,0,0⟩,u)
structure Wy (w:Nat) (L:List E) (u:Nat) (A1:List (Nat×Ps)) (s:Ps×Nat):Prop where
 vl:Vl w s.1
 gen:Gen L (nf s.1)
 x:s.2=u^^^s.1.x.toNat
 z:∀ a,a∈A1->s.2.testBit a.1=false
theorem QK{w:Nat}(hw:w<=12){L:List E}(hL:Good L){u:Nat}:∀(A2 A1:List (Nat×Ps)) (s:Ps×Nat),(∀ a,a∈A2->Vl w a.2/\Gen L (nf a.2)/\xB a.2 a.1=true)->(A1++A2).Pairwise (fun a b=>xB b.2 a.1=false/\xB a.2 b.1=false)->Wy w L u A1 s->Wy w L u (A1++A2) (A2.foldl Fe s)
 | [],A1,s,_,_,h=>by rw[List.append_nil];exact h
 | a::A2,A1,s,hA,hp,h=>by
  obtain⟨a1,a2,a3⟩:=hA a aR;have e:A1++a::A2=(A1++[a])++A2:=aR;rw[e]at hp⊢;rw[VZ];refine QK hw hL A2 (A1++[a]) _ (fun b hb=>hA b (eJ _ hb)) hp ?_;have hp1:=(I8.1 (I8.1 hp).1).2.2;unfold Fe;split
  ·rename_i hb;refine⟨dy hw h.vl a1,?_,?_,fun b hb'=>?_⟩
   ·show Gen L (nf (bc s.1 a.2));rw[dT hw h.vl a1];exact cg hL h.gen a2
   ·show s.2^^^a.2.x.toNat=u^^^(bc s.1 a.2).x.toNat;rw[Wk hw h.vl a1,h.x,py]
   ·show(s.2^^^a.2.x.toNat).testBit b.1=false;rw[gy];rcases ft.1 hb' with q|q
    ·have h1:a.2.x.toNat.testBit b.1=false:=(hp1 b q a aR).1;rw[h.z b q,h1];rfl
    ·rw[mb.1 q,hb];have h1:a.2.x.toNat.testBit a.1=true:=a3;rw[h1];rfl
  ·rename_i hb;refine⟨h.vl,h.gen,h.x,fun b hb'=>?_⟩;rcases ft.1 hb' with q|q
   ·exact h.z b q
   ·rw[mb.1 q];simpa using hb
theorem Ez:∀{A:List (Nat×Ps)} {v:Nat},(∀ a,a∈A->xB a.2 a.1=true)->A.Pairwise (fun a b=>xB b.2 a.1=false/\xB a.2 b.1=false)->bG (A.map fun a=>a.2.x.toNat) v=true->(∀ a,a∈A->v.testBit a.1=false)->v=0
 | [],v,_,_,h,_=>by simpa only[QF,bG,beq_iff_eq] using h
 | a::A,v,hb,hp,h,hz=>by
  obtain⟨h1,h2⟩:=J2.1 hp;simp only[nB,bG,zG]at h;rcases h with h|h
  ·exact Ez (fun b hb'=>hb b (eJ _ hb')) h2 h fun b hb'=>hz b (eJ _ hb')
  ·exfalso;have h4:=jq (j:=a.1) (A.map fun a=>a.2.x.toNat) (fun v hv=>by
    obtain⟨b,hb',rfl⟩:=bm.1 hv;exact(h1 b hb').1) _ h
   have h5:a.2.x.toNat.testBit a.1=true:=hb a aR;rw[gy,hz a aR,h5]at h4;cases h4
def oC(w:Nat)(A:List (Nat×Ps))(lst b:Nat):Option Nat:=if(wyF w A (lst^^^b)).2=0 then some (nv (nf (wyF w A (lst^^^b)).1) lst) else none
theorem QD{w:Nat}(hw:w<=12){L:List E}(hL:Good L){A:List (Nat×Ps)}{B:List Ps}(h:PtE w L A B)(u:Nat):Wy w L u A (wyF w A u):=by
 have mA:∀ a,a∈A->a.2∈A.map (·.2)++B:=fun a ha=>ft.2 (.inl (bm.2 ⟨a,ha,rfl⟩));have:=QK (u:=u) hw hL A [] (⟨w,0,0,0⟩,u) (fun a ha=>⟨h.pt.vl _ (mA a ha),(h.pt.same _).2 (bC h.pt.good (bm.2 ⟨_,mA a ha,rfl⟩)),h.pt.bit a ha⟩) (by rw[uV];exact h.pt.piv)
  ⟨BT w,by rw[Gl];exact .one,by show u=u^^^(0:Int).toNat;simp,fun a ha=>by cases ha⟩
 rw[uV]at this;exact this
theorem Rh{w:Nat}(hw:w<=12){L:List E}(hL:Good L){A:List (Nat×Ps)}{B:List Ps}(h:PtE w L A B){lst:Nat}(h1:oK L lst)(h2:lst<2^w)(h3:∀ k,k<2^w->oK L k->lst<=k):Amp L w lst A.length (oC w A lst):=by
 refine⟨h1,h2,h3,fun b p hb e=>?_,fun b hb e g hg hx=>?_,⟨A.map fun a=>a.2.x.toNat,fun v hv=>?_,h.ind,by rw[ef],rL hw h⟩⟩
 ·have hy:=QD hw hL h (lst^^^b);unfold oC at e;split at e
  ·rename_i h0;refine⟨nf (wyF w A (lst^^^b)).1,hy.gen,?_,ku e⟩;rw[(jv hw hy.vl).1];have h4:=hy.x;rw[h0]at h4;have h5:=congrArg (fun n=>lst^^^b^^^n) h4;simp only[vE,zF]at h5;rw[<- h5,vE]
  ·cases e
 ·have hy:=QD hw hL h (lst^^^b);unfold oC at e;split at e
  ·cases e
  ·rename_i h0;apply h0;refine Ez h.pt.bit h.pt.piv ?_ hy.z;rw[hy.x,rL hw h];refine⟨aU g (nf (wyF w A (lst^^^b)).1),cg hL hg hy.gen,?_⟩;show xv (g.2^^^_)=_;rw[lj,(jv hw hy.vl).1,<- hx,vE]
 ·exact qio
def nl(q:Ps)(s:(Nat->Int)×List Nat)(c:Nat):(Nat->Int)×List Nat:=(fun k=>if k=c^^^q.x.toNat then(s.1 c+nv (nf q) c)%4 else s.1 k,s.2++[c^^^q.x.toNat])
def Nc(s:(Nat->Int)×List Nat)(q:Ps):(Nat->Int)×List Nat:=s.2.reverse.foldl (nl q) s
def fK(lst:Nat)(R:List Ps):(Nat->Int)×List Nat:=R.foldl Nc (fun k=>if k=lst then 0 else -1,[lst])
structure Dbl (L:List E) (w lst:Nat) (s:(Nat->Int)×List Nat):Prop where
 mem:∀ c,c∈s.2->∃ g,Gen L g/\lst^^^xv g.2=c/\s.1 c=(nv g lst:Nat)
 out:∀ c,c ∉ s.2->s.1 c = -1
 lt:∀ c,c∈s.2->c<2^w
theorem Yq{w:Nat}(hw:w<=12){L:List E}(hL:Good L){lst:Nat}{q:Ps}(hq:Vl w q)(hg:Gen L (nf q)){s:(Nat->Int)×List Nat}(h:Dbl L w lst s){c:Nat}(hc:c∈s.2)(hsup:oK L lst):Dbl L w lst (nl q s c):=by
 obtain⟨g,g1,g2,g3⟩:=h.mem c hc;obtain⟨x1,x2,_⟩:=jv hw hq;have hm:Gen L (aU (nf q) g):=cg hL hg g1;have hx:lst^^^xv (aU (nf q) g).2=c^^^q.x.toNat:=by
  show lst^^^xv ((nf q).2^^^g.2)=_;rw[lj,x1,Hy q.x.toNat,<- py,g2]
 have hp:(s.1 c+nv (nf q) c)%4=((nv (aU (nf q) g) lst:Nat):Int):=by
  rw[mH,g2,g3];omega
 refine⟨fun k hk=>?_,fun k hk=>?_,fun k hk=>?_⟩
 ·by_cases e:k=c^^^q.x.toNat
  ·refine⟨_,hm,hx.trans e.symm,?_⟩;show(if k=_ then _ else _)=_;rw[if_pos e,hp]
  ·have hk':k∈s.2:=by
    rcases ft.1 hk with h|h
    ·exact h
    ·exact absurd (mb.1 h) e
   obtain⟨f,f1,f2,f3⟩:=h.mem k hk';refine⟨f,f1,f2,?_⟩;show(if k=_ then _ else _)=_;rw[if_neg e,f3]
 ·have e:¬ k=c^^^q.x.toNat:=fun e=>hk (ft.2 (.inr (mb.2 e)));show(if k=_ then _ else _)=_;rw[if_neg e];exact h.out k fun q=>hk (ft.2 (.inl q))
 ·rcases ft.1 hk with q|q
  ·exact h.lt k q
  ·rw[mb.1 q];exact pn (h.lt c hc) x2
theorem Av{w:Nat}(hw:w<=12){L:List E}(hL:Good L){lst:Nat}{q:Ps}(hq:Vl w q)(hg:Gen L (nf q))(hsup:oK L lst):∀(l:List Nat) (s:(Nat->Int)×List Nat),Dbl L w lst s->(∀ c,c∈l->c∈s.2)->Dbl L w lst (l.foldl (nl q) s)/\(l.foldl (nl q) s).2=s.2++l.map (· ^^^ q.x.toNat)
 | [],s,h,_=>⟨h,by simp⟩
 | c::l,s,h,hl=>by
  rw[VZ];obtain⟨h1,h2⟩:=Av hw hL hq hg hsup l (nl q s c) (Yq hw hL hq hg h (hl c aR) hsup) fun d hd=>ft.2 (.inl (hl d (eJ _ hd)));refine⟨h1,?_⟩;rw[h2];show(s.2++[c^^^q.x.toNat])++_=_;simp
theorem Ub{l:List Nat}{a v:Nat}(h:bG (l++[a]) v=true):bG l v=true\/bG l (v^^^a)=true:=by
 have h1:=fY _ (a::l) (fun b hb=>bA _ _ (by simp at hb⊢;exact hb.symm)) v h;simpa only[bG,zG] using h1
theorem Ad{w:Nat}(hw:w<=12){L:List E}(hL:Good L){lst:Nat}(hsup:oK L lst)(hlt:lst<2^w):∀(A:List (Nat×Ps)) (n:Nat),(∀ a,a∈A->Vl w a.2/\Gen L (nf a.2))->n<=A.length ->
  Dbl L w lst (fK lst ((A.take n).map (·.2)))/\(fK lst ((A.take n).map (·.2))).2.length=2^n /\ ∀ v,bG ((A.take n).map fun a=>a.2.x.toNat) v=true->lst^^^v∈(fK lst ((A.take n).map (·.2))).2
 | A,0,_,_=>by
  rw[List.take_zero];refine⟨⟨fun c hc=>?_,fun c hc=>?_,fun c hc=>?_⟩,rfl,fun v hv=>?_⟩
  ·rw[mb.1 hc];exact⟨e1,.one,by show lst^^^0=lst;simp,by rw[Bg];show(if lst=lst then(0:Int) else -1)=_;rw[if_pos rfl];rfl⟩
  ·show(if c=lst then(0:Int) else -1) = -1;rw[if_neg fun e=>hc (mb.2 e)]
  ·rw[mb.1 hc];exact hlt
  ·have:v=0:=by simpa only[QF,bG,beq_iff_eq] using hv
   rw[this,zF];exact mb.2 rfl
 | A,n+1,hA,hn=>by
  obtain⟨h1,h2,h3⟩:=Ad hw hL hsup hlt A n hA qad;have hn':n<A.length:=qad;have et:A.take (n+1)=A.take n++[A[n]]:=by rw[List.take_add_one,ew hn'];rfl
  obtain⟨a1,a2⟩:=hA A[n] (ey hn');have ea:fK lst ((A.take (n+1)).map (·.2))=Nc (fK lst ((A.take n).map (·.2))) A[n].2:=by
   unfold fK;rw[et,nh,Lm];rfl
  rw[ea];generalize fK lst ((A.take n).map (·.2))=s at h1 h2 h3;obtain⟨r1,r2⟩:=Av hw hL a1 a2 hsup s.2.reverse s h1 fun c hc=>VT.1 hc;refine⟨r1,?_,fun v hv=>?_⟩
  ·unfold Nc;rw[r2,LN,ef,wdz,h2];omega
  ·unfold Nc;rw[r2,ft];rw[et,nh]at hv;rcases Ub hv with q|q
   ·exact .inl (h3 v q)
   ·right;refine bm.2 ⟨_,VT.2 (h3 _ q),?_⟩;rw[py,py,yE,zF]
def ns(f:Nat->Int)(b:Nat):Option Nat:=if f b<0 then none else some (f b).toNat
theorem Rg{w:Nat}(hw:w<=12){L:List E}(hL:Good L){A:List (Nat×Ps)}{B:List Ps}(h:PtE w L A B){lst:Nat}(h1:oK L lst)(h2:lst<2^w)(h3:∀ k,k<2^w->oK L k->lst<=k):Amp L w lst A.length (ns (fK lst (A.map (·.2))).1)/\Dbl L w lst (fK lst (A.map (·.2))):=by
 have mA:∀ a,a∈A->a.2∈A.map (·.2)++B:=fun a ha=>ft.2 (.inl (bm.2 ⟨a,ha,rfl⟩));obtain⟨d1,d2,d3⟩:=Ad hw hL h1 h2 A A.length (fun a ha=>⟨h.pt.vl _ (mA a ha),(h.pt.same _).2 (bC h.pt.good (bm.2 ⟨_,mA a ha,rfl⟩))⟩) (cF _);rw[pS]at d1 d2 d3;refine⟨⟨h1,h2,h3,fun b p hb e=>?_,fun b hb e g hg hx=>?_,⟨A.map fun a=>a.2.x.toNat,fun v hv=>?_,h.ind,by rw[ef],rL hw h⟩⟩,d1⟩
 ·unfold ns at e;split at e
  ·cases e
  ·rename_i h0;have hm:b∈(fK lst (A.map (·.2))).2:=Fp fun q=>by
    have:=d1.out b q;omega
   obtain⟨g,g1,g2,g3⟩:=d1.mem b hm;refine⟨g,g1,g2,?_⟩;have:=ku e;omega
 ·unfold ns at e;split at e
  ·rename_i h0;have hm:=d3 (xv g.2) ((rL hw h _).2 ⟨g,hg,rfl⟩);rw[hx]at hm;obtain⟨f,_,_,g3⟩:=d1.mem b hm;omega
  ·cases e
 ·exact qio
theorem Kc{L:List E}(hL:Good L){w lst m:Nat}{val:Nat->Option Nat}(h:Amp L w lst m val):val lst=some 0 /\ ∀ k,k<lst->val k=none:=by
 refine⟨?_,fun k hk=>?_⟩
 ·cases e:val lst with
  | none=>exact absurd (by show lst^^^0=lst;simp) (h.no lst h.lt e e1 .one)
  | some p =>
   obtain⟨g,g1,g2,g3⟩:=h.has lst p h.lt e;have hx:xv g.2=0:=by
    have h5:=congrArg (fun n=>lst^^^n) g2;simpa only[vE,yE] using h5
   rw[<- g3,h.sup g g1 hx]
 ·cases e:val k with
  | none=>rfl
  | some p =>
   have hl:=h.lt;obtain⟨g,g1,g2,g3⟩:=h.has k p qad e;have hs:=PY hL h.sup g1;rw[g2]at hs;have:=h.min k qad hs;omega
end Go.Tz
namespace Go.Tz
open Go Go.AL Go.Proofs Go.Ma
theorem xK{L M:List E}(h:gz L M)(k:Nat):oK L k ↔ oK M k:=⟨fun q g hg=>q g ((h g).2 hg),fun q g hg=>q g ((h g).1 hg)⟩
theorem DG(w n o:Nat)(ho:o<=1):nf (zP w n o)=(2*o,2^(12+n)):=by
 unfold zP;rw[df,Nat.zero_and,rI,jj,Nat.pow_add];refine Prod.ext ?_ rfl;show(2*o+0)%4=2*o;omega
theorem zH(w n o:Nat)(ho:o<=1):xv (nf (zP w n o)).2=0:=by
 rw[DG w n o ho];show 2^(12+n)%4096=0;rw[Nat.pow_add];exact Nat.mul_mod_right _ _
theorem JY{w n o:Nat}(hn:n<12)(ho:o<=1)(k:Nat):nv (nf (zP w n o)) k=0 ↔ (k.testBit n).toNat=o:=by
 rw[DG w n o ho];unfold nv;dsimp only;rw[nM hn];cases k.testBit n<;>simp<;>omega
theorem QN(w n:Nat):dp (nf (zP w n 0))=nf (zP w n 1):=by
 rw[DG w n 0 qaj,DG w n 1 qaj];rfl
theorem Ve{p g:E}(h1:xv p.2=0)(h2:xv g.2=0):bw p g:=by
 unfold bw;rw[<- Mn,h2,vV,<- Mn,h1,vV]
theorem PX{L:List E}(hL:Good L){p:E}(hp:xv p.2=0)(hok:tc p)(hx:∃ q,q∈L /\ ¬ bw q p)(k:Nat):oK (dJ p L) k ↔ oK L k/\nv p k=0:=by
 obtain⟨_,_,_,hk⟩:=pe hL hok hx;have hG:=lO hL hok hx;constructor
 ·intro h;exact⟨fun g hg hz=>h g ((hk g hg).1 (Ve hp hz)) hz,h p (bC hG (lP hx)) hp⟩
 ·rintro⟨h1,h2⟩ g hg hz;obtain⟨f,f1,_,rfl|rfl⟩:=tw hL hok hx hg
  ·exact h1 _ f1 hz
  ·have hf:xv f.2=0:=by
    have h3:xv (p.2^^^f.2)=0:=hz;rw[lj,hp,Lo]at h3;exact h3
   rw[mH,h1 f f1 hf,hf,zF,h2]
def ic(w:Nat)(l:List Ps):Nat->List Ps×Nat
 | 0=>(af l (2*w),0)
 | i+1=>if cI w (ic w l i).1 (zP w (w-1-i) 0)=1 then ic w l i else if cI w (ic w l i).1 (zP w (w-1-i) 0) = -1 then((ic w l i).1,(ic w l i).2 ||| 2^(w-1-i)) else(af (dz (zP w (w-1-i) 0) (ic w l i).1) (2*w),(ic w l i).2)
structure Ls (w n:Nat) (L:List E) (s:List Ps×Nat):Prop where
 sok:SOk w s.1
 sup:∀ k,oK (s.1.map nf) k ↔ oK L k /\ ∀ j,n<=j->j<w->k.testBit j=s.2.testBit j
 lo:∀ j,j<n\/w<=j->s.2.testBit j=false
 gen:∀ j,n<=j->j<w->Gen (s.1.map nf) (nf (zP w j (s.2.testBit j).toNat))
 min:∀ k,oK L k->s.2 / 2^n<=k / 2^n
theorem RF(x n:Nat):x / 2^n=2*(x / 2^(n+1))+(x.testBit n).toNat:=by
 rw[Rd,<- Nat.div_div_eq_div_mul];have h:x.testBit n=decide (x / 2^n%2=1):=Uu;rw[h];generalize x / 2^n=q;have:=Nat.mod_two_eq_zero_or_one q;rcases this with h|h<;>rw[h]<;>simp<;>omega
theorem Nf{x y n:Nat}(h:x / 2^n=y / 2^n){j:Nat}(hj:n<=j):x.testBit j=y.testBit j:=by
 obtain⟨m,rfl⟩:∃ m,j=n+m:=⟨j-n,by omega⟩
 rw[Nat.add_comm,<- wd8,<- wd8,h]
theorem tn1(b:Bool):b.toNat<=1:=by cases b<;>decide
theorem Th{w n i:Nat}{l:List Ps}(hi:i<w)(hn:n=w-1-i){L:List E}(h:Ls w (n+1) L (ic w l i)):Ls w n L (ic w l (i+1)):=by
 have hnw:n<w:=qad;have hs:ic w l (i+1)=if cI w (ic w l i).1 (zP w n 0)=1 then ic w l i else if cI w (ic w l i).1 (zP w n 0) = -1 then((ic w l i).1,(ic w l i).2 ||| 2^n) else(af (dz (zP w n 0) (ic w l i).1) (2*w),(ic w l i).2):=by rw[hn];rfl
 rw[hs];clear hs hn;generalize ic w l i=s at h⊢;obtain⟨R,o⟩:=s;have hk:=h.sok;have hw:w<=12:=hk.hi;have hst:=cN hk;have hpv:=kN (w:=w) (o:=0) hnw qaj;have hok:=Fh hw hnw (o:=0) qaj;have hz0:o.testBit n=false:=h.lo n (.inl (Ck n));dsimp only at hk hst⊢;rcases iV (kE hk hpv hok) with⟨e,hg⟩|⟨e,hg⟩|⟨e,n1,n2⟩
 ·rw[if_pos e];have hbit:∀ k,oK (R.map nf) k->k.testBit n=false:=fun k hs=>by
   have:=(JY (w:=w) qad qaj k).1 (hs _ hg (zH w n 0 qaj));cases e:k.testBit n with
   | false=>rfl
   | true=>rw[e]at this;cases this
  refine⟨hk,fun k=>⟨fun hs=>⟨((h.sup k).1 hs).1,fun j h1 h2=>?_⟩,fun hs=>(h.sup k).2 ⟨hs.1,fun j h1 h2=>hs.2 j qad h2⟩⟩,fun j hj=>h.lo j qad,fun j h1 h2=>?_,fun k hs=>?_⟩
  ·by_cases q:j=n
   ·subst q;rw[hbit k hs];exact hz0.symm
   ·exact((h.sup k).1 hs).2 j qad h2
  ·by_cases q:j=n
   ·subst q;show Gen _ (nf (zP w j (o.testBit j).toNat));rw[hz0];exact hg
   ·exact h.gen j qad h2
  ·exact qi8
 ·rw[if_neg Pv,if_pos e];rw[QN]at hg;have hbit:∀ k,oK (R.map nf) k->k.testBit n=true:=fun k hs=>by
   have:=(JY (w:=w) qad qaj k).1 (hs _ hg (zH w n 1 qaj));cases e:k.testBit n with
   | true=>rfl
   | false=>rw[e]at this;cases this
  have hob:∀ j,(o ||| 2^n).testBit j=(o.testBit j||decide (n=j)):=fun j=>by rw[Nat.testBit_or,ll]
  have hobn:(o ||| 2^n).testBit n=true:=by rw[hob];simp
  have hobj:∀ j,j≠n->(o ||| 2^n).testBit j=o.testBit j:=fun j hj=>by rw[hob];simp[Ne.symm hj]
  refine⟨hk,fun k=>⟨fun hs=>⟨((h.sup k).1 hs).1,fun j h1 h2=>?_⟩,fun hs=>(h.sup k).2 ⟨hs.1,fun j h1 h2=>?_⟩⟩,fun j hj=>?_,fun j h1 h2=>?_,fun k hs=>?_⟩
  ·by_cases q:j=n
   ·subst q;rw[hbit k hs];exact hobn.symm
   ·show _=(o ||| 2^n).testBit j;rw[hobj j q];exact((h.sup k).1 hs).2 j qad h2
  ·have:=hs.2 j qad h2;dsimp only at this;rw[hobj j qad]at this;exact this
  ·show(o ||| 2^n).testBit j=false;rw[hobj j qad];exact h.lo j qad
  ·show Gen _ (nf (zP w j ((o ||| 2^n).testBit j).toNat));by_cases q:j=n
   ·subst q;rw[hobn];exact hg
   ·rw[hobj j q];exact h.gen j qad h2
  ·have h3:o / 2^(n+1)<=k / 2^(n+1):=h.min k hs;have h4:(o ||| 2^n) / 2^(n+1)=o / 2^(n+1):=Fs fun j=>by
    rw[wd8,wd8,hobj _ qad]
   show(o ||| 2^n) / 2^n<=k / 2^n;rw[RF (o ||| 2^n),RF k,h4,hobn];have:true.toNat=1:=rfl;rcases wa1 (o / 2^(n+1)) (k / 2^(n+1)) with q|q
   ·exact qad
   ·have h5:k / 2^(n+1)=o / 2^(n+1):=by omega
    have h6:oK (R.map nf) k:=(h.sup k).2 ⟨hs,fun j h1 _=>Nf h5 h1⟩;rw[hbit k h6,h5];exact cF _
 ·rw[if_neg Pv,if_neg Pv];have hpin:sE w (nf (zP w n 0)).2:=tR hw hpv;have hx:=jf hw hst hpin hok n1 n2;have hS:SOk w (dz (zP w n 0) R):=by
   refine mT ⟨hk.lo,hw⟩ (vy hw hpv hk.vl) ?_;rw[mI hw hk.vl hst.good];exact og hw hst hpin hok n1 n2
  obtain⟨r1,r2⟩:=bK hS;have hsp:∀ k,oK ((af (dz (zP w n 0) R) (2*w)).map nf) k ↔ oK (R.map nf) k/\k.testBit n=false:=fun k=>by
   rw[<- xK r2 k,mI hw hk.vl hst.good,PX hst.good (zH w n 0 qaj) hok hx,JY qad qaj];cases k.testBit n<;>simp
  obtain⟨_,_,_,hkeep⟩:=pe hst.good hok hx;refine⟨r1,fun k=>⟨fun hs=>?_,fun hs=>?_⟩,fun j hj=>h.lo j qad,fun j h1 h2=>?_,fun k hs=>?_⟩
  ·obtain⟨a1,a2⟩:=(hsp k).1 hs;refine⟨((h.sup k).1 a1).1,fun j h1 h2=>?_⟩;by_cases q:j=n
   ·subst q;rw[a2];exact hz0.symm
   ·exact((h.sup k).1 a1).2 j qad h2
  ·refine(hsp k).2 ⟨(h.sup k).2 ⟨hs.1,fun j h1 h2=>hs.2 j qad h2⟩,?_⟩;exact(hs.2 n (cF n) hnw).trans hz0
  ·refine(r2 _).1 ?_;rw[mI hw hk.vl hst.good];by_cases q:j=n
   ·subst q;show Gen _ (nf (zP w j (o.testBit j).toNat));rw[hz0];exact bC (lO hst.good hok hx) (lP hx)
   ·refine(hkeep _ (h.gen j qad h2)).1 (Ve (zH w n 0 qaj) (zH w j _ ?_));exact tn1 _
  ·exact qi8
theorem BA{w:Nat}(hw:w<=12){L:List E}(hL:Sta w L){o:Nat}(hg:∀ j,j<w->Gen L (nf (zP w j (o.testBit j).toNat))):∀ n,n<=w->∀ g,Gen L g->xv g.2=0->(∀ j,n<=j->g.2.testBit (12+j)=false)->nv g o=0
 | 0,_,g,h,hx,hz=>by
  have h0:g.2=0:=Fs fun j=>by
   rw[Cj];rcases wa1 j 12 with q|q
   ·have:=congrArg (fun v=>v.testBit j) hx;simp only[xv,show 4096=2^12 from rfl,QX,Cj]at this;simpa[q] using this
   ·have:=hz (j-12) (dW _)
    rwa [show 12+(j-12)=j by omega]at this
  rw[rh hL.good hL.ind h h0,Bg]
 | n+1,hn,g,h,hx,hz=>by
  by_cases hb:g.2.testBit (12+n)=true
  ·have hzg:=hg n qad;have hb1:=tn1 (o.testBit n);have hzx:=zH w n (o.testBit n).toNat hb1;have IR:=(JY (w:=w) qad hb1 o).2 rfl;have e2:(nf (zP w n (o.testBit n).toNat)).2=2^(12+n):=by rw[DG w n _ hb1]
   generalize nf (zP w n (o.testBit n).toNat)=z at hzg hzx IR e2;have hm:=cg hL.good hzg h;have hmx:xv (aU z g).2=0:=by
    show xv (z.2^^^g.2)=0;rw[lj,hzx,hx];rfl
   have ih:=BA hw hL hg n qad (aU z g) hm hmx fun j hj=>by
    show(z.2^^^g.2).testBit (12+j)=false;rw[gy,e2,ll];by_cases q:n=j
    ·subst q;rw[hb];simp
    ·rw[hz j qad];simp;omega
   have e:aU z (aU z g)=g:=by
    rw[<- bx,dn (dv hL.good hzg),eP g (dv hL.good h).1]
   have:=mH z (aU z g) o;rw[e,ih,hmx,zF,IR]at this;exact this
  ·refine BA hw hL hg n qad g h hx fun j hj=>?_;by_cases q:j=n
   ·rw[q];simpa using hb
   ·exact hz j qad
theorem AM{w:Nat}{l:List Ps}(h:SOk w l):∀ i,i<=w->Ls w (w-i) ((l.map nf)) (ic w l i)
 | 0,_=>by
  obtain⟨r1,r2⟩:=bK h;refine⟨r1,fun k=>⟨fun q=>⟨(xK r2 k).2 q,fun j h1 h2=>by omega⟩,fun q=>(xK r2 k).1 q.1⟩,fun j _=>Cj j,fun j h1 h2=>by omega,fun k _=>?_⟩;show 0 / _<=_;rw[Nat.zero_div];exact dW _
 | i+1,hi=>by
  have:=AM h i qad;rw[show w-i=(w-1-i)+1 by omega]at this;rw[show w-(i+1)=w-1-i by omega];exact Th qad rfl this
theorem Oj{w:Nat}{l:List Ps}(h:SOk w l):oK (l.map nf) (ic w l w).2/\(ic w l w).2<2^w /\ ∀ k,oK (l.map nf) k->(ic w l w).2<=k:=by
 have hl:=AM h w (cF w);rw[Wc]at hl;have hs:=cN hl.sok;have hin:∀ g,Gen ((ic w l w).1.map nf) g->∀ j,w<=j->g.2.testBit (12+j)=false:=fun g hg j hj=>by
  refine jq _ (fun a ha=>?_) _ (eb hg);obtain⟨e,he,rfl⟩:=bm.1 ha;exact jq _ (yI (.inr qad)) _ (hs.inv e he)
 have hsup:oK ((ic w l w).1.map nf) (ic w l w).2:=fun g hg hx=>BA h.hi hs (fun j hj=>hl.gen j (dW j) hj) w (cF w) g hg hx (hin g hg);refine⟨((hl.sup _).1 hsup).1,I6 _ fun j hj=>hl.lo j (.inr hj),fun k hk=>?_⟩;have:=hl.min k hk;simpa using this
end Go.Tz
namespace Go.Tz
open Go Go.AL Go.Proofs Go.Ma
theorem qa{w n:Nat}(hw:w<=12)(hn:n<w){q:Ps}(h:Vl w q):da q (2*n:Nat)=xB q n:=by
 have h1:=jz (c:=2*n) hw qad h;rw[h1];obtain⟨X,Z,P,rfl,hX,_,_⟩:=h;have h2:X<4096:=uU hX (js qaj hw);unfold cb ji pos xB;rw[if_pos qad,df,show 2*n / 2=n by omega,gX h2,if_pos qad];show _=(X:Int).toNat.testBit n;rw[gx]
theorem oO(q:Ps)(n:Nat):da q (2*n:Nat)=decide (gY q.x n=1):=by
 unfold da;have e1:((2*n:Nat):Int)%2=0:=qad;have e2:((2*n:Nat):Int) / 2=n:=qad;rw[if_pos e1,e2]
theorem Mj{w n:Nat}(hw:w<=12)(hn:n<w){q:Ps}(h:Vl w q):decide (gY q.x n=1)=xB q n:=by rw[<- oO,qa hw hn h]
theorem Im(f:Ps)(n:Nat):co f n Ps.z0=Ps.z0:=by
 unfold co;rw[if_neg];show ¬(0:Int).toNat.testBit n=true;simp
structure FS where
 r:Nat->Ps
 m:Nat
 o:Nat->Nat×Ps
def yV(rf:Nat->Ps)(f j:Nat):Ps:=if j<f then rf j else rf (j+1)
def flS(w n:Nat)(s:FS):FS:=match kS s.r s.m (2*n) 0 with
 | none=>s
 | some f=>⟨fun j=>co (s.r f) n (yV s.r f j),s.m-1,fun j=>if j<w-s.m then((s.o j).1,co (s.r f) n (s.o j).2) else(n,s.r f)⟩
def yZ(w:Nat)(l:List Ps):Nat->FS
 | 0=>⟨fun j=>l.getD j Ps.z0,w,fun _=>(0,Ps.z0)⟩
 | n+1=>flS w n (yZ w l n)
abbrev NC(w:Nat)(s:FS):List (Nat×Ps):=(List.range (w-s.m)).map s.o
abbrev flB(s:FS):List Ps:=(List.range s.m).map s.r
structure FlOk (w n:Nat) (L:List E) (s:FS):Prop where
 le:s.m<=w
 z:∀ j,s.m<=j->s.r j=Ps.z0
 pt:Pt w n L (NC w s) (flB s)
theorem Au{w n:Nat}{L:List E}{s:FS}(h:FlOk w n L s){j:Nat}(hj:j<s.m):Vl w (s.r j):=h.pt.vl _ (ft.2 (.inr (bm.2 ⟨j,cJ.2 hj,rfl⟩)))
theorem NH{w n:Nat}{L:List E}{s:FS}(h:FlOk w n L s){j:Nat}(hj:j<w-s.m):Vl w (s.o j).2/\(s.o j).1<n:=by
 have hm:s.o j∈NC w s:=bm.2 ⟨j,cJ.2 hj,rfl⟩;exact⟨h.pt.vl _ (ft.2 (.inl (bm.2 ⟨_,hm,rfl⟩))),h.pt.lt _ hm⟩
theorem RX{w n:Nat}(hw:w<=12)(hn:n<w){L:List E}{s:FS}(h:FlOk w n L s):FlOk w (n+1) L (flS w n s):=by
 unfold flS;cases hf:kS s.r s.m (2*n) 0 with
 | none =>
  refine⟨h.le,h.z,Ee h.pt fun b hb=>?_⟩;obtain⟨j,hj,rfl⟩:=bm.1 hb;have hj:=cJ.1 hj;rw[<- qa hw hn (Au h hj)];exact oX hf j (dW j) hj
 | some f =>
  obtain⟨_,f1,f2,_⟩:=fv hf;have hfv:=Au h f1;rw[qa hw hn hfv]at f2;dsimp only;have hle:=h.le;refine⟨by show s.m-1<=w;omega,fun j hj=>?_,?_⟩
  ·have hj:s.m-1<=j:=hj;show co _ n (yV s.r f j)=_;have:yV s.r f j=Ps.z0:=by
    unfold yV;rw[if_neg qad];exact h.z _ qad
   rw[this,Im]
  ·have eA:NC w ⟨fun j=>co (s.r f) n (yV s.r f j),s.m-1,fun j=>if j<w-s.m then((s.o j).1,co (s.r f) n (s.o j).2) else(n,s.r f)⟩=(NC w s).map (fun a=>(a.1,co (s.r f) n a.2))++[(n,s.r f)]:=by
    unfold NC;dsimp only;rw[show w-(s.m-1)=(w-s.m)+1 by omega,Fa,nh,pU];congr 1
    ·refine xX fun j hj=>?_;rw[if_pos (cJ.1 hj)];rfl
    ·simp only[nB,QF];rw[if_neg (D9 _)]
   rw[eA];have hd:∀ j,j<s.m-1->∃ i,i<s.m/\yV s.r f j=s.r i:=fun j hj=>by
    unfold yV;split
    ·exact⟨j,by omega,rfl⟩
    ·exact⟨j+1,by omega,rfl⟩
   refine Ef hw h.pt (f:=s.r f) (bm.2 ⟨f,cJ.2 f1,rfl⟩) f2 (fun q hq=>?_) (fun r hr=>?_) (fun q hq=>?_)
   ·obtain⟨j,hj,rfl⟩:=bm.1 hq;obtain⟨i,hi,e⟩:=hd j (cJ.1 hj);exact⟨s.r i,bm.2 ⟨i,cJ.2 hi,rfl⟩,by show co _ n (yV s.r f j)=_;rw[e]⟩
   ·obtain⟨i,hi,rfl⟩:=bm.1 hr;have hi:=cJ.1 hi;rcases Ra i f with q|q|q
    ·exact .inr (bm.2 ⟨i,cJ.2 (by show i<s.m-1;omega),by show co _ n (yV s.r f i)=_;unfold yV;rw[if_pos q]⟩)
    ·exact .inl (by rw[q])
    ·refine .inr (bm.2 ⟨i-1,cJ.2 (by show i-1<s.m-1;omega),?_⟩);show co _ n (yV s.r f (i-1))=_;unfold yV;rw[if_neg qad,show i-1+1=i by omega]
   ·obtain⟨j,hj,rfl⟩:=bm.1 hq;obtain⟨i,hi,e⟩:=hd j (cJ.1 hj);show xB (co _ n (yV s.r f j)) n=false;rw[e,jU hw hfv (Au h hi),f2];cases xB (s.r i) n<;>rfl
theorem RY{w:Nat}{l:List Ps}(hlen:l.length=w)(hv:∀ q,q∈l->Vl w q)(hG:Good (l.map nf)):FlOk w 0 (l.map nf) (yZ w l 0):=by
 have eB:flB (yZ w l 0)=l:=by
  show(List.range w).map (fun j=>l.getD j Ps.z0)=l;apply Hx
  ·simp[hlen]
  ·intro i h1 h2;simp[ew h2]
 have eA:NC w (yZ w l 0)=[]:=by
  show(List.range (w-w)).map _=[];rw[Wc];rfl
 refine⟨cF w,fun j hj=>?_,?_⟩
 ·show l.getD j Ps.z0=_;have:w<=j:=hj;rw[jI,wdn qad];rfl
 ·rw[eA,eB];exact⟨hv,hG,fun _=>QI,(fun a ha=>by cases ha),(fun a ha=>by cases ha),List.Pairwise.nil,fun b _ m hm=>by omega⟩
theorem FP{w:Nat}(hw:w<=12){l:List Ps}(hlen:l.length=w)(hv:∀ q,q∈l->Vl w q)(hG:Good (l.map nf)):∀ n,n<=w->FlOk w n (l.map nf) (yZ w l n)
 | 0,_=>RY hlen hv hG
 | n+1,hn=>RX hw hn (FP hw hlen hv hG n qad)
def DP(N n:Nat)(s:(Nat->Ps)×Nat):(Nat->Ps)×Nat:=match kS s.1 N (2*n) s.2 with
 | none=>s
 | some f=>(bO (bn s.1 s.2 f) s.2 (2*n) N,s.2+1)
def ld(l:List Ps):Nat->(Nat->Ps)×Nat
 | 0=>(fun j=>l.getD j Ps.z0,0)
 | n+1=>DP l.length n (ld l n)
abbrev paB(N:Nat)(s:(Nat->Ps)×Nat):List Ps:=(List.range (N-s.2)).map fun j=>s.1 (s.2+j)
structure PaOk (w n:Nat) (L:List E) (s:(Nat->Ps)×Nat) (pc:Nat->Nat):Prop where
 le:s.2<=w
 pt:Pt w n L ((List.range s.2).map fun j=>(pc j,s.1 j)) (paB w s)
theorem OW{w n:Nat}{L:List E}{s:(Nat->Ps)×Nat}{pc:Nat->Nat}(h:PaOk w n L s pc){j:Nat}(hj:j<w):Vl w (s.1 j):=by
 refine h.pt.vl _ (ft.2 ?_);rcases wa1 j s.2 with q|q
 ·exact .inl (bm.2 ⟨_,bm.2 ⟨j,cJ.2 q,rfl⟩,rfl⟩)
 ·exact .inr (bm.2 ⟨j-s.2,cJ.2 qad,by show s.1 (s.2+(j-s.2))=_;rw[show s.2+(j-s.2)=j by omega]⟩)
theorem Yl{w N a n:Nat}(hw:w<=12)(hn:n<w){g:Nat->Ps}{j:Nat}(hv:Vl w (g j))(hj:j<N)(ha:j≠a):bO g a (2*n) N j=co (g a) n (g j):=by
 unfold bO co;rw[qa hw hn hv];by_cases e:xB (g j) n=true
 ·rw[if_pos ⟨hj,ha,e⟩,if_pos e]
 ·rw[if_neg (fun h=>e h.2.2),if_neg e]
theorem TB{w n:Nat}(hw:w<=12)(hn:n<w){L:List E}{s:(Nat->Ps)×Nat}{pc:Nat->Nat}(h:PaOk w n L s pc):∃ pc',PaOk w (n+1) L (DP w n s) pc':=by
 unfold DP;obtain⟨rf,a⟩:=s;dsimp only;have hle:a<=w:=h.le;have hv:∀ j,j<w->Vl w (rf j):=fun j hj=>OW h hj;cases hf:kS rf w (2*n) a with
 | none =>
  refine⟨pc,h.le,Ee h.pt fun b hb=>?_⟩;obtain⟨j,hj,rfl⟩:=bm.1 hb;have hj:j<w-a:=cJ.1 hj;show xB (rf (a+j)) n=false;rw[<- qa hw hn (hv _ qad)];exact oX hf _ qad qad
 | some f =>
  obtain⟨f0,f1,f2,_⟩:=fv hf;rw[qa hw hn (hv f f1)]at f2;dsimp only;have hsv:=pk hv (show a<w by omega) f1;have ga:bn rf a f a=rf f:=by unfold bn;rw[if_pos rfl]
  have glt:∀ j,j<a->bn rf a f j=rf j:=fun j hj=>by unfold bn;rw[if_neg qad,if_neg qad]
  have gge:∀ j,a<j->j<w->∃ i,a<=i/\i<w/\bn rf a f j=rf i:=fun j h1 h2=>by
   unfold bn;rw[if_neg qad];split
   ·exact⟨a,cF _,by omega,rfl⟩
   ·exact⟨j,by omega,h2,rfl⟩
  have gback:∀ i,a<=i->i<w->i=f \/ ∃ j,a<j/\j<w/\bn rf a f j=rf i:=fun i h1 h2=>by
   by_cases e:i=f
   ·exact .inl e
   ·right;by_cases e2:i=a
    ·exact⟨f,by omega,f1,by unfold bn;rw[if_neg qad,if_pos rfl,e2]⟩
    ·exact⟨i,by omega,h2,by unfold bn;rw[if_neg e2,if_neg e]⟩
  generalize bn rf a f=g at hsv ga glt gge gback;have cx:∀ j,j<w->j≠a->bO g a (2*n) w j=co (rf f) n (g j):=fun j h1 h2=>by rw[Yl hw hn (hsv j h1) h1 h2,ga]
  refine⟨fun j=>if j=a then n else pc j,by show a+1<=w;omega,?_⟩;have eA:(List.range (a+1)).map (fun j=>((if j=a then n else pc j),bO g a (2*n) w j))=((List.range a).map fun j=>(pc j,rf j)).map (fun b=>(b.1,co (rf f) n b.2))++[(n,rf f)]:=by
   rw[Fa,nh,pU];congr 1
   ·refine xX fun j hj=>?_;have hj:=cJ.1 hj;rw[if_neg qad,cx j qad qad,glt j hj];rfl
   ·simp only[nB,QF,if_true];rw[vZ,ga]
  show Pt w (n+1) L ((List.range (a+1)).map (fun j=>((if j=a then n else pc j),bO g a (2*n) w j))) _;rw[eA];have mB:∀ i,a<=i->i<w->rf i∈paB w (rf,a):=fun i h1 h2=>bm.2 ⟨i-a,cJ.2 (by show i-a<w-a;omega),by show rf (a+(i-a))=_;rw[show a+(i-a)=i by omega]⟩;refine Ef hw h.pt (f:=rf f) (mB f f0 f1) f2 (fun q hq=>?_) (fun r hr=>?_) (fun q hq=>?_)
  ·obtain⟨j,hj,rfl⟩:=bm.1 hq;have hj:j<w-(a+1):=cJ.1 hj;obtain⟨i,i1,i2,e⟩:=gge (a+1+j) qad qad;exact⟨rf i,mB i i1 i2,by show bO g a (2*n) w (a+1+j)=_;rw[cx _ qad qad,e]⟩
  ·obtain⟨i,hi,rfl⟩:=bm.1 hr;have hi:i<w-a:=cJ.1 hi;rcases gback (a+i) qad qad with e|⟨j,j1,j2,e⟩
   ·exact .inl (by show rf (a+i)=_;rw[e])
   ·refine .inr (bm.2 ⟨j-(a+1),cJ.2 (by show j-(a+1)<w-(a+1);omega),?_⟩);show bO g a (2*n) w (a+1+(j-(a+1)))=co _ n (rf (a+i));rw[show a+1+(j-(a+1))=j by omega,cx j j2 qad,e]
  ·obtain⟨j,hj,rfl⟩:=bm.1 hq;have hj:j<w-(a+1):=cJ.1 hj;show xB (bO g a (2*n) w (a+1+j)) n=false;rw[cx _ qad qad,jU hw (hv f f1) (hsv _ qad),f2];cases xB (g (a+1+j)) n<;>rfl
theorem OU{w:Nat}(hw:w<=12){l:List Ps}(hlen:l.length=w)(hv:∀ q,q∈l->Vl w q)(hG:Good (l.map nf)):∀ n,n<=w->∃ pc,PaOk w n (l.map nf) (ld l n) pc
 | 0,_=>by
  refine⟨fun _=>0,dW _,?_⟩;have eB:paB w (ld l 0)=l:=by
   show(List.range (w-0)).map (fun j=>l.getD (0+j) Ps.z0)=l;apply Hx
   ·simp[hlen]
   ·intro i h1 h2;simp[ew h2]
  rw[eB];exact⟨hv,hG,fun _=>QI,(fun a ha=>by cases ha),(fun a ha=>by cases ha),List.Pairwise.nil,fun b _ m hm=>by omega⟩
 | n+1,hn=>by
  obtain⟨pc,h⟩:=OU hw hlen hv hG n qad;have:=TB hw hn h;rw[<- hlen]at this;rw[hlen]at this;have e:ld l (n+1)=DP w n (ld l n):=by show DP l.length n _=_;rw[hlen]
  rw[e];exact this
end Go.Tz
