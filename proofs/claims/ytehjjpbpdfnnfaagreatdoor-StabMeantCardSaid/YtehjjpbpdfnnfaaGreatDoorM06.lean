import Derived.Test.YtehjjpbpdfnnfaaGreatDoorM00
import Derived.Test.YtehjjpbpdfnnfaaGreatDoorM05
namespace Go.Tz
open Go Go.AL Go.Ma
theorem zu0(l:List Ps):∀ m,m<=l.length->∀ j,j<l.length->(redW (rowN l) m j).1=xr (rfv l 0) (fun q=>(redW (rowN l) m j).2.testBit q) l.length
 | 0,_,j,hj=>by
  have h0:redW (rowN l) 0 j=(vec l[j],2^j):=by
   show(rowN l).getD j (0,0)=_
   rw[List.getD_eq_getElem?_getD,List.getElem?_eq_getElem (by rw[zgt];exact hj)]
   simp[rowN,vec]
  rw[h0]
  dsimp only
  rw[zh7 (m':=fun q=>q==j) fun q _=>by rw[Nat.testBit_two_pow,Bool.eq_iff_iff];simp;exact eq_comm,zua hj,rfv_0 l hj]
 | m+1,hm,j,hj=>by
  have ih:=zu0 l m qad
  simp only[redW]
  by_cases e:(redW (rowN l) m m).1≠0
  ·rw[if_pos e]
   unfold clrW
   by_cases c:j<(rowN l).length/\j≠m/\(redW (rowN l) m j).1.testBit (lowN (redW (rowN l) m m).1)=true
   ·rw[if_pos c]
    dsimp only
    rw[ih j hj,ih m qad,<- zp4]
    exact zh7 fun q _=>by rw[Nat.testBit_xor]
   ·rw[if_neg c];exact ih j hj
  ·rw[if_neg e];exact ih j hj
theorem oth_bit(r:Rn)(j:Nat):∀ l:List Rn,(oth r l).testBit j=l.any fun x=>decide (x≠r)&&x.1.testBit j:=by
 have key:∀(l:List Rn) (o:Nat),(l.foldl (fun o x=>if x=r then o else o ||| x.1) o).testBit j=(o.testBit j||l.any fun x=>decide (x≠r)&&x.1.testBit j):=by
  intro l
  induction l with
  | nil=>intro o;simp
  | cons x l ih =>
   intro o
   rw[List.foldl_cons,ih,List.any_cons]
   by_cases e:x=r
   ·rw[if_pos e];simp[e]
   ·rw[if_neg e,Nat.testBit_or];simp[e,Bool.or_assoc]
 intro l
 unfold oth
 rw[key,Nat.zero_testBit,Bool.false_or]
theorem lf_all{l:List Ps}(h:gnW (redF l) l.length=[]):lfW (redF l) l.length=(List.range l.length).map (redF l):=by
 unfold gnW at h
 unfold lfW
 rw[List.filter_eq_self]
 intro r hr
 rw[List.filter_eq_nil_iff]at h
 have:=h r hr
 simpa using this
theorem own_piv{w:Nat}{l:List Ps}(h:SOk w l):Piv l.length (rwv l l.length) (fun i=>ownN (lfW (redF l) l.length) (redF l i)) fun _=>true:=by
 have hg:gnW (redF l) l.length=[]:=List.length_eq_zero_iff.1 ((zmb h.hi h.vl qcu).2 h.rank)
 have hn:l.length<=24:=qcu
 obtain⟨p,hp⟩:=rwv_Piv h.hi h.vl hn
 have hall:=lf_all hg
 have hlt:=zht (zlq h.hi h.vl hn) l.length
 have hnz:∀ i,i<l.length->rwv l l.length i≠0:=fun i hi e=>by
  unfold gnW at hg
  rw[List.filter_eq_nil_iff]at hg
  have:=hg (redF l i) (List.mem_map.2 ⟨i,List.mem_range.2 hi,rfl⟩)
  simp at this
  exact this e
 have hbit:∀ i,i<l.length->(andn (redF l i).1 (oth (redF l i) (lfW (redF l) l.length))).testBit (ownN (lfW (redF l) l.length) (redF l i))=true:=by
  intro i hi
  have h0:andn (redF l i).1 (oth (redF l i) (lfW (redF l) l.length))≠0:=fun e=>by
   have h1:(andn (redF l i).1 (oth (redF l i) (lfW (redF l) l.length))).testBit (p i)=true:=by
    rw[zk6,oth_bit]
    have a1:(redF l i).1.testBit (p i)=true:=hp.own i hi (by simpa using hnz i hi)
    rw[a1,Bool.true_and,Bool.not_eq_true',List.any_eq_false]
    intro x hx
    rw[hall]at hx
    obtain⟨j,hj,rfl⟩:=List.mem_map.1 hx
    have hj:=List.mem_range.1 hj
    by_cases q:j=i
    ·subst q;simp
    ·have:=hp.other j i hj hi q (by simpa using hnz i hi)
     have t:(redF l j).1.testBit (p i)=false:=this
     rw[t];simp
   rw[e,Nat.zero_testBit]at h1;cases h1
  unfold ownN tzN
  rw[if_neg h0]
  exact(zg0 h0 (zpz (hlt i).1)).2.1
 refine⟨fun i hi _=>?_,fun i j hi hj hij _=>?_,fun i _ h=>by cases h⟩
 ·have:=hbit i hi
  rw[zk6]at this
  exact(Bool.and_eq_true_iff.1 this).1
 ·have:=hbit j hj
  rw[zk6]at this
  have h2:=(Bool.and_eq_true_iff.1 this).2
  rw[Bool.not_eq_true',oth_bit,List.any_eq_false]at h2
  have h3:=h2 (redF l i) (by rw[hall];exact List.mem_map.2 ⟨i,List.mem_range.2 hi,rfl⟩)
  have hne:redF l i≠redF l j:=fun e=>by
   have a1:(redF l j).1.testBit (p j)=true:=hp.own j hj (by simpa using hnz j hj)
   have a2:(redF l i).1.testBit (p j)=false:=hp.other i j hi hj hij (by simpa using hnz j hj)
   rw[e,a1]at a2;cases a2
  have:(redF l i).1.testBit (ownN (lfW (redF l) l.length) (redF l j))=false:=by simpa[hne] using h3
  exact this
theorem fnd_inv{w:Nat}{l:List Ps}(h:SOk w l)(v:Nat):∀ i,i<=l.length->(fndS (lfW (redF l) l.length) v i).1=slv (rwv l l.length) (fun i=>ownN (lfW (redF l) l.length) (redF l i)) (fun _=>true) v i ∧
  (fndS (lfW (redF l) l.length) v i).1=v^^^xr (rfv l 0) (fun q=>(fndS (lfW (redF l) l.length) v i).2.testBit q) l.length
 | 0,_=>⟨rfl,by show v=v^^^xr (rfv l 0) (fun q=>(0:Nat).testBit q) l.length;rw[zk9 fun _ _=>Nat.zero_testBit _,Nat.xor_zero]⟩
 | i+1,hi=>by
  have hg:gnW (redF l) l.length=[]:=List.length_eq_zero_iff.1 ((zmb h.hi h.vl qcu).2 h.rank)
  have hall:=lf_all hg
  obtain⟨g1,g2⟩:=fnd_inv h v i qad
  have hs:=zu0 l l.length (Nat.le_refl _) i qad
  have hil:i<(lfW (redF l) l.length).length:=by rw[hall];simp;omega
  have hgi:(lfW (redF l) l.length)[i]=redF l i:=by simp[hall]
  rw[zv3 hil,hgi]
  simp only[slv,fstp,Bool.true_and]
  rw[g1]at g2⊢
  by_cases e:(slv (rwv l l.length) (fun i=>ownN (lfW (redF l) l.length) (redF l i)) (fun _=>true) v i).testBit (ownN (lfW (redF l) l.length) (redF l i))=true
  ·rw[if_pos e,if_pos e]
   refine⟨rfl,?_⟩
   dsimp only
   rw[zh7 (m':=fun q=>(fndS (lfW (redF l) l.length) v i).2.testBit q != (redF l i).2.testBit q) fun q _=>by rw[Nat.testBit_xor],zp4,<- Nat.xor_assoc,<- g2]
   congr 1
  ·rw[if_neg e,if_neg e]
   exact⟨g1,by rw[g1];exact g2⟩
theorem all_tk{w:Nat}(hw:w<=12){l:List Ps}(hv:∀ q,q∈l->Vl w q)(hG:Good (l.map nf))(m:Nat):∀ i,i<=l.length->Vl w (allS w l m i)/\Gen (l.map nf) (nf (allS w l m i))/\vec (allS w l m i)=xr (rfv l 0) (fun q=>m.testBit q) i
 | 0,_=>⟨zuh w,by show Gen _ (nf ⟨w,0,0,0⟩);rw[nf_one];exact .one,rfl⟩
 | i+1,hi=>by
  obtain⟨g1,g2,g3⟩:=all_tk hw hv hG m i qad
  simp only[xr,allS]
  by_cases e:m.testBit i=true
  ·rw[if_pos e,if_pos e]
   have hq:l.getD i Ps.z0=l[i]:=qda
   have hm:=List.getElem_mem (show i<l.length by omega)
   rw[hq,zsi hw g1 (hv _ hm)]
   refine⟨zes hw g1 (hv _ hm),?_,?_⟩
   ·exact qdt
   ·rw[zld hw g1 (hv _ hm),g3,rfv_0 l qad]
  ·rw[if_neg e,if_neg e];exact⟨g1,g2,g3⟩
theorem expP_ok{w:Nat}{l:List Ps}(h:SOk w l){p:Ps}(hp:Vl w p)(hk:eok (nf p)):ExpOk (l.map nf) (nf p) (expP l p):=by
 have hst:=zbv h
 have hn:l.length<=24:=qcu
 have hg:gnW (redF l) l.length=[]:=List.length_eq_zero_iff.1 ((zmb h.hi h.vl hn).2 h.rank)
 have hll:(lfW (redF l) l.length).length=l.length:=by rw[lf_all hg];simp
 obtain⟨g2,g3⟩:=fnd_inv h (nf p).2 l.length (Nat.le_refl _)
 have hz:=zus (own_piv h) (nf p).2
 rw[<- g2,zoj h.hi h.vl hn _ (Nat.le_refl _),zuq]at hz
 unfold expP
 rw[hll,vl_w hp]
 generalize fndS (lfW (redF l) l.length) (nf p).2 l.length=s at g2 g3 hz⊢
 by_cases e:s.1=0
 ·rw[if_pos e]
  rw[e]at g3
  have hxr:xr (rfv l 0) (fun q=>s.2.testBit q) l.length=(nf p).2:=by
   have:=congrArg (· ^^^ xr (rfv l 0) (fun q=>s.2.testBit q) l.length) g3
   simpa only[zau,Nat.zero_xor] using this
  obtain⟨k1,k2,k3⟩:=all_tk h.hi h.vl hst.good s.2 l.length (Nat.le_refl _)
  have hxr:xr (rfv l 0) (fun q=>s.2.testBit q) l.length=vec p:=hxr
  rw[hxr]at k3
  generalize allS w l s.2 l.length=g at k1 k2 k3⊢
  have hpe:=p_eq h.hi hp k1 k3.symm
  have hkp:=(zrl h.hi hp).1 hk
  have hkg:=(zrl h.hi k1).1 (zcl hst.good k2)
  have hph:(p.p=g.p->isub .i64 1 ((iadd .i64 (isub .i64 p.p g.p) 4).tmod 4)=1)/\(p.p≠g.p->isub .i64 1 ((iadd .i64 (isub .i64 p.p g.p) 4).tmod 4) = -1):=by
   obtain⟨X,Z,P,rfl,_,_,a3⟩:=hp
   obtain⟨X',Z',P',rfl,_,_,b3⟩:=k1
   have c1:P=0\/P=1\/P=2\/P=3:=qad
   have c2:P'=0\/P'=1\/P'=2\/P'=3:=qad
   have d1:((P:Int)).tmod 2=0:=hkp
   have d2:((P':Int)).tmod 2=0:=hkg
   show((P:Int)=P'->isub .i64 1 ((iadd .i64 (isub .i64 (P:Int) (P':Int)) 4).tmod 4)=1)/\((P:Int)≠P'->isub .i64 1 ((iadd .i64 (isub .i64 (P:Int) (P':Int)) 4).tmod 4) = -1)
   clear hpe k3 k2 hxr g3
   rcases c1 with rfl|rfl|rfl|rfl<;>rcases c2 with rfl|rfl|rfl|rfl<;>revert d1 d2<;>decide
  refine⟨fun q=>hph.1 (hpe.2 (ziu hst.good hst.ind q k2 k3.symm)),fun q=>hph.2 fun c=>?_,fun a b=>?_⟩
  ·have e1:=hpe.1 c
   have e2:=ziu hst.good hst.ind q k2 k3.symm
   rw[<- e1]at e2
   exact ztt hk.1 e2
  ·exact qgy
 ·rw[if_neg e]
  exact⟨fun q=>absurd (hz.2 (zc5 q)) e,fun q=>absurd (hz.2 (zc5 (g:=eneg (nf p)) q)) e,fun _ _=>rfl⟩
end Go.Tz
namespace Go.Tz
open Go Go.AL Go.Ma
theorem comV_ecom{q r:Ps}:comV q r=true ↔ ecom (nf q) (nf r):=by
 unfold comV
 rw[cm_ecom]
 cases cm (nf q).2 (nf r).2<;>simp
theorem zs3{w:Nat}(hw:w<=12){p:Ps}(hp:Vl w p):∀{l:List Ps},(∀ q,q∈l->Vl w q)->∀ q,q∈prjL p l->Vl w q
 | [],_,q,hq=>by cases hq
 | a::l,hv,q,hq=>by
  unfold prjL at hq
  split at hq
  ·rcases List.mem_cons.1 hq with e|e
   ·subst e;exact hv _ qc3
   ·exact zs3 hw hp (fun q h=>hv q (List.mem_cons_of_mem _ h)) q e
  ·rcases List.mem_cons.1 hq with e|e
   ·subst e;exact hp
   ·obtain⟨r,hr,rfl⟩:=List.mem_map.1 e
    have hr:=hv r (List.mem_cons_of_mem _ hr)
    split
    ·exact hr
    ·exact zes hw (hv a qc3) hr
theorem zhv{w:Nat}(hw:w<=12){p:Ps}:∀{l:List Ps},(∀ q,q∈l->Vl w q)->Good (l.map nf)->(prjL p l).map nf=proj (nf p) (l.map nf)
 | [],_,_=>rfl
 | a::l,hv,hG=>by
  have ih:=zhv hw (p:=p) (l:=l) (fun q h=>hv q (List.mem_cons_of_mem _ h)) (good_tl hG)
  simp only[List.map_cons,prjL,proj]
  by_cases e:comV a p=true
  ·rw[if_pos e,if_pos (comV_ecom.1 e),List.map_cons,ih]
  ·rw[if_neg e,if_neg (fun h=>e (comV_ecom.2 h)),List.map_cons,projR,List.map_map,List.map_map]
   congr 1
   refine List.map_congr_left fun r hr=>?_
   show nf (if comV r p=true then r else mulS a r)=if ecom (nf r) (nf p) then nf r else emul (nf r) (nf a)
   by_cases c:comV r p=true
   ·rw[if_pos c,if_pos (comV_ecom.1 c)]
   ·rw[if_neg c,if_neg (fun h=>c (comV_ecom.2 h)),zd1 hw (hv a qc3) (hv r (List.mem_cons_of_mem _ hr))]
    exact zcc (hG.com _ _ qc3 (by simp;right;exact⟨r,hr,rfl⟩))
end Go.Tz
namespace Go.Tz
open Go Go.AL Go.Ma
theorem zu6{p:E}:∀(L:List E) (a:Nat) (ha:a<L.length),(∀ j (_:j<a),ecom (L[j]'qad) p)->¬ ecom L[a] p->∀ j,(proj p L)[j]?=L[j]?.map fun q=>if j<a then q else if j=a then p else if ecom q p then q else emul q L[a]
 | [],a,ha,_,_,_=>by simp at ha
 | b::L,0,ha,h1,h2,j=>by
  have h2:¬ ecom b p:=h2
  simp only[proj,if_neg h2]
  cases j with
  | zero=>simp
  | succ j =>
   simp only[List.getElem?_cons_succ,projR,List.getElem?_map]
   simp
 | b::L,a+1,ha,h1,h2,j=>by
  have h0:ecom b p:=h1 0 qad
  simp only[proj,if_pos h0]
  cases j with
  | zero=>simp
  | succ j =>
   have ih:=zu6 L a qb8 (fun j hj=>h1 (j+1) qad) h2 j
   simp only[List.getElem?_cons_succ,ih]
   simp
theorem zha{p:Ps}{rf:Nat->Ps}{N a0:Nat}{R:List Nat}(h:antL p rf N=a0::R):a0<N/\comV p (rf a0)=false/\(∀ j,j<a0->comV p (rf j)=true) /\ ∀ j,j<N->a0<j->(j∈R ↔ comV p (rf j)=false)/\(∀ j,j∈R->a0<j):=by
 have hm:∀ j,j∈a0::R ↔ j<N/\comV p (rf j)=false:=fun j=>by
  rw[<- h];unfold antL;rw[List.mem_filter,List.mem_range];simp
 have hs:(a0::R).Pairwise (· < ·):=by
  rw[<- h];exact List.Pairwise.filter _ List.pairwise_lt_range
 have hlt:=(List.pairwise_cons.1 hs).1
 obtain⟨q1,q2⟩:=(hm a0).1 qc3
 refine⟨q1,q2,fun j hj=>?_,fun j hj hlj=>⟨?_,hlt⟩⟩
 ·cases hc:comV p (rf j) with
  | true=>rfl
  | false =>
   rcases List.mem_cons.1 ((hm j).2 ⟨by omega,hc⟩) with e|e
   ·exact qad
   ·have:=hlt j e;omega
 ·constructor
  ·intro hR;exact((hm j).1 (List.mem_cons_of_mem _ hR)).2
  ·intro hc
   rcases List.mem_cons.1 ((hm j).2 ⟨hj,hc⟩) with e|e
   ·exact qad
   ·exact e
theorem comV_false{q r:Ps}:comV q r=false ↔ ¬ ecom (nf q) (nf r):=by rw[<- comV_ecom];simp
theorem prjF_nf{w:Nat}(hw:w<=12){p:Ps}{rf:Nat->Ps}{N a0:Nat}{R:List Nat}(hv:∀ j,j<N->Vl w (rf j))(h:antL p rf N=a0::R):(rowsL N (prjF rf p a0 R)).map nf=proj (nf p) ((rowsL N rf).map nf):=by
 obtain⟨h1,h2,h3,h4⟩:=zha h
 have hg:∀ j (hj:j<((rowsL N rf).map nf).length),((rowsL N rf).map nf)[j]=nf (rf j):=fun j hj=>by simp[rowsL]
 have hl:((rowsL N rf).map nf).length=N:=by simp[rowsL]
 apply List.ext_getElem?
 intro j
 rw[zu6 ((rowsL N rf).map nf) a0 qad (fun j hj=>by rw[hg];exact zba (comV_ecom.1 (h3 j hj))) (by rw[hg];exact fun e=>comV_false.1 h2 (zba e)),hg]
 simp only[rowsL,List.getElem?_map]
 by_cases hj:j<N
 ·rw[List.getElem?_range hj]
  simp only[Option.map_some]
  congr 1
  unfold prjF prjR
  rcases Nat.lt_trichotomy j a0 with e|e|e
  ·have hR:j ∉ R:=fun hR=>by
    have hs:(a0::R).Pairwise (· < ·):=by
     rw[<- h];exact List.Pairwise.filter _ List.pairwise_lt_range
    have:=(List.pairwise_cons.1 hs).1 j hR
    omega
   rw[if_neg (show ¬ j=a0 by omega),if_neg hR,if_pos e]
  ·rw[if_pos e,if_neg (show ¬ j<a0 by omega),if_pos e]
  ·rw[if_neg (show ¬ j=a0 by omega),if_neg (show ¬ j<a0 by omega),if_neg (show ¬ j=a0 by omega)]
   have hiff:=(h4 j hj e).1
   by_cases hR:j∈R
   ·rw[if_pos hR,if_neg (show ¬ ecom (nf (rf j)) (nf p) from fun c=>comV_false.1 (hiff.1 hR) (zba c)),zd1 hw (hv j hj) (hv a0 h1)]
   ·have hc:ecom (nf (rf j)) (nf p):=by
     refine zba (comV_ecom.1 ?_)
     cases hc:comV p (rf j) with
     | true=>rfl
     | false=>exact absurd (hiff.2 hc) hR
    rw[if_neg hR,if_pos hc]
 ·rw[List.getElem?_eq_none qd3];rfl
theorem ant_ne{p:Ps}{rf:Nat->Ps}{N:Nat}(h:∃ q,q∈(rowsL N rf).map nf /\ ¬ ecom q (nf p)):antL p rf N≠[]:=by
 obtain⟨q,hq,hc⟩:=h
 obtain⟨r,hr,rfl⟩:=List.mem_map.1 hq
 obtain⟨j,hj,rfl⟩:=List.mem_map.1 hr
 intro e
 have:j∈antL p rf N:=by
  unfold antL
  rw[List.mem_filter]
  refine⟨hj,?_⟩
  have:=comV_false.2 (fun c=>hc (zba c))
  rw[this];rfl
 rw[e]at this;cases this
theorem zlp(l:List Ps){n:Nat}(hn:l.length=n):rowsL n (fun j=>l.getD j Ps.z0)=l:=by
 subst hn
 apply List.ext_getElem
 ·simp[rowsL]
 ·intro i h1 h2;simp[rowsL,List.getD_eq_getElem?_getD,List.getElem?_eq_getElem h2]
end Go.Tz
namespace Go.Tz
open Go Go.AL Go.Proofs Go.Ma
theorem lendA{V:AHeap}{nm sz N:Nat}{t:Bool}{es:List (List D)}{a:D}(hg:V.get nm=some (dblk sz es))(hN:N=es.length):mapO (asDX V 9 []) [.agg [.d a,.sl nm sz 0 N N t]]=some [.agg [a,.sl es t]]:=by
 have h:=zt7 (q:=6) (vis:=[]) (t:=t) hg hN
 have e1:asDX V 8 [] (.d a)=some a:=rfl
 have e3:asDX V 9 [] (.agg [.d a,.sl nm sz 0 N N t])=some (.agg [a,.sl es t]):=by
  unfold asDX
  simp only[mapO,e1,h]
 simp only[mapO,e3]
theorem flat_rows(m:List Ps):Blk.flat (dblk 4 (m.map Ps.l))=true:=by
 unfold dblk Blk.flat
 refine List.all_eq_true.2 fun el hel=>?_
 obtain⟨x,hx,rfl⟩:=List.mem_map.1 hel
 obtain⟨q,_,rfl⟩:=List.mem_map.1 hx
 rfl
theorem ziw(a:D)(n:Nat)(t:Bool)(m:List Ps):flOf (.agg [.d a,.sl 0 4 0 n n t]) [(0,some (dblk 4 (m.map Ps.l)))]=[(0,some (dblk 4 (m.map Ps.l)))]:=by
 show AHeap.fl [(0,some (dblk 4 (m.map Ps.l)))]=_
 unfold AHeap.fl
 rw[flat_rows];rfl
end Go.Tz
namespace Go.Tz
open Go Go.AL Go.Ma
theorem pop_x(N a:Nat):∀ k,pop k (N^^^2^a)+(if a<k then(N.testBit a).toNat else 0)=pop k N+(if a<k then(!N.testBit a).toNat else 0)
 | 0=>by simp[pop]
 | k+1=>by
  have ih:=pop_x N a k
  simp only[pop,Nat.testBit_xor,Nat.testBit_two_pow]
  by_cases h:a=k
  ·subst h
   rw[if_neg qad,if_neg qad]at ih
   rw[if_pos qad,if_pos qad]
   cases N.testBit a<;>simp<;>omega
  ·rw[decide_eq_false h,Bool.xor_false]
   by_cases h2:a<k
   ·rw[if_pos h2,if_pos h2]at ih
    rw[if_pos qad,if_pos qad];omega
   ·rw[if_neg h2,if_neg h2]at ih
    rw[if_neg qad,if_neg qad];omega
theorem and_set{X Z a:Nat}(x' z':Bool):(X^^^cd (X.testBit a != x') (2^a)) &&& (Z^^^cd (Z.testBit a != z') (2^a))=(X &&& Z)^^^cd ((X.testBit a&&Z.testBit a) != (x'&&z')) (2^a):=by
 refine Nat.eq_of_testBit_eq fun j=>?_
 simp only[Nat.testBit_and,Nat.testBit_xor,zhd,Nat.testBit_two_pow]
 by_cases e:a=j
 ·subst e
  rw[decide_eq_true (show a=a from rfl)]
  cases X.testBit a<;>cases Z.testBit a<;>cases x'<;>cases z'<;>rfl
 ·rw[decide_eq_false e];simp
theorem pop_cd{N a:Nat}(ha:a<12)(t:Bool):pop 12 (N^^^cd (N.testBit a != t) (2^a))+(N.testBit a).toNat=pop 12 N+t.toNat:=by
 have:=pop_x N a 12
 rw[if_pos ha,if_pos ha]at this
 cases e:N.testBit a<;>cases t<;>simp[cd,e]at this⊢<;>omega
theorem zym{A B:Nat}(hA:A<4096):A+4096*B=A^^^4096*B:=by
 have:=zsb (X:=A) (Z:=0) (X':=0) (Z':=B) hA qag
 simp at this
 exact this.symm
theorem zyl{X Z a:Nat}(hX:X<4096)(ha:a<12):(X+4096*Z).testBit a=X.testBit a:=by rw[zed hX,if_pos ha]
theorem zui{X Z a:Nat}(hX:X<4096):(X+4096*Z).testBit (12+a)=Z.testBit a:=by
 rw[zed hX,if_neg qad]
 congr 1;omega
theorem nf_set{w X Z P a:Nat}(hX:X<4096)(_hZ:Z<4096)(ha:a<12)(x' z':Bool) :
  nf (mk w (X^^^cd (X.testBit a != x') (2^a)) (Z^^^cd (Z.testBit a != z') (2^a)) P)=emul (eclr a (nf (mk w X Z P))) (eL a x' z'):=by
 have hp:∀ t,cd t (2^a)<4096:=fun t=>by
  cases t
  ·show 0<4096;decide
  ·exact(Nat.pow_lt_pow_right qag ha:(2:Nat)^a<2^12)
 rw[zcq,zcq]
 refine zc6 ?_ ?_
 ·simp only[emul,eclr,eL]
  rw[zyl hX ha,zui hX,and_set]
  have q:=pop_cd (N:=X &&& Z) ha (x'&&z')
  rw[Nat.testBit_and]at q
  have hb:bt ((X+4096*Z)^^^(cd (X.testBit a) (2^a)^^^cd (Z.testBit a) (2^(12+a)))) (cd x' (2^a)^^^cd z' (2^(12+a)))=false:=by
   have q2:decide (a=12+a)=false:=decide_eq_false qad
   simp only[zbp,zgj,zdx ha,zi4,Nat.testBit_xor,zhd,Nat.testBit_two_pow,q2,zui hX]
   simp
  rw[hb]
  generalize pop 12 ((X &&& Z)^^^cd ((X.testBit a&&Z.testBit a) != (x'&&z')) (2^a))=u at *
  generalize pop 12 (X &&& Z)=v at *
  generalize (X.testBit a&&Z.testBit a).toNat=s at *
  generalize (x'&&z').toNat=t at *
  show(P+u)%4=_
  simp only[Bool.toNat_false]
  omega
 ·simp only[emul,eclr,eL]
  rw[zyl hX ha,zui hX,<- zsb hX (hp _),zgi,zgi,zym (A:=cd (X.testBit a) (2^a)^^^cd x' (2^a)) (Nat.xor_lt_two_pow (n:=12) (hp _) (hp _))]
  have d:4096*(cd (Z.testBit a) (2^a)^^^cd z' (2^a))=cd (Z.testBit a) (2^(12+a))^^^cd z' (2^(12+a)):=by
   cases Z.testBit a<;>cases z'<;>simp[cd,Nat.pow_add]
  rw[d];ac_rfl
theorem zim{w n l:Nat}(hn:n<12)(_hl:l<=3):nf (oneS w n l)=eL n (decide (l=1)||decide (l=2)) (decide (l=2)||decide (l=3)):=by
 have hs:oneS w n l=mk w (0^^^cd ((0:Nat).testBit n != (decide (l=1)||decide (l=2))) (2^n)) (0^^^cd ((0:Nat).testBit n != (decide (l=2)||decide (l=3))) (2^n)) 0:=by
  unfold oneS mk
  rw[zcg qad]
  have c1:((l:Int)=1\/(l:Int)=2) ↔ ((decide (l=1)||decide (l=2))=true):=qbo
  have c2:((l:Int)=3\/(l:Int)=2) ↔ ((decide (l=2)||decide (l=3))=true):=qbo
  simp only[c1,c2,Nat.zero_testBit]
  cases (decide (l=1)||decide (l=2))<;>cases (decide (l=2)||decide (l=3))<;>simp[cd]
 rw[hs,nf_set qag qag hn]
 have h0:eclr n (nf (mk w 0 0 0))=e1:=by
  rw[zcq]
  simp[eclr,zkq,cd,e1]
 rw[h0,zfn _ (eL_lt _ _ _)]
theorem zvf{w n l:Nat}(hn:n<w)(hw:w<=12):Vl w (oneS w n l):=by
 have hp:(2:Nat)^n<2^w:=Nat.pow_lt_pow_right qag hn
 refine⟨if(l:Int)=1\/(l:Int)=2 then 2^n else 0,if(l:Int)=3\/(l:Int)=2 then 2^n else 0,0,?_,?_,?_,by decide⟩
 ·unfold oneS mk
  rw[zcg qad]
  simp only[Ps.mk.injEq,true_and]
  refine⟨?_,?_,rfl⟩<;>split<;>rfl
 ·split
  ·exact hp
  ·exact Nat.two_pow_pos w
 ·split
  ·exact hp
  ·exact Nat.two_pow_pos w
def dec(w:Nat)(e:E):Ps:=mk w (e.2%4096) (e.2 / 4096) ((e.1+3*pop 12 ((e.2%4096) &&& (e.2 / 4096)))%4)
theorem zvh(w:Nat){e:E}(h:e.1<4):nf (dec w e)=e:=by
 unfold dec
 rw[zcq]
 refine zc6 ?_ ?_
 ·exact qca
 ·exact qca
theorem dec_vl{w:Nat}{e:E}(hw:w<=12)(h:∀ j,(w<=j/\j<12)\/12+w<=j->e.2.testBit j=false):Vl w (dec w e):=by
 refine⟨_,_,_,rfl,?_,?_,Nat.mod_lt _ qag⟩
 ·refine Nat.lt_pow_two_of_testBit _ fun j hj=>?_
  rw[show(4096:Nat)=2^12 from rfl,Nat.testBit_mod_two_pow]
  by_cases h12:j<12
  ·rw[h j qad];simp
  ·simp[h12]
 ·refine Nat.lt_pow_two_of_testBit _ fun j hj=>?_
  rw[show(4096:Nat)=2^12 from rfl,<- Nat.shiftRight_eq_div_pow,Nat.testBit_shiftRight]
  exact h _ qad
theorem vl_bits{w:Nat}{q:Ps}(hw:w<=12)(h:Vl w q){j:Nat}(hj:(w<=j/\j<12)\/12+w<=j):(nf q).2.testBit j=false:=by
 obtain⟨X,Z,P,rfl,h1,h2,h3⟩:=h
 have hp:(2:Nat)^w<=2^12:=Nat.pow_le_pow_right qag hw
 rw[zcq]
 dsimp only
 rw[zed qad]
 split
 ·exact qdo
 ·exact qdp
def thrS(w k a b:Nat)(q:Ps):Ps:=dec w (gE k a b (nf q))
def gR(w k a b:Nat):Prop:=(1<=k/\k<=6/\a<w)\/(9<=k/\k<=11/\a<w/\b<w/\a≠b)
theorem zmf{w k a b:Nat}(hw:w<=12)(h:gR w k a b):gOk k a b:=by unfold gR at h;unfold gOk;omega
theorem zyx{w k a b:Nat}(hw:w<=12)(h:gR w k a b){q:Ps}(hq:Vl w q):Vl w (thrS w k a b q) :=
 dec_vl hw fun j hj=>ztr (zmf hw h) (w:=w) qdj qdj hj (vl_bits hw hq hj)
theorem nf_thr(w k a b:Nat)(q:Ps):nf (thrS w k a b q)=gE k a b (nf q):=zvh w (zxw _ _ _ _)
def ptS(w X Z P n:Nat):Ps:=mk w (X%2^n) (Z%2^n) P
theorem nf_pt{w X Z P n:Nat}(hn:n<12):nf (ptS w X Z P (n+1))=emul (nf (ptS w X Z P n)) (eL n (X.testBit n) (Z.testBit n)):=by
 have hp:(2:Nat)^(n+1)<=2^12:=Nat.pow_le_pow_right qag hn
 have hX:X%2^(n+1)<4096:=Nat.lt_of_lt_of_le (Nat.mod_lt _ (Nat.two_pow_pos _)) hp
 have hZ:Z%2^(n+1)<4096:=Nat.lt_of_lt_of_le (Nat.mod_lt _ (Nat.two_pow_pos _)) hp
 have hb:∀ Y:Nat,(Y%2^(n+1)).testBit n=Y.testBit n:=fun Y=>by rw[Nat.testBit_mod_two_pow];simp
 have hc:∀ Y:Nat,Y%2^(n+1)^^^cd ((Y%2^(n+1)).testBit n != false) (2^n)=Y%2^n:=fun Y=>by
  refine Nat.eq_of_testBit_eq fun j=>?_
  rw[hb,Nat.testBit_xor,zhd,Nat.testBit_two_pow,Nat.testBit_mod_two_pow,Nat.testBit_mod_two_pow]
  by_cases e:n=j
  ·subst e;simp
  ·rw[decide_eq_false e]
   have:decide (j<n+1)=decide (j<n):=decide_eq_decide.2 qad
   rw[this];simp
 have h1:=nf_set (w:=w) (P:=P) hX hZ hn false false
 rw[hc,hc]at h1
 have h2:eL n false false=e1:=by simp[eL,cd,e1]
 rw[h2,zg4 _ (eclr_lt _ _)]at h1
 unfold ptS
 rw[h1]
 have h3:=eclr_mul hn (nf_lt (mk w (X%2^(n+1)) (Z%2^(n+1)) P))
 have hx:(nf (mk w (X%2^(n+1)) (Z%2^(n+1)) P)).2.testBit n=X.testBit n:=by rw[zcq];dsimp only;rw[zyl hX hn,hb]
 have hz:(nf (mk w (X%2^(n+1)) (Z%2^(n+1)) P)).2.testBit (12+n)=Z.testBit n:=by rw[zcq];dsimp only;rw[zui hX,hb]
 rw[hx,hz]at h3
 exact h3.symm
theorem pt_0{w X Z P k a b:Nat}(h:gOk k a b):nf (ptS w X Z P 0)=gE k a b (nf (ptS w X Z P 0)):=by
 refine(gE_fix h (nf_lt _) ?_ ?_ fun _=>⟨?_,?_⟩).symm<;>(unfold ptS;rw[zcq,Nat.pow_zero,Nat.mod_one,Nat.mod_one];simp)
theorem pt_all{w X Z P n:Nat}(hX:X<2^n)(hZ:Z<2^n):ptS w X Z P n=mk w X Z P:=by
 unfold ptS;rw[Nat.mod_eq_of_lt hX,Nat.mod_eq_of_lt hZ]
theorem pt_step{w X Z P k a b n:Nat}(h:gOk k a b)(hn:n<12){e:E}(he:e=gE k a b (nf (ptS w X Z P n))):emul e (gE k a b (eL n (X.testBit n) (Z.testBit n)))=gE k a b (nf (ptS w X Z P (n+1))):=by
 rw[he,<- zj8 h,<- nf_pt hn]
theorem pt_skip{w X Z P k a b n:Nat}(h:gOk k a b)(hn:n<12)(hx:X.testBit n=false)(hz:Z.testBit n=false){e:E}(he:e=gE k a b (nf (ptS w X Z P n))):e=gE k a b (nf (ptS w X Z P (n+1))):=by
 have h0:eL n false false=e1:=by simp[eL,cd,e1]
 have:=pt_step h hn he
 rw[hx,hz,h0,gE_one h,zg4 _ (by rw[he];exact zxw _ _ _ _)]at this
 exact this
end Go.Tz
namespace Go.Tz
open Go Go.AL Go.Ma
theorem zuy{w:Nat}{l:List Ps}(h:SOk w l):∃ pc,RR l.length (2*w) l.length (rfv l (2*w)) pc:=by
 obtain⟨pc,r1,r2⟩:=zsw h.hi h.vl
 have hb:∀ c,∀ a,a∈revl (rfv l c) l.length->a<2^24:=by
  intro c a ha
  obtain⟨j,hj,rfl⟩:=revl_mem.1 ha
  exact zuj h.hi ((zeq h.hi h.vl c).1 j hj)
 have e1:=zxg (hb (2*w)) (hb 0) fun v=>zgu h.hi h.vl v (Nat.le_refl _)
 have e2:=h.rank
 rw[zs0 h.hi h.vl,<- e1,rk_piv r2,zty]at e2
 have han:=r1.an
 have:(redN l (2*w)).2.2=l.length:=by
  refine Classical.byContradiction fun hn=>?_
  have:=e2 (redN l (2*w)).2.2 qad
  simp at this
 exact⟨pc,by rw[this]at r1;exact r1⟩
theorem same_span{L M:List E}(h:SameG L M)(v:Nat):spB (L.map (·.2)) v=spB (M.map (·.2)) v:=by
 have key:∀{A B:List E},SameG A B->spB (A.map (·.2)) v=true->spB (B.map (·.2)) v=true:=fun hab ha=>by
  obtain⟨g,hg,rfl⟩:=zfk _ v ha
  exact zc5 ((hab g).1 hg)
 cases e:spB (M.map (·.2)) v with
 | true=>exact key (fun g=>(h g).symm) e
 | false =>
  cases e2:spB (L.map (·.2)) v with
  | false=>rfl
  | true=>rw[key h e2]at e;cases e
theorem zux{w:Nat}{l m:List Ps}(h:SOk w l)(h':SOk w m)(hg:SameG (l.map nf) (m.map nf)):redRows l (2*w)=redRows m (2*w):=by
 obtain⟨pc,r1⟩:=zuy h
 obtain⟨pc',r2⟩:=zuy h'
 have hlen:l.length=m.length:=by rw[h.len,h'.len]
 rw[<- hlen]at r2
 have hs:∀ v,spB (revl (rfv l (2*w)) l.length) v=spB (revl (rfv m (2*w)) l.length) v:=fun v=>by
  have e2:=zgu h'.hi h'.vl v (Nat.le_refl (2*w))
  rw[<- hlen]at e2
  have e3:=zuq (l:=m) (v:=v)
  rw[<- hlen]at e3
  rw[zgu h.hi h.vl v (Nat.le_refl _),e2,e3,zuq,same_span hg]
 obtain⟨a1,a2⟩:=zbg h
 obtain⟨b1,b2⟩:=zbg h'
 have hA:=zbv h'
 unfold redRows
 rw[<- hlen]
 refine List.map_congr_left fun j hj=>?_
 have hj:=List.mem_range.1 hj
 have hv:=rr_uniq r1 r2 hs hj
 have mem:∀{l:List Ps},j<l.length->nf ((redN l (2*w)).1 j)∈(redRows l (2*w)).map nf:=fun hj=>List.mem_map.2 ⟨_,List.mem_map.2 ⟨j,List.mem_range.2 hj,rfl⟩,rfl⟩
 have g1:Gen (m.map nf) (nf ((redN l (2*w)).1 j)):=(hg _).1 ((a2 _).2 (zbd (zbv a1).good (mem hj)))
 have g2:Gen (m.map nf) (nf ((redN m (2*w)).1 j)):=(b2 _).2 (zbd (zbv b1).good (mem qad))
 exact zq5 h.hi ((zeq h.hi h.vl _).1 j hj) ((zeq h'.hi h'.vl _).1 j qad) (ziu hA.good hA.ind g1 g2 hv)
theorem zsz{w:Nat}{l:List Ps}(h:SOk w l):redRows (redRows l (2*w)) (2*w)=redRows l (2*w) :=
 (zux h (zbg h).1 (zbg h).2).symm
def appS(w k a b:Nat)(l:List Ps):List Ps:=redRows (l.map (thrS w k a b)) (2*w)
theorem znt(w k a b:Nat)(l:List Ps):(l.map (thrS w k a b)).map nf=(l.map nf).map (gE k a b):=by
 rw[List.map_map,List.map_map]
 exact List.map_congr_left fun q _=>nf_thr w k a b q
theorem zxd{w k a b:Nat}(hw:w<=12)(hg:gR w k a b){l:List Ps}(hv:∀ q,q∈l->Vl w q):∀ q,q∈l.map (thrS w k a b)->Vl w q:=fun q hq=>by
 obtain⟨r,hr,rfl⟩:=List.mem_map.1 hq
 exact zyx hw hg (hv r hr)
theorem zhy{w k a b:Nat}(hg:gR w k a b){l:List Ps}(h:SOk w l):SOk w (l.map (thrS w k a b)):=by
 refine zli ⟨h.lo,h.hi⟩ (zxd h.hi hg h.vl) ?_
 rw[znt]
 exact gE_sta h.hi (zmf h.hi hg) (by unfold gR at hg;omega) (by unfold gR at hg;omega) (zbv h)
theorem app_sok{w k a b:Nat}(hg:gR w k a b){l:List Ps}(h:SOk w l):SOk w (appS w k a b l):=(zbg (zhy hg h)).1
theorem zu5{w:Nat}{L M:List E}(hL:Sta w L)(hM:Sta w M){p:E}(hok:eok p)(h:SameG L M)(hxL:∃ q,q∈L /\ ¬ ecom q p)(hxM:∃ q,q∈M /\ ¬ ecom q p){g:E}(hg:Gen (proj p L) g):Gen (proj p M) g:=by
 obtain⟨k,hk,hc,e⟩:=zqz hL.good hok hxL hg
 obtain⟨f,hf,hfp,hkeep⟩:=zlw hM.good hok hxM
 have h1:=(hkeep k ((h k).1 hk)).1 hc
 have hgd:=zga hM.good hok hxM
 rcases e with rfl|rfl
 ·exact h1
 ·exact zbu hgd (zbd hgd (zko hxM)) h1
theorem proj_same{w:Nat}{L M:List E}(hw:w<=12)(hL:Sta w L)(hM:Sta w M){p:E}(hp:inV w p.2)(hok:eok p)(h:SameG L M)(h1:¬ Gen L p)(h2:¬ Gen L (eneg p)):SameG (proj p L) (proj p M):=by
 have hxL:=zgq hw hL hp hok h1 h2
 have hxM:=zgq hw hM hp hok (fun q=>h1 ((h p).2 q)) (fun q=>h2 ((h _).2 q))
 exact fun g=>⟨zu5 hL hM hok h hxL hxM,zu5 hM hL hok (fun g=>(h g).symm) hxM hxL⟩
end Go.Tz
namespace Go.Tz
open Go Go.AL Go.Ma
def zP(w n o:Nat):Ps:=mk w 0 (2^n) (2*o)
theorem zkf{w n o:Nat}(hn:n<w)(ho:o<=1):Vl w (zP w n o):=⟨0,2^n,2*o,rfl,Nat.two_pow_pos w,Nat.pow_lt_pow_right qag hn,by omega⟩
theorem zr6{w n o:Nat}(hw:w<=12)(hn:n<w)(ho:o<=1):eok (nf (zP w n o)):=by
 rw[zrl hw (zkf hn ho)]
 show((2*o:Nat):Int).tmod 2=0
 rw[Int.tmod_eq_emod_of_nonneg qad];omega
theorem zcs{L:List E}{g:E}{e:Int}(h:ExpOk L g e):(e=1/\Gen L g)\/(e = -1/\Gen L (eneg g))\/(e=0 /\ ¬ Gen L g /\ ¬ Gen L (eneg g)):=by
 by_cases a:Gen L g
 ·exact .inl ⟨h.pos a,a⟩
 ·by_cases b:Gen L (eneg g)
  ·exact .inr (.inl ⟨h.neg b,b⟩)
  ·exact .inr (.inr ⟨h.zero a b,a,b⟩)
theorem zs4{w N:Nat}(hw:w<=12){rf:Nat->Ps}{p:Ps}{a0:Nat}{R:List Nat}(hv:∀ j,j<N->Vl w (rf j))(hp:Vl w p)(ha:a0<N):∀ j,j<N->Vl w (prjF rf p a0 R j):=by
 intro j hj
 unfold prjF prjR
 split
 ·exact hp
 ·split
  ·exact zes hw (hv j hj) (hv a0 ha)
  ·exact hv j hj
theorem ztg{w:Nat}{l r:List Ps}(h:SOk w l)(h':SOk w r)(hg:SameG (r.map nf) (l.map nf)){p:Ps}(hp:Vl w p)(hk:eok (nf p)) :
  expP r p=expR w l p/\(expR w l p=0->SOk w (prjL p l) /\ ∃ a0 R,antL p (fun j=>r.getD j Ps.z0) w=a0::R/\a0<w/\redRows (rowsL w (prjF (fun j=>r.getD j Ps.z0) p a0 R)) (2*w)=redRows (prjL p l) (2*w)):=by
 have x1:=expP_ok h' hp hk
 have x2:=zgh h hp hk
 refine⟨zxx hg x1 x2,fun h0=>?_⟩
 have hs:=zbv h
 have hs':=zbv h'
 have hpin:inV w (nf p).2:=zle h.hi hp
 have hn:¬ Gen (l.map nf) (nf p) /\ ¬ Gen (l.map nf) (eneg (nf p)):=by
  rcases zcs x2 with⟨a,_⟩|⟨a,_⟩|⟨_,b⟩
  ·rw[a]at h0;cases h0
  ·rw[a]at h0;cases h0
  ·exact b
 have hn':¬ Gen (r.map nf) (nf p) /\ ¬ Gen (r.map nf) (eneg (nf p)):=⟨fun q=>hn.1 ((hg _).1 q),fun q=>hn.2 ((hg _).1 q)⟩
 have er:=zlp r h'.len
 have hx:=zgq h.hi hs' hpin hk hn'.1 hn'.2
 rw[<- er]at hx
 have hne:=ant_ne hx
 have hS:SOk w (prjL p l):=by
  refine zli ⟨h.lo,h.hi⟩ (zs3 h.hi hp h.vl) ?_
  rw[zhv h.hi h.vl hs.good]
  exact zkn h.hi hs hpin hk hn.1 hn.2
 refine⟨hS,?_⟩
 cases hA:antL p (fun j=>r.getD j Ps.z0) w with
 | nil=>exact absurd hA hne
 | cons a0 R =>
  have hv:∀ j,j<w->Vl w (r.getD j Ps.z0):=fun j hj=>by
   rw[List.getD_eq_getElem?_getD,List.getElem?_eq_getElem (by rw[h'.len];exact hj),Option.getD_some]
   exact h'.vl _ (List.getElem_mem _)
  have ha:=(zha hA).1
  refine⟨a0,R,rfl,ha,?_⟩
  have hf:=prjF_nf h.hi hv hA
  rw[er]at hf
  have hS2:SOk w (rowsL w (prjF (fun j=>r.getD j Ps.z0) p a0 R)):=by
   refine zli ⟨h.lo,h.hi⟩ (fun q hq=>?_) ?_
   ·obtain⟨j,hj,rfl⟩:=List.mem_map.1 hq
    exact zs4 h.hi hv hp ha j (List.mem_range.1 hj)
   ·rw[hf]
    exact zkn h.hi hs' hpin hk hn'.1 hn'.2
  refine zux hS2 hS ?_
  rw[hf,zhv h.hi h.vl hs.good]
  exact proj_same h.hi hs' hs hpin hk hg hn'.1 hn'.2
end Go.Tz
namespace Go.Tz
open Go Go.AL Go.Proofs
variable{G:Nat->Option (List D)}
structure Gt where
 (k:Int)
 (ws:List Int)
 (u:Bool)
 (b i:Int)
def Gt.l(g:Gt):List D:=[iD g.k,intsD g.ws g.u,iD g.b,iD g.i]
abbrev Gt.d(g:Gt):D:=.agg g.l
abbrev gatesD(l:List Gt)(t:Bool):D:=.sl (l.map Gt.l) t
abbrev circD(w b:Int)(l:List Gt)(t:Bool):D:=.agg [iD w,iD b,gatesD l t]
theorem zm6{l:List Gt}{k:Nat}(h:k<l.length):(l.map Gt.l)[(k:Int).toNat]?=some (l[k]).l:=qec
theorem chk201:chkFn Tryz.f201=true:=qah
theorem idx201(l:List Gt)(t:Bool)(f:FuncId)(first cap:List D)(p:Gt->Bool)(hn:l.length<=1000)(hf:∀ q,q∈l->PC Pr G f (first++[q.d]++cap) (.bool (p q))):PC Pr G 201 [gatesD l t,.fn f first cap] (iD (idxI p l)):=by
 refine zai pok Tryz.func201 chk201 ?_
 conv=>whnf
 skip
 refine zaq pok (fun i=>⟨[(0,.d (gatesD l t)),(1,.d (.fn f first cap)),(7,.d (iD (l.map Gt.l).length)),(8,.d (iD i))],[],0⟩) (l.length) (fun i=>∀ q,q∈l.take i->p q=false) qc3 ?_ qah ?_ ?_
 ·exact qf2
 ·intro i A_i h_i I_i N_i
  have e_i:iadd .i64 (i:Int) 1=((i+1:Nat):Int):=zah qbl
  have hq:=hf l[i] (List.getElem_mem h_i)
  conv=>whnf
  repeat' first|((first|refine LookP.mk _ qdf ?_|refine And.intro qbi ?_|rw[za2]|refine zbk hq rfl ?_);conv=>whnf)|(intro t ht;cases t<;>conv=>whnf)
  ·exact qbw
  ·exact qgu
  ·exact qhs
 ·exact qf7
theorem chk116:chkFn Tryz.f116=true:=qah
theorem has116(l:List Gt)(t:Bool)(f:FuncId)(first cap:List D)(p:Gt->Bool)(hn:l.length<=1000)(hf:∀ q,q∈l->PC Pr G f (first++[q.d]++cap) (.bool (p q))):PC Pr G 116 [gatesD l t,.fn f first cap] (.bool (l.any p)):=by
 have hi:=idx201 l t f first cap p hn hf
 rw[<- zmd]
 generalize idxI p l=i at hi⊢
 refine zai pok Tryz.func116 chk116 ?_
 conv=>whnf
 repeat' first|(refine zak hi ?_;conv=>whnf)|(intro t ht;cases t<;>conv=>whnf)
 all_goals rw[ht];exact fin rfl
theorem chk208:chkFn Tryz.f208=true:=qah
theorem ev208(q:Gt)(f:FuncId)(first cap:List D)(b:Bool)(hf:PC Pr G f (first++[q.d]++cap) (.bool b)):PC Pr G 208 [q.d,.rop [.fn f first cap] 0] (.bool (!b)):=by
 refine zai pok Tryz.func208 chk208 ?_
 conv=>whnf
 repeat' first|((first|refine LookP.mk _ rfl ?_|rw[za2]|refine zbk hf rfl ?_);conv=>whnf)|(intro t ht;cases t<;>conv=>whnf)
 all_goals rw[ht];exact fin rfl
theorem chk131:chkFn Tryz.f131=true:=qah
theorem every131(l:List Gt)(t:Bool)(f:FuncId)(first cap:List D)(p:Gt->Bool)(hn:l.length<=1000)(hf:∀ q,q∈l->PC Pr G f (first++[q.d]++cap) (.bool (p q))):PC Pr G 131 [gatesD l t,.fn f first cap] (.bool (l.all p)):=by
 have hi:=has116 (G:=G) l t 208 [] [.rop [.fn f first cap] 0] (fun q=>!p q) hn fun q hq=>ev208 q f first cap (p q) (hf q hq)
 refine zai pok Tryz.func131 chk131 ?_
 conv=>whnf
 have e:l.all p = !l.any (fun q=>!p q):=by
  rw[List.all_eq_not_any_not]
 rw[e]
 repeat' first|(refine zb4 hi rfl ?_)|(intro t ht;cases t<;>conv=>whnf)
 all_goals rw[ht];exact fin rfl
theorem chk256:chkFn Tryz.f256=true:=qah
theorem idx256(l:List Int)(t:Bool)(f:FuncId)(first cap:List D)(p:Int->Bool)(hn:l.length<=1000)(hf:∀ q,q∈l->PC Pr G f (first++[iD q]++cap) (.bool (p q))):PC Pr G 256 [intsD l t,.fn f first cap] (iD (idxI p l)):=by
 refine zai pok Tryz.func256 chk256 ?_
 conv=>whnf
 skip
 refine zaq pok (fun i=>⟨[(0,.d (intsD l t)),(1,.d (.fn f first cap)),(7,.d (iD (l.map fun k=>[iD k]).length)),(8,.d (iD i))],[],0⟩) (l.length) (fun i=>∀ q,q∈l.take i->p q=false) qc3 ?_ qah ?_ ?_
 ·exact qf2
 ·intro i A_i h_i I_i N_i
  have e_i:iadd .i64 (i:Int) 1=((i+1:Nat):Int):=zah qbl
  have hq:=hf l[i] (List.getElem_mem h_i)
  conv=>whnf
  repeat' first|((first|refine LookP.mk _ (by first|rfl|exact get_i h_i) ?_|refine And.intro qbi ?_|rw[za2]|refine zbk hq rfl ?_);conv=>whnf)|(intro t ht;cases t<;>conv=>whnf)
  ·exact qbw
  ·exact qgu
  ·exact qhs
 ·exact qf7
theorem chk209:chkFn Tryz.f209=true:=qah
theorem zvy(l:List Int)(t:Bool)(f:FuncId)(first cap:List D)(p:Int->Bool)(hn:l.length<=1000)(hf:∀ q,q∈l->PC Pr G f (first++[iD q]++cap) (.bool (p q))):PC Pr G 209 [intsD l t,.fn f first cap] (.bool (l.any p)):=by
 have hi:=idx256 l t f first cap p hn hf
 rw[<- zmd]
 generalize idxI p l=i at hi⊢
 refine zai pok Tryz.func209 chk209 ?_
 conv=>whnf
 repeat' first|(refine zak hi ?_;conv=>whnf)|(intro t ht;cases t<;>conv=>whnf)
 all_goals rw[ht];exact fin rfl
theorem chk210:chkFn Tryz.f210=true:=qah
theorem ev210(q:Int)(f:FuncId)(first cap:List D)(b:Bool)(hf:PC Pr G f (first++[iD q]++cap) (.bool b)):PC Pr G 210 [iD q,.rop [.fn f first cap] 0] (.bool (!b)):=by
 refine zai pok Tryz.func210 chk210 ?_
 conv=>whnf
 repeat' first|((first|rw[za2]|refine zbk hf rfl ?_);conv=>whnf)|(intro t ht;cases t<;>conv=>whnf)
 all_goals rw[ht];exact fin rfl
theorem chk134:chkFn Tryz.f134=true:=qah
theorem every134(l:List Int)(t:Bool)(f:FuncId)(first cap:List D)(p:Int->Bool)(hn:l.length<=1000)(hf:∀ q,q∈l->PC Pr G f (first++[iD q]++cap) (.bool (p q))):PC Pr G 134 [intsD l t,.fn f first cap] (.bool (l.all p)):=by
 have hi:=zvy (G:=G) l t 210 [] [.rop [.fn f first cap] 0] (fun q=>!p q) hn fun q hq=>ev210 q f first cap (p q) (hf q hq)
 refine zai pok Tryz.func134 chk134 ?_
 conv=>whnf
 have e:l.all p = !l.any (fun q=>!p q):=by
  rw[List.all_eq_not_any_not]
 rw[e]
 repeat' first|(refine zb4 hi rfl ?_)|(intro t ht;cases t<;>conv=>whnf)
 all_goals rw[ht];exact fin rfl
theorem chk272:chkFn Tryz.f272=true:=qah
theorem ev272(q:Int)(f:FuncId)(first cap:List D)(b:Bool)(hf:PC Pr G f (first++[iD q]++cap) (.bool b)):PC Pr G 272 [iD q,.rop [.fn f first cap] 0] (.bool (!b)):=by
 refine zai pok Tryz.func272 chk272 ?_
 conv=>whnf
 repeat' first|((first|rw[za2]|refine zbk hf rfl ?_);conv=>whnf)|(intro t ht;cases t<;>conv=>whnf)
 all_goals rw[ht];exact fin rfl
theorem chk255:chkFn Tryz.f255=true:=qah
theorem every255(l:List Int)(t:Bool)(f:FuncId)(first cap:List D)(p:Int->Bool)(hn:l.length<=1000)(hf:∀ q,q∈l->PC Pr G f (first++[iD q]++cap) (.bool (p q))):PC Pr G 255 [intsD l t,.fn f first cap] (.bool (l.all p)):=by
 have hi:=zvy (G:=G) l t 272 [] [.rop [.fn f first cap] 0] (fun q=>!p q) hn fun q hq=>ev272 q f first cap (p q) (hf q hq)
 refine zai pok Tryz.func255 chk255 ?_
 conv=>whnf
 have e:l.all p = !l.any (fun q=>!p q):=by
  rw[List.all_eq_not_any_not]
 rw[e]
 repeat' first|(refine zb4 hi rfl ?_)|(intro t ht;cases t<;>conv=>whnf)
 all_goals rw[ht];exact fin rfl
end Go.Tz
namespace Go.Tz
open Go Go.AL Go.Proofs
variable{G:Nat->Option (List D)}
theorem fiI{a b:Int}(h:a=b):AV.d (.int .i64 a)=AV.d (iD b):=by rw[h]
theorem fiB{a b:Bool}(h:a=b):AV.d (.bool a)=AV.d (.bool b):=by rw[h]
def arI(k:Int):Int:=if(1<=k/\k<=8)\/k=13\/k=14 then 1 else if 9<=k/\k<=11 then 2 else if k=12 then 3 else 0
theorem ari1{k:Int}(h:(1<=k/\k<=8)\/k=13\/k=14):arI k=1:=by unfold arI;rw[if_pos h]
theorem ari2{k:Int}(h:9<=k/\k<=11):arI k=2:=by unfold arI;rw[if_neg qad,if_pos h]
theorem ari3{k:Int}(h:k=12):arI k=3:=by unfold arI;rw[if_neg qad,if_neg qad,if_pos h]
theorem ari0{k:Int}(h:k<1\/k>14):arI k=0:=by unfold arI;rw[if_neg qad,if_neg qad,if_neg qad]
theorem chk159:chkFn Tryz.f159=true:=qah
theorem ar159(k:Int):PC Pr G 159 [iD k] (iD (arI k)):=by
 refine zai pok Tryz.func159 chk159 ?_
 conv=>whnf
 repeat' first|(intro t ht;cases t<;>conv=>whnf)
 all_goals refine fin ?_
 all_goals refine fiI ?_
 all_goals simp at *
 all_goals first|exact(ari1 qad).symm|exact(ari2 qad).symm|exact(ari3 qad).symm|exact(ari0 qad).symm
def dupAt(ws:List Int)(i:Nat):Bool:=match ws[i]? with
 | some n=>decide (n∈ws.take i)
 | none=>false
def dupB(ws:List Int):Bool:=(List.range ws.length).any (dupAt ws)
theorem zpl{ws:List Int}{i:Nat}(h:i<ws.length):dupAt ws i=decide (ws[i]∈ws.take i):=by
 unfold dupAt;rw[List.getElem?_eq_getElem h]
theorem dupB_of{ws:List Int}{i:Nat}(h:i<ws.length)(h1:dupAt ws i=true):dupB ws=true:=List.any_eq_true.2 ⟨i,List.mem_range.2 h,h1⟩
theorem dupB_no{ws:List Int}(h:∀ j,j<ws.length->dupAt ws j=false):dupB ws=false:=List.any_eq_false.2 fun j hj=>by rw[h j (List.mem_range.1 hj)];simp
def outB(w:Int)(ws:List Int):Bool:=ws.any fun n=>decide (n<0\/n>=w)
def bitE(g:Gt)(bits:Int):Int:=if g.i<0\/g.i>bits\/(g.k=13/\(g.b<0\/g.b>=bits)) then 1 else if((g.k=13\/g.k=14)/\g.i≠0)\/(g.k≠13/\g.b≠0) then 7 else 0
def gchk(g:Gt)(w bits:Int):Int:=if arI g.k=0 then 3 else if(g.ws.length:Int)≠arI g.k then 2 else if outB w g.ws=true then 1 else if dupB g.ws=true then 5 else bitE g bits
theorem chk254:chkFn Tryz.f254=true:=qah
theorem wire254(n w b:Int)(gd:D):PC Pr G 254 [iD n,.rop [iD w,iD b,gd,.nilf] 0] (.bool (!decide (n<0\/n>=w))):=by
 refine zai pok Tryz.func254 chk254 ?_
 conv=>whnf
 repeat' first|(intro t ht;cases t<;>conv=>whnf)
 all_goals refine fin ?_
 all_goals refine fiB ?_
 all_goals simp at *
 all_goals omega
theorem bitE1{g:Gt}{bits:Int}(h:g.i<0\/g.i>bits\/(g.k=13/\(g.b<0\/g.b>=bits))):bitE g bits=1:=by unfold bitE;rw[if_pos h]
theorem bitE7{g:Gt}{bits:Int}(h:¬(g.i<0\/g.i>bits\/(g.k=13/\(g.b<0\/g.b>=bits))))(h2:((g.k=13\/g.k=14)/\g.i≠0)\/(g.k≠13/\g.b≠0)):bitE g bits=7:=by unfold bitE;rw[if_neg h,if_pos h2]
theorem bitE0{g:Gt}{bits:Int}(h:¬(g.i<0\/g.i>bits\/(g.k=13/\(g.b<0\/g.b>=bits))))(h2:¬(((g.k=13\/g.k=14)/\g.i≠0)\/(g.k≠13/\g.b≠0))):bitE g bits=0:=by unfold bitE;rw[if_neg h,if_neg h2]
theorem ar_le{k:Int}(h:arI k≠0):k<=14:=by
 refine Classical.byContradiction fun hn=>h (ari0 qad)
theorem out_no{w:Int}{ws:List Int}(h:∀ n,n∈ws->¬(n<0\/n>=w)):outB w ws=false:=List.any_eq_false.2 fun n hn=>by simpa using h n hn
end Go.Tz
namespace Go.Tz
open Go Go.AL Go.Proofs
variable{G:Nat->Option (List D)}
theorem all_out(w:Int)(ws:List Int):(ws.all fun n=>!decide (n<0\/n>=w)) = !outB w ws:=by
 unfold outB;rw[List.not_any_eq_all_not]
theorem chk207:chkFn Tryz.f207=true:=qah
theorem gate207(g:Gt)(w bits:Int)(gd:D)(hn:g.ws.length<=1000):PC Pr G 207 [.agg [iD w,iD bits,gd,.nilf],g.d] (iD (gchk g w bits)):=by
 obtain⟨k,ws,u,b,f⟩:=g
 have hn:ws.length<=1000:=hn
 have h159:=ar159 (G:=G) k
 have hev:=every255 (G:=G) ws u 254 [] [.rop [iD w,iD bits,gd,.nilf] 0] (fun n=>!decide (n<0\/n>=w)) hn fun n _=>wire254 n w bits gd
 rw[all_out]at hev
 refine zai pok Tryz.func207 chk207 ?_
 conv=>whnf
 repeat' first|((first|refine LookP.mk _ rfl ?_|refine zak h159 ?_|refine zam h159 ?_);conv=>whnf)|(refine zb4 hev rfl ?_)|(refine HpP.force ?_;conv=>whnf)|(intro t ht;cases t<;>conv=>whnf)
 ·refine fin ?_
  rename_i hA hL
  have hA:arI k≠0:=by simpa using hA
  have hL:(ws.length:Int)=arI k:=qeh
  have:gchk ⟨k,ws,u,b,f⟩ w bits=1:=by unfold gchk;rw[if_neg hA,if_neg qeh,if_pos qb3]
  rw[this]
 ·rename_i hA hL
  have hA:arI k≠0:=by simpa using hA
  have hL:(ws.length:Int)=arI k:=qeh
  have hO:outB w ws=false:=qb3
  refine zaq pok (fun i=>⟨[(2,.ptr 0 4 0 0),(3,.ptr 1 4 0 0),(30,.d (intsD ws u)),(31,.d (iD (ws.map fun k=>[iD k]).length)),(32,.d (iD i))],[(0,some (.arr 4 [[.d (iD w),.d (iD bits),.d gd,.d .nilf]])),(1,some (.arr 4 [[.d (iD k),.d (intsD ws u),.d (iD b),.d (iD f)]]))],2⟩) (ws.length) (fun i=>∀ j,j<i->dupAt ws j=false) qad ?_ qah ?_ ?_
  ·exact qf2
  ·intro i A_i h_i I_i N_i
   have e_i:iadd .i64 (i:Int) 1=((i+1:Nat):Int):=zah qbl
   have hm:∀ t,PC Pr G 25 [.sl (List.take ((i:Int).toNat-0) (List.drop 0 (ws.map fun k=>[iD k]))) t,iD ws[i]] (.bool (dupAt ws i)):=by
    intro t
    rw[Nat.sub_zero,List.drop_zero,Int.toNat_natCast,<- List.map_take,zpl h_i]
    exact has25 (G:=G) (ws.take i) t ws[i] qbo
   conv=>whnf
   repeat (refine LookP.mk _ rfl ?_;conv=>whnf)
   intro t ht
   cases t
   ·exact qbh
   conv=>whnf
   repeat' first|((first|refine LookP.mk _ (by first|rfl|exact get_i h_i) ?_|refine And.intro (by first|exact⟨Nat.zero_le _,by simp;omega,by simp⟩|assumption|exact⟨by kernel_rfl,rfl⟩|decide|omega) ?_|fail);conv=>whnf)|(refine zhw ((hm _)) ?_)|(intro t ht;cases t<;>conv=>whnf)
   ·refine N_i _ ?_ ?_
    ·(intro j hj;rcases Nat.lt_or_ge j i with q|q;exact I_i j q;rw[show j=i by omega];exact ht)
    ·exact qf3
   ·refine fin ?_
    have:gchk ⟨k,ws,u,b,f⟩ w bits=5:=by unfold gchk;rw[if_neg hA,if_neg qeh,if_neg (by rw[hO];simp),if_pos (dupB_of h_i ht)]
    rw[this]
  ·intro A_last I_last
   have hD:=dupB_no I_last
   have hg:gchk ⟨k,ws,u,b,f⟩ w bits=bitE ⟨k,ws,u,b,f⟩ bits:=by unfold gchk;rw[if_neg hA,if_neg qeh,if_neg (by rw[hO];simp),if_neg (by rw[hD];simp)]
   rw[hg]
   have hk:=ar_le hA
   conv=>whnf
   repeat (refine LookP.mk _ rfl ?_;conv=>whnf)
   intro t ht
   cases t
   rotate_left
   ·exact qbh
   conv=>whnf
   repeat' first|(refine LookP.mk _ rfl ?_;conv=>whnf)|(intro t ht;cases t<;>conv=>whnf)
   all_goals refine fin ?_
   all_goals refine fiI ?_
   all_goals simp at *
   all_goals first|exact(bitE1 qca).symm|exact(bitE7 qca qca).symm|exact(bitE0 qca qca).symm
 ·refine fin ?_
  rename_i hA
  have hA:arI k≠0:=by simpa using hA
  have:gchk ⟨k,ws,u,b,f⟩ w bits=2:=by unfold gchk;rw[if_neg hA,if_pos qb3]
  rw[this]
 ·refine fin ?_
  have:gchk ⟨k,ws,u,b,f⟩ w bits=3:=by unfold gchk;rw[if_pos qb3]
  rw[this]
theorem find_atG{α:Type}{l:List α}{p:α->Bool}{i:Nat}(h:i<l.length)(hz:∀ q,q∈l.take i->p q=false)(hp:p l[i]=true):l.find? p=some l[i]:=by
 rw[List.find?_eq_some_iff_getElem]
 refine⟨hp,i,h,rfl,fun j hj=>?_⟩
 rw[hz _ (List.mem_take_iff_getElem.2 ⟨j,by omega,rfl⟩)];rfl
def cchk(w bits:Int)(l:List Gt):Int:=if w<1\/w>12\/bits<0\/bits>8 then 3 else if l.length>120 then 2 else match l.find? (fun g=>decide (gchk g w bits≠0)) with
 | some g=>gchk g w bits
 | none=>0
theorem cchk3{w bits:Int}{l:List Gt}(h:w<1\/w>12\/bits<0\/bits>8):cchk w bits l=3:=by unfold cchk;rw[if_pos h]
theorem cchk2{w bits:Int}{l:List Gt}(h:¬(w<1\/w>12\/bits<0\/bits>8))(h2:l.length>120):cchk w bits l=2:=by unfold cchk;rw[if_neg h,if_pos h2]
theorem cchk_at{w bits:Int}{l:List Gt}(h:¬(w<1\/w>12\/bits<0\/bits>8))(h2:¬ l.length>120){i:Nat}(hi:i<l.length)(h3:∀ g,g∈l.take i->gchk g w bits=0)(h4:gchk l[i] w bits≠0):cchk w bits l=gchk l[i] w bits:=by
 unfold cchk
 rw[if_neg h,if_neg h2,find_atG (p:=fun g=>decide (gchk g w bits≠0)) hi (fun q hq=>by simp[h3 q hq]) (by simpa using h4)]
theorem cchk0{w bits:Int}{l:List Gt}(h:¬(w<1\/w>12\/bits<0\/bits>8))(h2:¬ l.length>120)(h3:∀ g,g∈l->gchk g w bits=0):cchk w bits l=0:=by
 unfold cchk
 rw[if_neg h,if_neg h2,List.find?_eq_none.2 (by intro q hq;simp[h3 q hq])]
theorem cchk_ok{w bits:Int}{l:List Gt}(h:cchk w bits l=0):(1<=w/\w<=12)/\(0<=bits/\bits<=8)/\l.length<=120 /\ ∀ g,g∈l->gchk g w bits=0:=by
 by_cases h1:w<1\/w>12\/bits<0\/bits>8
 ·rw[cchk3 h1]at h;cases h
 ·by_cases h2:l.length>120
  ·rw[cchk2 h1 h2]at h;cases h
  ·refine⟨by omega,by omega,by omega,fun g hg=>?_⟩
   unfold cchk at h
   rw[if_neg h1,if_neg h2]at h
   cases e:l.find? (fun g=>decide (gchk g w bits≠0)) with
   | none =>
    have:=List.find?_eq_none.1 e g hg
    simpa using this
   | some x =>
    have h5:=List.find?_some e
    rw[e]at h
    simp only[ne_eq,decide_not,Bool.not_eq_eq_eq_not,Bool.not_true,decide_eq_false_iff_not]at h5
    exact absurd h h5
theorem chk129:chkFn Tryz.f129=true:=qah
theorem zps(w bits:Int)(l:List Gt)(t:Bool)(hn:l.length<=1000)(hws:∀ g,g∈l->g.ws.length<=1000):PC Pr G 129 [circD w bits l t] (iD (cchk w bits l)):=by
 refine zai pok Tryz.func129 chk129 ?_
 conv=>whnf
 repeat' first|(refine LookP.mk _ rfl ?_;conv=>whnf)|(intro t ht;cases t<;>conv=>whnf)
 ·have hR:¬(w<1\/w>12\/bits<0\/bits>8):=by simp at *;omega
  have hL:¬ l.length>120:=by simp at ht;omega
  refine zaq pok (fun i=>⟨[(3,.d (.fn 207 [.agg [iD w,iD bits,gatesD l t,.nilf]] [])),(35,.d (gatesD l t)),(36,.d (iD (l.map Gt.l).length)),(37,.d (iD i))],[],0⟩) (l.length) (fun i=>∀ g,g∈l.take i->gchk g w bits=0) qc3 ?_ qah ?_ ?_
  ·exact qf2
  ·intro i A_i h_i I_i N_i
   have e_i:iadd .i64 (i:Int) 1=((i+1:Nat):Int):=zah qbl
   have hc:=gate207 (G:=G) l[i] w bits (gatesD l t) (hws _ (List.getElem_mem h_i))
   have hst:gchk l[i] w bits=0->∀ g,g∈l.take (i+1)->gchk g w bits=0:=fun h g hg=>by
    rw[zbe h_i,List.mem_append,List.mem_singleton]at hg
    rcases hg with q|q
    ·exact I_i g q
    ·rw[q];exact h
   have hat:=cchk_at hR hL h_i I_i
   generalize gchk l[i] w bits=e at hc hst hat
   conv=>whnf
   repeat (refine LookP.mk _ rfl ?_;conv=>whnf)
   intro t ht
   cases t
   ·exact qbh
   conv=>whnf
   repeat' first|((first|refine LookP.mk _ qdf ?_|refine ShlP.mk _ qaa ?_|refine And.intro qbi ?_|refine zak hc ?_|refine HpP.force ?_);conv=>whnf)|(intro t ht;cases t<;>conv=>whnf)
   ·refine N_i _ ?_ ?_
    ·exact hst qb3
    ·exact qf3
   ·refine fin ?_
    rw[hat qb3]
  ·intro A_last I_last
   rw[List.take_length]at I_last
   conv=>whnf
   repeat (refine LookP.mk _ rfl ?_;conv=>whnf)
   intro t ht
   cases t
   rotate_left
   ·exact qbh
   conv=>whnf
   skip
   refine fin ?_
   rw[cchk0 hR hL I_last]
 all_goals refine fin ?_
 all_goals refine fiI ?_
 all_goals simp at *
 all_goals first|exact(cchk3 qad).symm|exact(cchk2 qad qad).symm
end Go.Tz
namespace Go.Tz
open Go Go.AL Go.Proofs Go.Ma
variable{G:Nat->Option (List D)}
def Gt.own(g:Gt):Gt:={ g with u:=false }
theorem asD_agg3{H:AHeap}{v1 v2 v3:AV}{d1 d2 d3:D}(h1:AsD H v1 d1)(h2:AsD H v2 d2)(h3:AsD H v3 d3):AsD H (.agg [v1,v2,v3]) (.agg [d1,d2,d3]):=by
 refine .agg _ _ rfl fun j v d hv hd=>?_
 match j,hv,hd with
 | 0,hv,hd=>simp at hv hd;subst hv hd;exact h1
 | 1,hv,hd=>simp at hv hd;subst hv hd;exact h2
 | 2,hv,hd=>simp at hv hd;subst hv hd;exact h3
 | j+3,hv,_=>simp at hv
end Go.Tz
namespace Go.Tz
open Go Go.AL Go.Proofs Go.Ma
variable{G:Nat->Option (List D)}
def minS(q:Ps):Ps:=⟨q.w,q.x,q.z,(iadd .i64 q.p 2).tmod 4⟩
theorem chk258:chkFn Tryz.f258=true:=qah
theorem zoy(q:Ps):PC Pr G 258 [q.d] (minS q).d:=by
 refine zai pok Tryz.func258 chk258 ?_
 conv=>whnf
 repeat' first|((first|refine LookP.mk _ rfl ?_|refine ShlP.mk _ qaa ?_|refine And.intro qbi ?_|refine HpP.force ?_);conv=>whnf)
 exact fin rfl
theorem chk214:chkFn Tryz.f214=true:=qah
def im1(w a k:Nat):Ps×Ps:=match k with
 | 1=>(oneS w a 1,minS (oneS w a 3))
 | 2=>(minS (oneS w a 1),minS (oneS w a 3))
 | 3=>(minS (oneS w a 1),oneS w a 3)
 | 4=>(oneS w a 3,oneS w a 1)
 | 5=>(oneS w a 2,oneS w a 3)
 | _=>(minS (oneS w a 2),oneS w a 3)
def im2(w n c k:Nat)(z:Bool):Ps×Ps:=match k with
 | 9=>match z with
  | true=>(timS (oneS w n 1) (oneS w c 1),oneS w n 3)
  | false=>(oneS w n 1,timS (oneS w c 3) (oneS w n 3))
 | 10=>(timS (oneS w n 1) (oneS w c 3),oneS w n 3)
 | _=>(oneS w c 1,oneS w c 3)
theorem one_w(w n l:Int):(oneS w n l).w=w:=rfl
theorem zfh{α:Type}[BEq α][ReflBEq α]{a:α}{k:Bool->Prop}(h:k true):∀ t,(a==a)=t->k t:=fun t e=>by
 have e2:true=t:=(beq_self_eq_true a).symm.trans e
 exact e2 ▸ h
theorem zi6{a b:Int}{k:Bool->Prop}(hne:decide (a=b)=false)(h:k false):∀ t,(a==b)=t->k t:=fun t e=>by
 have hne:a≠b:=of_decide_eq_false hne
 have e2:false=t:=(beq_false_of_ne hne).symm.trans e
 exact e2 ▸ h
theorem images1{w a k:Nat}{K:Int}(hK:K=k)(h1:1<=k)(h2:k<=6)(u:Bool)(b i:Int):PC Pr G 214 [iD w,(Gt.mk K [(a:Int)] u b i).d,iD 0] (.tup [(im1 w a k).1.d,(im1 w a k).2.d]):=by
 have g1:=zhk (G:=G) w a 1 (Int.natCast_nonneg _)
 have g2:=zhk (G:=G) w a 2 (Int.natCast_nonneg _)
 have g3:=zhk (G:=G) w a 3 (Int.natCast_nonneg _)
 have hk:k=1\/k=2\/k=3\/k=4\/k=5\/k=6:=qad
 rcases hk with rfl|rfl|rfl|rfl|rfl|rfl
 all_goals first|obtain rfl:K=1:=hK|obtain rfl:K=2:=hK|obtain rfl:K=3:=hK|obtain rfl:K=4:=hK|obtain rfl:K=5:=hK|obtain rfl:K=6:=hK
 all_goals
  simp only[im1]
  generalize oneS w a 1=q1 at g1⊢
  generalize oneS w a 2=q2 at g2⊢
  generalize oneS w a 3=q3 at g3⊢
  have m1:=zoy (G:=G) q1
  have m2:=zoy (G:=G) q2
  have m3:=zoy (G:=G) q3
  refine zai pok Tryz.func214 chk214 ?_
  conv=>whnf
  repeat' first|((first|refine LookP.mk _ rfl ?_|refine ShlP.mk _ qaa ?_|refine And.intro qc7 ?_|refine zfh ?_|refine zi6 rfl ?_|refine zak g1 ?_|refine zak g2 ?_|refine zak g3 ?_|refine zam m1 ?_|refine zam m2 ?_|refine zam m3 ?_|refine HpP.force ?_);conv=>whnf)
  all_goals first|(exfalso;simp at ht;done)|exact fin rfl
theorem images2{w n c k:Nat}(hw:1<=w/\w<=12){K:Int}(hK:K=k)(h1:9<=k)(h2:k<=11)(z:Bool)(u:Bool)(b i:Int):PC Pr G 214 [iD w,(Gt.mk K [if z then(n:Int) else c,if z then(c:Int) else n] u b i).d,iD (if z then 0 else 1)] (.tup [(im2 w n c k z).1.d,(im2 w n c k z).2.d]):=by
 have g1:=zhk (G:=G) w n 1 (Int.natCast_nonneg _)
 have g2:=zhk (G:=G) w n 2 (Int.natCast_nonneg _)
 have g3:=zhk (G:=G) w n 3 (Int.natCast_nonneg _)
 have c1:=zhk (G:=G) w c 1 (Int.natCast_nonneg _)
 have c3:=zhk (G:=G) w c 3 (Int.natCast_nonneg _)
 have w1:=one_w w n 1
 have w2:=one_w w c 3
 have hk:k=9\/k=10\/k=11:=qad
 rcases hk with rfl|rfl|rfl
 all_goals first|obtain rfl:K=9:=hK|obtain rfl:K=10:=hK|obtain rfl:K=11:=hK
 all_goals cases z
 all_goals
  simp only[im2]
  generalize oneS w n 1=q1 at g1 w1⊢
  generalize oneS w n 2=q2 at g2⊢
  generalize oneS w n 3=q3 at g3⊢
  generalize oneS w c 1=r1 at c1⊢
  generalize oneS w c 3=r3 at c3 w2⊢
  refine zai pok Tryz.func214 chk214 ?_
  conv=>whnf
  repeat' first|((first|refine LookP.mk _ rfl ?_|refine ShlP.mk _ qaa ?_|refine And.intro qc7 ?_|refine zfh ?_|refine zi6 rfl ?_|refine zak g1 ?_|refine zak g2 ?_|refine zak g3 ?_|refine zak c1 ?_|refine zam c1 ?_|refine zak c3 ?_|refine zam c3 ?_|refine zam (znb q1 [r1] true ⟨by omega,by omega⟩ qc3) ?_|refine zam (znb q1 [r3] true ⟨by omega,by omega⟩ qc3) ?_|refine zam (znb r3 [q3] true ⟨by omega,by omega⟩ qc3) ?_|refine HpP.force ?_);conv=>whnf)
  all_goals first|(exfalso;simp at ht;done)|exact fin rfl|skip
end Go.Tz
namespace Go.Tz
open Go Go.AL Go.Proofs Go.Ma
variable{G:Nat->Option (List D)}
def addP(c:Int)(q:Ps):Ps:=⟨q.w,q.x,q.z,(iadd .i64 q.p c).tmod 4⟩
theorem addP_nf{w:Nat}{q:Ps}(c:Nat)(hc:c<=100)(h:Vl w q):nf (addP c q)=esh c (nf q)/\Vl w (addP c q):=by
 obtain⟨X,Z,P,rfl,h1,h2,h3⟩:=h
 have e:addP c (mk w X Z P)=mk w X Z ((P+c)%4):=by
  unfold addP mk
  dsimp only
  rw[zah qad]
  rfl
 rw[e]
 refine⟨?_,⟨X,Z,_,rfl,h1,h2,Nat.mod_lt _ qag⟩⟩
 rw[zcq,zcq]
 refine zc6 ?_ rfl
 simp only[esh];omega
theorem min_nf{w:Nat}{q:Ps}(h:Vl w q):nf (minS q)=esh 2 (nf q)/\Vl w (minS q):=addP_nf 2 qag h
theorem zna{w:Nat}(hw:w<=12){q r:Ps}(hq:Vl w q)(hr:Vl w r):nf (timS q r)=emul (nf q) (nf r)/\Vl w (timS q r):=by
 rw[zsi hw hq hr]
 exact⟨zd1 hw hq hr,zes hw hq hr⟩
theorem zs9{w n:Nat}(hw:w<=12)(hn:n<w):nf (oneS w n 1)=eL n true false/\Vl w (oneS w n 1):=⟨zim (l:=1) qad qag,zvf (l:=1) hn hw⟩
theorem one_nf2{w n:Nat}(hw:w<=12)(hn:n<w):nf (oneS w n 2)=eL n true true/\Vl w (oneS w n 2):=⟨zim (l:=2) qad qag,zvf (l:=2) hn hw⟩
theorem zs8{w n:Nat}(hw:w<=12)(hn:n<w):nf (oneS w n 3)=eL n false true/\Vl w (oneS w n 3):=⟨zim (l:=3) qad qag,zvf (l:=3) hn hw⟩
theorem im1_nf{w a k b:Nat}(hw:w<=12)(h1:1<=k)(h2:k<=6)(ha:a<w):(nf (im1 w a k).1=gE k a b (eL a true false)/\Vl w (im1 w a k).1)/\nf (im1 w a k).2=gE k a b (eL a false true)/\Vl w (im1 w a k).2:=by
 have hk:k=1\/k=2\/k=3\/k=4\/k=5\/k=6:=qad
 obtain⟨a1,a2⟩:=zs9 hw ha
 obtain⟨b1,b2⟩:=one_nf2 hw ha
 obtain⟨c1,c2⟩:=zs8 hw ha
 obtain⟨d1,d2⟩:=min_nf a2
 obtain⟨e1,e2⟩:=min_nf b2
 obtain⟨f1,f2⟩:=min_nf c2
 have h0:∀ x z,esh 0 (eL a x z)=eL a x z:=fun x z=>esh_4 rfl (eL_lt _ _ _)
 rw[gE_tab1 h1 h2 qad,gE_tab1 h1 h2 qad]
 rcases hk with rfl|rfl|rfl|rfl|rfl|rfl
 ·exact⟨⟨a1.trans (h0 _ _).symm,a2⟩,f1.trans (by rw[c1];rfl),f2⟩
 ·exact⟨⟨d1.trans (by rw[a1];rfl),d2⟩,f1.trans (by rw[c1];rfl),f2⟩
 ·exact⟨⟨d1.trans (by rw[a1];rfl),d2⟩,c1.trans (h0 _ _).symm,c2⟩
 ·exact⟨⟨c1.trans (h0 _ _).symm,c2⟩,a1.trans (h0 _ _).symm,a2⟩
 ·exact⟨⟨b1.trans (h0 _ _).symm,b2⟩,c1.trans (h0 _ _).symm,c2⟩
 ·exact⟨⟨e1.trans (by rw[b1];rfl),e2⟩,c1.trans (h0 _ _).symm,c2⟩
theorem im2_nf{w a b k:Nat}(hw:w<=12)(h1:9<=k)(h2:k<=11)(ha:a<w)(hb:b<w)(hab:a≠b) :
  ((nf (im2 w a b k true).1=gE k a b (eL a true false)/\Vl w (im2 w a b k true).1)/\nf (im2 w a b k true).2=gE k a b (eL a false true)/\Vl w (im2 w a b k true).2) ∧
  (nf (im2 w b a k false).1=gE k a b (eL b true false)/\Vl w (im2 w b a k false).1)/\nf (im2 w b a k false).2=gE k a b (eL b false true)/\Vl w (im2 w b a k false).2:=by
 have hk:k=9\/k=10\/k=11:=qad
 obtain⟨a1,a2⟩:=zs9 hw ha
 obtain⟨c1,c2⟩:=zs8 hw ha
 obtain⟨a1',a2'⟩:=zs9 hw hb
 obtain⟨c1',c2'⟩:=zs8 hw hb
 obtain⟨t1,t2,t3,t4,t5,t6,t7,t8,t9,t10,t11,t12⟩:=gE_tab2 (a:=a) (b:=b) qad qad hab
 rcases hk with rfl|rfl|rfl
 ·obtain⟨d1,d2⟩:=zna hw a2 a2'
  obtain⟨e1,e2⟩:=zna hw c2 c2'
  rw[t1,t2,t3,t4]
  exact⟨⟨⟨d1.trans (by rw[a1,a1']),d2⟩,c1,c2⟩,⟨a1',a2'⟩,e1.trans (by rw[c1,c1']),e2⟩
 ·obtain⟨d1,d2⟩:=zna hw a2 c2'
  obtain⟨e1,e2⟩:=zna hw a2' c2
  rw[t5,t6,t7,t8]
  exact⟨⟨⟨d1.trans (by rw[a1,c1']),d2⟩,c1,c2⟩,⟨e1.trans (by rw[a1',c1]),e2⟩,c1',c2'⟩
 ·rw[t9,t10,t11,t12]
  exact⟨⟨⟨a1',a2'⟩,c1',c2'⟩,⟨a1,a2⟩,c1,c2⟩
def wsOf(k a b:Nat):List Int:=if k<=6 then [(a:Int)] else [(a:Int),(b:Int)]
def imgS(w k a b n l:Nat):Ps:=dec w (gE k a b (eL n (decide (l=1)||decide (l=2)) (decide (l=2)||decide (l=3))))
theorem eL_hi{w n j:Nat}(hw:w<=12)(hn:n<w)(x z:Bool)(hj:(w<=j/\j<12)\/12+w<=j):(eL n x z).2.testBit j=false:=by
 simp only[eL,Nat.testBit_xor,zhd,Nat.testBit_two_pow]
 rw[decide_eq_false (show ¬ n=j by omega),decide_eq_false (show ¬ 12+n=j by omega)];simp
theorem img_vl{w k a b n l:Nat}(hw:w<=12)(h:gR w k a b)(hn:n<w):Vl w (imgS w k a b n l) :=
 dec_vl hw fun j hj=>ztr (zmf hw h) (w:=w) qdj qdj hj (eL_hi hw hn _ _ hj)
theorem zvu{w k a b n l:Nat}(hw:w<=12)(h:gR w k a b)(hn:n<w){r:Ps}(hr:Vl w r)(e:nf r=gE k a b (eL n (decide (l=1)||decide (l=2)) (decide (l=2)||decide (l=3)))):r=imgS w k a b n l :=
 zq5 hw hr (img_vl hw h hn) (by rw[e];exact(zvh w (zxw _ _ _ _)).symm)
theorem img_by{w k a b n:Nat}(hw:w<=12)(h:gR w k a b)(hn:n<w){px pz:Ps}(hx:nf px=gE k a b (eL n true false)/\Vl w px)(hz:nf pz=gE k a b (eL n false true)/\Vl w pz) :
  px=imgS w k a b n 1/\pz=imgS w k a b n 3/\addP 1 (timS px pz)=imgS w k a b n 2:=by
 refine⟨zvu hw h hn hx.2 hx.1,zvu hw h hn hz.2 hz.1,?_⟩
 obtain⟨t1,t2⟩:=zna hw hx.2 hz.2
 obtain⟨s1,s2⟩:=addP_nf 1 qag t2
 refine zvu hw h hn s2 (s1.trans ?_)
 rw[t1,hx.1,hz.1,<- zj8 (zmf hw h),<- gE_esh]
 have:=eL_mul (n:=n) qad true true
 show gE k a b _=gE k a b (eL n true true)
 rw[this];rfl
theorem img_out{w k a b n l:Nat}(hw:w<=12)(h:gR w k a b)(hn:n<w)(hl:l<=3)(hna:n≠a)(hnb:9<=k->n≠b):oneS w n l=imgS w k a b n l:=by
 refine zvu hw h hn (zvf hn hw) ?_
 rw[zim qad hl,gE_other (zmf hw h) qad hna hnb]
theorem chk213:chkFn Tryz.f213=true:=qah
theorem zog(q r:Ps)(hw:0<=q.w/\q.w<=24):PC Pr G 142 [q.d,rowsD [r] true] (timS q r).d:=znb q [r] true hw qc3
theorem does213w{w n l:Nat}{q:Ps}{K:Int}{ws:List Int}{u:Bool}{b i:Int}{j:Int}{px pz:Ps}(hw:1<=w/\w<=12)(hq:q.w=w)(hl:l=1\/l=2\/l=3)(hws:ws.length<=1000)(hj:idxI (fun k=>decide ((n:Int)=k) ) ws=j)(hj0:0<=j)(hpx:Vl w px)
  (hi:PC Pr G 214 [iD w,(Gt.mk K ws u b i).d,iD j] (.tup [px.d,pz.d])):PC Pr G 213 [iD n,iD l,.rop (Gt.mk K ws u b i).l 0,.rop q.l 0] (if l=1 then px else if l=3 then pz else addP 1 (timS px pz)).d:=by
 obtain⟨qw,qx,qz,qp⟩:=q
 obtain rfl:qw=w:=hq
 have h99:=idx99 (G:=G) ws u (n:Int) qad
 rw[hj]at h99
 have htm:=zog (G:=G) px pz (by rw[vl_w hpx];omega)
 generalize timS px pz=m at htm⊢
 rcases hl with rfl|rfl|rfl
 all_goals
  refine zai pok Tryz.func213 chk213 ?_
  conv=>whnf
  repeat' first|((first|refine LookP.mk _ rfl ?_|refine ShlP.mk _ qaa ?_|refine And.intro qbi ?_|refine zfh ?_|refine zi6 rfl ?_|refine zak h99 ?_|refine zak hi ?_|refine zfm (htm) rfl ?_|refine HpP.force ?_);conv=>whnf)|(intro t ht;cases t<;>conv=>whnf)
  all_goals first|exact fin rfl|(exfalso;simp at ht;omega)|skip
end Go.Tz
namespace Go.Tz
open Go Go.AL Go.Proofs Go.Ma
variable{G:Nat->Option (List D)}
theorem does213o{w n l:Nat}{q:Ps}{K:Int}{ws:List Int}{u:Bool}{b i:Int}(hq:q.w=w)(hws:ws.length<=1000)(hj:idxI (fun k=>decide ((n:Int)=k)) ws = -1) :
  PC Pr G 213 [iD n,iD l,.rop (Gt.mk K ws u b i).l 0,.rop q.l 0] (oneS w n l).d:=by
 obtain⟨qw,qx,qz,qp⟩:=q
 obtain rfl:qw=w:=hq
 have h99:=idx99 (G:=G) ws u (n:Int) qad
 rw[hj]at h99
 have h1:=zhk (G:=G) w n l (Int.natCast_nonneg _)
 generalize oneS w n l=m at h1⊢
 refine zai pok Tryz.func213 chk213 ?_
 conv=>whnf
 repeat' first|((first|refine LookP.mk _ rfl ?_|refine ShlP.mk _ qaa ?_|refine zak h99 ?_|refine zak h1 ?_|refine HpP.force ?_);conv=>whnf)|(intro t ht;cases t<;>conv=>whnf)
 all_goals first|exact fin rfl|(exfalso;simp at ht;done)
theorem idx_one(n a:Nat):idxI (fun k=>decide ((n:Int)=k)) [(a:Int)]=if n=a then 0 else -1:=by
 unfold idxI
 by_cases h:n=a
 ·exact qec
 ·have:¬(n:Int)=a:=by omega
  simp[h,this]
theorem ztk(n a b:Nat):idxI (fun k=>decide ((n:Int)=k)) [(a:Int),(b:Int)]=if n=a then 0 else if n=b then 1 else -1:=by
 unfold idxI
 by_cases h:n=a
 ·simp[h,List.findIdx?_cons]
 ·have:¬(n:Int)=a:=by omega
  by_cases h2:n=b
  ·simp[h2,List.findIdx?_cons]at h this⊢
   simp[h,this]
  ·have h3:¬(n:Int)=b:=by omega
   simp[h,h2,this,h3,List.findIdx?_cons]
theorem does213{w k a b n l:Nat}{q:Ps}{K:Int}(hK:K=k){u:Bool}{bb i:Int}(hw:1<=w/\w<=12)(hg:gR w k a b)(hq:q.w=w)(hn:n<w)(hl:l=1\/l=2\/l=3) :
  PC Pr G 213 [iD n,iD l,.rop (Gt.mk K (wsOf k a b) u bb i).l 0,.rop q.l 0] (imgS w k a b n l).d:=by
 have key:∀{px pz:Ps} {ws:List Int} {j:Int},ws.length<=1000->idxI (fun k=>decide ((n:Int)=k)) ws=j->0<=j->(nf px=gE k a b (eL n true false)/\Vl w px)->(nf pz=gE k a b (eL n false true)/\Vl w pz) ->
   PC Pr G 214 [iD w,(Gt.mk K ws u bb i).d,iD j] (.tup [px.d,pz.d])->PC Pr G 213 [iD n,iD l,.rop (Gt.mk K ws u bb i).l 0,.rop q.l 0] (imgS w k a b n l).d:=by
  intro px pz ws j h1 h2 h3 h4 h5 h6
  have h:=does213w (u:=u) (b:=bb) (i:=i) hw hq hl h1 h2 h3 h4.2 h6
  obtain⟨e1,e2,e3⟩:=img_by hw.2 hg hn h4 h5
  rcases hl with rfl|rfl|rfl
  ·rw[if_pos rfl,e1]at h;exact h
  ·rw[if_neg qag,if_neg qag,e3]at h;exact h
  ·rw[if_neg qag,if_pos rfl,e2]at h;exact h
 have out:∀{ws:List Int},ws.length<=1000->idxI (fun k=>decide ((n:Int)=k)) ws = -1->n≠a->(9<=k->n≠b)->PC Pr G 213 [iD n,iD l,.rop (Gt.mk K ws u bb i).l 0,.rop q.l 0] (imgS w k a b n l).d:=by
  intro ws h1 h2 h3 h4
  have h:=does213o (G:=G) (w:=w) (n:=n) (l:=l) (K:=K) (u:=u) (b:=bb) (i:=i) hq h1 h2
  rw[img_out hw.2 hg hn qad h3 h4]at h
  exact h
 rcases hg with⟨k1,k2,ha⟩|⟨k1,k2,ha,hb,hab⟩
 ·have e:wsOf k a b=[(a:Int)]:=if_pos k2
  rw[e]
  by_cases h:n=a
  ·subst h
   obtain⟨i1,i2⟩:=im1_nf (b:=b) hw.2 k1 k2 ha
   exact key qc3 (by rw[idx_one,if_pos rfl]) (Int.le_refl _) i1 i2 (images1 hK k1 k2 u bb i)
  ·exact out qc3 (by rw[idx_one,if_neg h]) h qad
 ·have e:wsOf k a b=[(a:Int),(b:Int)]:=if_neg qad
  rw[e]
  obtain⟨⟨i1,i2⟩,i3,i4⟩:=im2_nf hw.2 k1 k2 ha hb hab
  by_cases h:n=a
  ·subst h
   exact key qc3 (by rw[ztk,if_pos rfl]) (Int.le_refl _) i1 i2 (images2 hw hK k1 k2 true u bb i)
  ·by_cases h2:n=b
   ·subst h2
    exact key (j:=1) qc3 (by rw[ztk,if_neg h,if_pos rfl]) qag i3 i4 (images2 hw hK k1 k2 false u bb i)
   ·exact out qc3 (by rw[ztk,if_neg h,if_neg h2]) h fun _=>h2
end Go.Tz
namespace Go.Tz
open Go Go.AL Go.Proofs Go.Ma
variable{G:Nat->Option (List D)}
def outS(w k a b X Z P n:Nat):Ps:=dec w (gE k a b (nf (ptS w X Z P n)))
theorem pt_vl{w X Z P n:Nat}(hX:X<2^w)(hZ:Z<2^w)(hP:P<4):Vl w (ptS w X Z P n) :=
 ⟨_,_,_,rfl,Nat.lt_of_le_of_lt (Nat.mod_le _ _) hX,Nat.lt_of_le_of_lt (Nat.mod_le _ _) hZ,hP⟩
theorem zvc{w k a b X Z P n:Nat}(hw:w<=12)(h:gR w k a b)(hX:X<2^w)(hZ:Z<2^w)(hP:P<4):Vl w (outS w k a b X Z P n):=zyx hw h (pt_vl hX hZ hP)
theorem nf_out(w k a b X Z P n:Nat):nf (outS w k a b X Z P n)=gE k a b (nf (ptS w X Z P n)):=zvh w (zxw _ _ _ _)
theorem out_0{w k a b X Z P:Nat}(hw:w<=12)(h:gR w k a b)(hX:X<2^w)(hZ:Z<2^w)(hP:P<4):(⟨w,0,0,P⟩:Ps)=outS w k a b X Z P 0:=by
 have e:(⟨w,0,0,P⟩:Ps)=ptS w X Z P 0:=by
  unfold ptS mk
  rw[Nat.pow_zero,Nat.mod_one,Nat.mod_one];rfl
 rw[e]
 exact zq5 hw (pt_vl hX hZ hP) (zvc hw h hX hZ hP) (by rw[nf_out];exact pt_0 (zmf hw h))
theorem out_end{w k a b X Z P:Nat}(hX:X<2^w)(hZ:Z<2^w):outS w k a b X Z P w=thrS w k a b (mk w X Z P):=by
 unfold outS thrS
 rw[pt_all hX hZ]
theorem out_skip{w k a b X Z P n:Nat}(hw:w<=12)(h:gR w k a b)(hn:n<w)(hx:X.testBit n=false)(hz:Z.testBit n=false):outS w k a b X Z P (n+1)=outS w k a b X Z P n:=by
 unfold outS
 rw[pt_skip (zmf hw h) qad hx hz rfl]
theorem out_step{w k a b X Z P n l:Nat}(hw:w<=12)(h:gR w k a b)(hn:n<w)(hX:X<2^w)(hZ:Z<2^w)(hP:P<4)(hx:X.testBit n=(decide (l=1)||decide (l=2)))(hz:Z.testBit n=(decide (l=2)||decide (l=3))) :
  timS (outS w k a b X Z P n) (imgS w k a b n l)=outS w k a b X Z P (n+1):=by
 obtain⟨t1,t2⟩:=zna hw (zvc (n:=n) hw h hX hZ hP) (img_vl (l:=l) hw h hn)
 refine zq5 hw t2 (zvc hw h hX hZ hP) (t1.trans ?_)
 rw[nf_out,nf_out]
 have e:nf (imgS w k a b n l)=gE k a b (eL n (X.testBit n) (Z.testBit n)):=by rw[hx,hz];exact zvh w (zxw _ _ _ _)
 rw[e]
 exact pt_step (zmf hw h) qad rfl
theorem chk145:chkFn Tryz.f145=true:=qah
theorem chk215:chkFn Tryz.f215=true:=qah
theorem chk259:chkFn Tryz.f259=true:=qah
theorem zxc{w k a b:Nat}{q:Ps}{K:Int}(hK:K=k){u:Bool}{bb i:Int}(hw:1<=w/\w<=12)(hg:gR w k a b)(hq:Vl w q):PC Pr G 145 [q.d,(Gt.mk K (wsOf k a b) u bb i).d] (thrS w k a b q).d:=by
 obtain⟨X,Z,P,rfl,hX,hZ,hP⟩:=hq
 have hpw:(2:Nat)^w<=2^12:=Nat.pow_le_pow_right qag hw.2
 rw[<- out_end hX hZ]
 have hd:∀ n l:Nat,n<w->(l=1\/l=2\/l=3)->PC Pr G 213 [iD n,iD l,.rop (Gt.mk K (wsOf k a b) u bb i).l 0,.rop (mk w X Z P).l 0] (imgS w k a b n l).d:=fun n l hn hl=>does213 hK hw hg rfl hn hl
 have hL:∀ n:Nat,n<w->letterI (X:Int) (Z:Int) n=if X.testBit n&&Z.testBit n then 2 else if X.testBit n then 1 else if Z.testBit n then 3 else 0:=fun n hn=>zd7 qad qad qad
 have hlt:∀(n:Nat) (d:D),PC Pr G 157 [.agg [iD w,iD X,iD Z,iD P,d],iD n] (iD (letterI X Z n)):=fun n d=>zl3 (mk w X Z P) d n (Int.natCast_nonneg _)
 have h0:=out_0 hw.2 hg hX hZ hP
 have hO:=fun n=>zvc (n:=n) hw.2 hg hX hZ hP
 have hS:=fun n (hn:n<w) (l:Nat) (hx:X.testBit n=(decide (l=1)||decide (l=2))) (hz:Z.testBit n=(decide (l=2)||decide (l=3)))=>out_step (l:=l) hw.2 hg hn hX hZ hP hx hz
 have hK0:=fun n (hn:n<w) (hx:X.testBit n=false) (hz:Z.testBit n=false)=>out_skip (P:=P) hw.2 hg hn hx hz
 generalize wsOf k a b=ws at hd⊢
 generalize outS w k a b X Z P=out at h0 hO hS hK0⊢
 generalize imgS w k a b=img at hd hS
 refine zai pok Tryz.func145 chk145 ?_
 conv=>whnf
 repeat' first|((first|refine LookP.mk _ rfl ?_|refine ShlP.mk _ qaa ?_|refine HpP.force ?_);conv=>whnf)
 refine zbb pok Tryz.func215 chk215 ?_
 conv=>whnf
 skip
 refine zbb pok Tryz.func259 chk259 ?_
 conv=>whnf
 repeat' first|(refine LookP.mk _ rfl ?_;conv=>whnf)
 refine zaq pok (fun n=>⟨[(0,.yld 7),(1,.ptr 5 5 0 0),(6,.d (iD w)),(7,.d (iD n))],[(0,some (.arr 4 [[.d (iD w),.d (iD X),.d (iD Z),.d (iD P)]])),(1,some (.arr 4 [[.d (iD K),.d (intsD ws u),.d (iD bb),.d (iD i)]])),(2,some (.arr 4 [[.d (iD 0),.d (iD 0),.d (iD 0),.d (iD 0)]])),(3,some (.arr 5 [[.d (iD w),.d (iD X),.d (iD Z),.d (iD P),.fn 213 [] [.ptr 1 4 0 0,.ptr 0 4 0 0]]])),(4,some (.arr 4 [(out n).l.map AV.d])),(5,some (.arr 5 [[.d (iD w),.d (iD X),.d (iD Z),.d (iD P),.fn 213 [] [.ptr 1 4 0 0,.ptr 0 4 0 0]]])),(6,some (.raw (.deferred (some [])))),(7,some (.lp [(18,.fn 259 [] [.ptr 5 5 0 0]),(17,.agg [.d (iD w),.d (iD X),.d (iD Z),.d (iD P),.fn 213 [] [.ptr 1 4 0 0,.ptr 0 4 0 0]]),(6,.ptr 4 4 0 0),(16,.d (.agg [iD w,iD 0,iD 0,iD P])),(15,.d (iD P)),(14,.ptr 0 4 0 3),(13,.d (iD w)),(12,.ptr 0 4 0 0),(11,.ptr 3 5 0 4),(10,.fn 213 [] [.ptr 1 4 0 0,.ptr 0 4 0 0]),(5,.ptr 3 5 0 0),(9,.d (.agg [iD w,iD X,iD Z,iD P,.nilf])),(8,.d (.agg [iD w,iD X,iD Z,iD P])),(4,.ptr 2 4 0 0),(3,.ptr 1 4 0 0),(2,.ptr 0 4 0 0),(0,.d (.agg [iD w,iD X,iD Z,iD P])),(1,.d (.agg [iD K,intsD ws u,iD bb,iD i]))] Tryz.f145.ntmps #[19] (rgA Tryz.f145) (rgB Tryz.f145) .ready none 6))],8⟩) (w) (fun _=>True) (trivial) ?_ qah ?_ ?_
 ·refine zac qac ?_ ?_ trivial
  ·exact qae
  ·repeat' first|exact trivial|refine⟨⟨ltB rfl,_,rfl,by first|rfl|assumption|(rw[<- h0];rfl),by first|exact zae rfl|exact zaa _ _ _|exact zab rfl|exact trivial|exact⟨rfl,Nat.le_of_ble_eq_true rfl⟩⟩,?_⟩
 ·intro n A_n h_n I_n N_n
  have e_n:iadd .i64 (n:Int) 1=((n+1:Nat):Int):=zah qbl
  have hB:chkCode Tryz.f145.ntmps (rgB Tryz.f145)=true:=qah
  have hOn:=hO n
  have hOw:=vl_w hOn
  have hl:=hlt n
  have hLn:=hL n h_n
  have hSn:=hS n h_n
  have hKn:=hK0 n h_n
  rw[hLn]at hl
  cases hx:X.testBit n<;>cases hz:Z.testBit n
  ·have hl:∀ d,PC Pr G 157 [.agg [iD w,iD X,iD Z,iD P,d],iD n] (iD 0):=fun d=>by have:=hl d;rw[hx,hz]at this;exact this
   have hnx:=hKn hx hz
   conv=>whnf
   repeat (refine LookP.mk _ rfl ?_;conv=>whnf)
   intro t ht
   cases t
   ·exact qbh
   conv=>whnf
   repeat' first|((first|refine LookP.mk _ rfl ?_|refine zil (hl (.fn 213 [] [.rop [iD K,intsD ws u,iD bb,iD i] 0,.rop [iD w,iD X,iD Z,iD P] 0])) rfl rfl ?_);conv=>whnf)|(intro t ht;cases t<;>conv=>whnf)
   ·refine N_n _ ?_ ?_
    ·exact qbj
    ·refine zac qac ?_ ?_ trivial
     ·exact qav
     ·repeat' first|exact trivial|refine⟨⟨ltB rfl,_,rfl,by first|rfl|assumption|(rw[hnx];rfl),by first|exact zae rfl|exact zaa _ _ _|exact zab rfl|exact trivial|exact⟨rfl,Nat.le_of_ble_eq_true rfl⟩⟩,?_⟩
   ·exact qea
  ·have hl:∀ d,PC Pr G 157 [.agg [iD w,iD X,iD Z,iD P,d],iD n] (iD 3):=fun d=>by have:=hl d;rw[hx,hz]at this;exact this
   have hdn:=hd n 3 h_n qag
   have ht2:=zog (G:=G) (out n) (img n 3) (by rw[hOw];omega)
   have hnx:=hSn 3 hx hz
   rw[hnx]at ht2
   generalize img n 3=d at hdn ht2
   generalize hon:out n=o at hOn hOw hnx ht2⊢
   obtain⟨ow,ox,oz,op⟩:=o
   obtain rfl:ow=w:=hOw
   conv=>whnf
   repeat (refine LookP.mk _ rfl ?_;conv=>whnf)
   intro t ht
   cases t
   ·exact qbh
   conv=>whnf
   repeat' first|((first|refine LookP.mk _ rfl ?_|refine zil (hl (.fn 213 [] [.rop [iD K,intsD ws u,iD bb,iD i] 0,.rop [iD w,iD X,iD Z,iD P] 0])) rfl rfl ?_);conv=>whnf)|(intro t ht;cases t<;>conv=>whnf)
   all_goals first|(exfalso;simp at ht;done)|skip
   refine za9 pok ?_
   conv=>whnf
   repeat' first|((first|refine LookP.mk _ rfl ?_|refine ShlP.mk _ qaa ?_|rw[hB]|refine zam (hl _) ?_|refine zam hdn ?_|refine zam ht2 ?_|refine HpP.force ?_);conv=>whnf)
   refine N_n _ ?_ ?_
   ·exact qbj
   ·exact qhn
  ·have hl:∀ d,PC Pr G 157 [.agg [iD w,iD X,iD Z,iD P,d],iD n] (iD 1):=fun d=>by have:=hl d;rw[hx,hz]at this;exact this
   have hdn:=hd n 1 h_n qag
   have ht2:=zog (G:=G) (out n) (img n 1) (by rw[hOw];omega)
   have hnx:=hSn 1 hx hz
   rw[hnx]at ht2
   generalize img n 1=d at hdn ht2
   generalize hon:out n=o at hOn hOw hnx ht2⊢
   obtain⟨ow,ox,oz,op⟩:=o
   obtain rfl:ow=w:=hOw
   conv=>whnf
   repeat (refine LookP.mk _ rfl ?_;conv=>whnf)
   intro t ht
   cases t
   ·exact qbh
   conv=>whnf
   repeat' first|((first|refine LookP.mk _ rfl ?_|refine zil (hl (.fn 213 [] [.rop [iD K,intsD ws u,iD bb,iD i] 0,.rop [iD w,iD X,iD Z,iD P] 0])) rfl rfl ?_);conv=>whnf)|(intro t ht;cases t<;>conv=>whnf)
   all_goals first|(exfalso;simp at ht;done)|skip
   refine za9 pok ?_
   conv=>whnf
   repeat' first|((first|refine LookP.mk _ rfl ?_|refine ShlP.mk _ qaa ?_|rw[hB]|refine zam (hl _) ?_|refine zam hdn ?_|refine zam ht2 ?_|refine HpP.force ?_);conv=>whnf)
   refine N_n _ ?_ ?_
   ·exact qbj
   ·exact qhn
  ·have hl:∀ d,PC Pr G 157 [.agg [iD w,iD X,iD Z,iD P,d],iD n] (iD 2):=fun d=>by have:=hl d;rw[hx,hz]at this;exact this
   have hdn:=hd n 2 h_n qag
   have ht2:=zog (G:=G) (out n) (img n 2) (by rw[hOw];omega)
   have hnx:=hSn 2 hx hz
   rw[hnx]at ht2
   generalize img n 2=d at hdn ht2
   generalize hon:out n=o at hOn hOw hnx ht2⊢
   obtain⟨ow,ox,oz,op⟩:=o
   obtain rfl:ow=w:=hOw
   conv=>whnf
   repeat (refine LookP.mk _ rfl ?_;conv=>whnf)
   intro t ht
   cases t
   ·exact qbh
   conv=>whnf
   repeat' first|((first|refine LookP.mk _ rfl ?_|refine zil (hl (.fn 213 [] [.rop [iD K,intsD ws u,iD bb,iD i] 0,.rop [iD w,iD X,iD Z,iD P] 0])) rfl rfl ?_);conv=>whnf)|(intro t ht;cases t<;>conv=>whnf)
   all_goals first|(exfalso;simp at ht;done)|skip
   refine za9 pok ?_
   conv=>whnf
   repeat' first|((first|refine LookP.mk _ rfl ?_|refine ShlP.mk _ qaa ?_|rw[hB]|refine zam (hl _) ?_|refine zam hdn ?_|refine zam ht2 ?_|refine HpP.force ?_);conv=>whnf)
   refine N_n _ ?_ ?_
   ·exact qbj
   ·exact qhn
 ·intro A_last I_last
  have hoe:=vl_w (hO w)
  generalize out w=o at hoe⊢
  conv=>whnf
  repeat (refine LookP.mk _ rfl ?_;conv=>whnf)
  intro t ht
  cases t
  rotate_left
  ·exact qbh
  conv=>whnf
  repeat' first|((first|refine LookP.mk _ rfl ?_|refine ShlP.mk _ qaa ?_|refine HpP.force ?_);conv=>whnf)
  exact fin rfl
end Go.Tz
namespace Go.Tz
open Go Go.AL Go.Proofs Go.Ma
variable{G:Nat->Option (List D)}
theorem zda{H:AHeap}{nm sz N:Nat}{t:Bool}{es:List (List D)}(hg:H.get nm=some (dblk sz es))(hN:N=es.length):AsD H (.sl nm sz 0 N N t) (.sl es t):=by
 subst hN
 have:=zea (H:=H) (lo:=0) (len:=es.length) (room:=es.length) (t:=t) hg qc3
 simpa using this
theorem give_get{nm sz:Nat}{es:List (List D)}{H:AHeap}(hg:H.get nm=some (dblk sz es)):∀ m b,AHeap.get [(nm,some (dblk sz es))] m=some b->m∈[nm]/\H.get m=some b:=fun m b h=>by
 by_cases em:m=nm
 ·subst em;rw[zaf]at h;exact⟨by simp,by rw[hg,<- h]⟩
 ·exact qfo
theorem give_as{a:D}{nm sz N:Nat}{t:Bool}{es:List (List D)}(hN:N=es.length):∀(i:Nat) (v:AV) (d:D),[AV.agg [.d a,.sl nm sz 0 N N t]][i]?=some v->[D.agg [a,.sl es t]][i]?=some d->AsD [(nm,some (dblk sz es))] v d:=fun i v d h1 h2=>by
 match i,h1,h2 with
 | 0,h1,h2 =>
  simp at h1 h2;subst h1 h2
  exact zpx (.d _) (zda (zaf nm _ []) hN)
 | i+1,h1,_=>simp at h1
theorem po_giveS{f:FuncId}{a:D}{nm sz N:Nat}{t:Bool}{es:List (List D)}{v:AV}{M:AHeap}{n:Nat}{H:AHeap}{nx:Nat}{k:AV->AHeap->Nat->Prop}(h:PO Pr G f [.agg [a,.sl es t]] v M n)(hg:H.get nm=some (dblk sz es))(hN:N=es.length)
  (hk:k (v.ren (· + nx)) (M.shift nx++dels [nm] H) (nx+n)):CallVC Pr G f [.agg [.d a,.sl nm sz 0 N N t]] H nx k:=by
 refine⟨h.fn,zhc (HL:=[(nm,some (dblk sz es))]) (L:=[nm]) (zcf h.call ?_) rfl (give_get hg) (give_as hN)⟩
 rintro v' N' m ⟨rfl,rfl,rfl⟩
 exact hk
end Go.Tz
namespace Go.Tz
open Go Go.AL Go.Proofs Go.Ma
variable{G:Nat->Option (List D)}
def kindB(k:Int):Bool:=decide ((1<=k/\k<=6)\/(9<=k/\k<=11))
def cliffB(g:Gt):Bool:=decide (g.i=0)&&kindB g.k
theorem chk144:chkFn Tryz.f144=true:=qah
theorem cliff144(g:Gt):PC Pr G 144 [g.d] (.bool (cliffB g)):=by
 obtain⟨k,ws,u,b,f⟩:=g
 refine zai pok Tryz.func144 chk144 ?_
 conv=>whnf
 repeat' first|(refine LookP.mk _ rfl ?_;conv=>whnf)|(intro t ht;cases t<;>conv=>whnf)
 all_goals
  refine fin ?_
  refine fiB ?_
  simp at *
  unfold cliffB kindB
  simp
  omega
theorem zej{g:Gt}{w:Int}{bits:Int}(h:gchk g w bits=0):arI g.k≠0/\(g.ws.length:Int)=arI g.k/\outB w g.ws=false/\dupB g.ws=false/\bitE g bits=0:=by
 unfold gchk at h
 split at h
 ·exact qed
 ·split at h
  ·exact qed
  ·split at h
   ·exact qed
   ·split at h
    ·exact qed
    ·rename_i h1 h2 h3 h4
     exact⟨h1,by omega,by simpa using h3,by simpa using h4,h⟩
theorem zgk{g:Gt}{bits:Int}(h:bitE g bits=0):(0<=g.i/\g.i<=bits)/\(g.k=13->0<=g.b/\g.b<bits)/\((g.k=13\/g.k=14)->g.i=0)/\(g.k≠13->g.b=0):=by
 unfold bitE at h
 split at h
 ·exact qed
 ·split at h
  ·exact qed
  ·rename_i h1 h2
   exact⟨by omega,by omega,by omega,by omega⟩
def gK(g:Gt):Nat:=g.k.toNat
def gA(g:Gt):Nat:=(g.ws.getD 0 0).toNat
def gB(g:Gt):Nat:=(g.ws.getD 1 0).toNat
theorem len2{α:Type}:∀{l:List α},l.length=2->∃ a b,l=[a,b]
 | [a,b],_=>⟨a,b,rfl⟩
theorem zrg{g:Gt}{w:Nat}{bits:Int}(h:gchk g w bits=0)(hk:kindB g.k=true):gR w (gK g) (gA g) (gB g)/\g.k=gK g/\g.ws=wsOf (gK g) (gA g) (gB g):=by
 obtain⟨h1,h2,h3,h4,_⟩:=zej h
 obtain⟨k,ws,u,b,f⟩:=g
 simp only[gK,gA,gB]at *
 have hk:=of_decide_eq_true hk
 have hin:∀ n,n∈ws->0<=n/\n<w:=fun n hn=>by
  have:=List.any_eq_false.1 h3 n hn
  simp at this;omega
 rcases hk with hk|hk
 ·rw[ari1 qad]at h2
  obtain⟨n,rfl⟩:=List.length_eq_one_iff.1 (show ws.length=1 by omega)
  have hn:=hin n qc3
  have e:(k.toNat<=6):=qad
  refine⟨.inl ⟨by omega,by omega,?_⟩,by omega,?_⟩
  ·exact qbo
  ·unfold wsOf
   rw[if_pos e]
   simp;omega
 ·rw[ari2 qad]at h2
  obtain⟨n,m,rfl⟩:=len2 (show ws.length=2 by omega)
  have hn:=hin n qc3
  have hm:=hin m qc3
  have hd:n≠m:=fun q=>by
   have:=List.any_eq_false.1 h4 1 (List.mem_range.2 qc3)
   rw[zpl qc3]at this
   simp[q]at this
  have e:¬(k.toNat<=6):=qad
  refine⟨.inr ⟨by omega,by omega,?_,?_,?_⟩,by omega,?_⟩
  ·exact qbo
  ·exact qbo
  ·exact qbo
  ·unfold wsOf
   rw[if_neg e]
   simp;omega
def thrG(w:Nat)(g:Gt)(q:Ps):Ps:=thrS w (gK g) (gA g) (gB g) q
theorem zsj{w:Nat}(hw:1<=w/\w<=12){g:Gt}{bits:Int}(h:gchk g w bits=0)(hk:kindB g.k=true){q:Ps}(hq:Vl w q):PC Pr G 145 [q.d,g.d] (thrG w g q).d:=by
 obtain⟨h1,h2,h3⟩:=zrg h hk
 have:=zxc (G:=G) (u:=g.u) (bb:=g.b) (i:=g.i) h2 hw h1 hq
 rw[<- h3]at this
 exact this
theorem cchk_one{w:Nat}(hw:1<=w/\w<=12)(g:Gt):cchk w 0 [g]=gchk g w 0:=by
 by_cases h:gchk g w 0=0
 ·rw[h]
  exact cchk0 qad qc3 qa6
 ·exact cchk_at (l:=[g]) (i:=0) qad qc3 qc3 qc3 h
theorem chk69:chkFn Tryz.f69=true:=qah
def thrD(w:Nat)(g:Gt)(q:Ps):D:=if gchk g w 0≠0 then .tup [Ps.d ⟨0,0,0,0⟩,iD (gchk g w 0)] else if kindB g.k=true then .tup [(thrG w g q).d,iD 0] else .tup [Ps.d ⟨0,0,0,0⟩,iD 7]
theorem zyw{w:Nat}(hw:1<=w/\w<=12)(g:Gt)(hn:g.ws.length<=1000){q:Ps}(hq:Vl w q):PC Pr G 69 [q.d,g.d] (thrD w g q):=by
 have h1:=zg7 (G:=G) q
 rw[znp hw hq]at h1
 have hqw:=vl_w hq
 have h2:∀ t,PC Pr G 129 [circD q.w 0 [g] t] (iD (gchk g w 0)):=fun t=>by
  have:=zps (G:=G) w 0 [g] t qc3 qd8
  rw[cchk_one hw]at this
  rw[hqw];exact this
 have h3:=cliff144 (G:=G) g
 have h4:=fun h k=>zsj (G:=G) hw (g:=g) (bits:=0) h k hq
 have hi0:gchk g w 0=0->g.i=0:=fun h=>by
  have:=(zgk (zej h).2.2.2.2).1;omega
 unfold thrD
 generalize thrG w g q=r at h4⊢
 obtain⟨k,ws,u,b,f⟩:=g
 by_cases he:gchk ⟨k,ws,u,b,f⟩ w 0=0
 ·have hf:=hi0 he
  simp only at hf
  subst hf
  rw[if_neg (fun h=>h he)]
  rw[he]at h2
  have e3:cliffB ⟨k,ws,u,b,0⟩=kindB k:=by unfold cliffB;simp
  rw[e3]at h3
  by_cases hk:kindB k=true
  ·have h5:=h4 he hk
   rw[if_pos hk]
   rw[hk]at h3
   refine zai pok Tryz.func69 chk69 ?_
   conv=>whnf
   repeat' first|((first|refine LookP.mk _ rfl ?_|refine ShlP.mk _ qaa ?_|refine zak h1 ?_|refine zfm (h2 true) rfl ?_|refine zak h3 ?_|refine zak h5 ?_|refine HpP.force ?_);conv=>whnf)|(intro t ht;cases t<;>conv=>whnf)
   all_goals first|exact fin rfl|(exfalso;simp at ht;done)
  ·rw[if_neg hk]
   have hk:kindB k=false:=by simpa using hk
   rw[hk]at h3
   refine zai pok Tryz.func69 chk69 ?_
   conv=>whnf
   repeat' first|((first|refine LookP.mk _ rfl ?_|refine ShlP.mk _ qaa ?_|refine zak h1 ?_|refine zfm (h2 true) rfl ?_|refine zak h3 ?_|refine HpP.force ?_);conv=>whnf)|(intro t ht;cases t<;>conv=>whnf)
   all_goals first|exact fin rfl|(exfalso;simp at ht;done)
 ·rw[if_pos he]
  generalize gchk ⟨k,ws,u,b,f⟩ w 0=e at h2 he⊢
  refine zai pok Tryz.func69 chk69 ?_
  conv=>whnf
  repeat' first|((first|refine LookP.mk _ rfl ?_|refine ShlP.mk _ qaa ?_|refine zak h1 ?_|refine zfm (h2 true) rfl ?_|refine HpP.force ?_);conv=>whnf)|(intro t ht;cases t<;>conv=>whnf)
  all_goals first|exact fin rfl|(exfalso;simp at ht;first|done|exact he ht)
end Go.Tz
namespace Go.Tz
open Go Go.AL Go.Proofs Go.Ma
variable{G:Nat->Option (List D)}
def appG(w:Nat)(g:Gt)(l:List Ps):List Ps:=redRows (l.map (thrG w g)) (2*w)
theorem thrG_vl{w:Nat}(hw:w<=12){g:Gt}{bits:Int}(hg:gchk g w bits=0)(hk:kindB g.k=true){q:Ps}(hq:Vl w q):Vl w (thrG w g q):=zyx hw (zrg hg hk).1 hq
theorem thrG_all{w:Nat}(hw:w<=12){g:Gt}{bits:Int}(hg:gchk g w bits=0)(hk:kindB g.k=true){l:List Ps}(hv:∀ q,q∈l->Vl w q):∀ q,q∈l.map (thrG w g)->Vl w q:=fun q hq=>by
 obtain⟨r,hr,rfl⟩:=List.mem_map.1 hq
 exact thrG_vl hw hg hk (hv r hr)
theorem zpy{w:Nat}{g:Gt}{bits:Int}(hg:gchk g w bits=0)(hk:kindB g.k=true){l:List Ps}(h:SOk w l):SOk w (appG w g l):=app_sok (zrg hg hk).1 h
theorem zwr{w:Nat}{g:Gt}{bits:Int}(hg:gchk g w bits=0)(hk:kindB g.k=true){l:List Ps}(h:SOk w l):redRows (appG w g l) (2*w)=appG w g l:=zsz (zhy (zrg hg hk).1 h)
theorem chk125:chkFn Tryz.f125=true:=qah
theorem zn4{w:Nat}(hw:1<=w/\w<=12){k b i:Int}{ws:List Int}{u:Bool}(hg:gchk ⟨k,ws,u,b,0⟩ w 0=0)(hk:kindB k=true)(l:List Ps)(t:Bool)(hn:l.length<=1000)(hv:∀ q,q∈l->Vl w q) :
  PO Pr G 125 [stD w l t,(Gt.mk k ws u b i).d] (.agg [.d (iD w),.sl 0 4 0 l.length l.length true]) [(0,some (dblk 4 ((appG w ⟨k,ws,u,b,0⟩ l).map Ps.l)))] 1:=by
 have hwl:ws.length<=1000:=by
  have h:=(zej hg).2.1
  simp only at h
  have:arI k<=3:=by unfold arI;split<;>(try split)<;>(try split)<;>omega
  omega
 have hgv:=thrG_all hw.2 hg hk hv
 have hc:=zi3 (G:=G) hw (l.map (thrG w ⟨k,ws,u,b,0⟩)) false qd8 hgv
 have ht:∀ q,Vl w q->PC Pr G 69 [q.d,(Gt.mk k ws u b 0).d] (.tup [(thrG w ⟨k,ws,u,b,0⟩ q).d,iD 0]):=fun q hq=>by
  have:=zyw (G:=G) hw ⟨k,ws,u,b,0⟩ hwl hq
  unfold thrD at this
  rw[if_neg (fun h=>h hg),if_pos hk]at this
  exact this
 show PO Pr G 125 _ _ [(0,some (dblk 4 ((redRows (l.map (thrG w ⟨k,ws,u,b,0⟩)) (2*w)).map Ps.l)))] 1
 generalize thrG w ⟨k,ws,u,b,0⟩=F at hc ht⊢
 have hlen:(l.map F).length=l.length:=qc3
 rw[hlen]at hc
 generalize redRows (l.map F) (2*w)=R at hc⊢
 refine⟨za3 Tryz.func125 chk125,zaz (K:=fun v H _=>v = .agg [.d (iD w),.sl 5 4 0 l.length l.length true]/\H.get 5=some (dblk 4 (R.map Ps.l))) (za4 pok Tryz.func125 chk125 ?_) ?_⟩
 ·conv=>whnf
  repeat' first|((first|refine LookP.mk _ rfl ?_|refine ShlP.mk _ qaa ?_|refine HpP.force ?_);conv=>whnf)
  refine zaq pok (fun j=>⟨[(3,.ptr 1 4 0 0),(4,.ptr 2 2 0 0),(5,.ptr 3 2 0 0),(15,.d (rowsD l t)),(16,.d (iD (l.map Ps.l).length)),(17,.d (iD j))],[(1,some (.arr 4 [[.d (iD k),.d (intsD ws u),.d (iD b),.d (iD 0)]])),(2,some (.arr 2 [[.d (iD 0),.d (.sl [] true)]])),(3,some (.arr 2 [[.d (iD w),.sl 4 4 0 j j false]])),(4,some (dblk 4 (((l.take j).map F).map Ps.l)))],5⟩) (l.length) (fun _=>True) (trivial) ?_ qah ?_ ?_
  ·refine Sub.trans (zy2 (nm:=3) (S:=4) (Nat.zero_le _) rfl) ?_
   refine zac qac ?_ ?_ trivial
   ·exact qae
   ·exact qab
  ·intro j A_j h_j I_j N_j
   have e_j:iadd .i64 (j:Int) 1=((j+1:Nat):Int):=zah qbl
   have hj:=ht l[j] (hv _ (List.getElem_mem h_j))
   have hsn:((l.take (j+1)).map F).map Ps.l=((l.take j).map F).map Ps.l++[(F l[j]).l]:=by rw[zbe h_j,List.map_append,List.map_append];rfl
   have hml:(((l.take j).map F).map Ps.l).length=j:=by rw[List.length_map,List.length_map,List.length_take];omega
   generalize ((l.take j).map F).map Ps.l=M at hsn hml
   generalize F l[j]=r at hj hsn
   conv=>whnf
   repeat (refine LookP.mk _ rfl ?_;conv=>whnf)
   intro t ht
   cases t
   ·exact qbh
   conv=>whnf
   repeat' first|((first|refine LookP.mk _ (by first|rfl|exact zpb h_j) ?_|refine ShlP.mk _ qaa ?_|(refine And.intro (by first|exact Nat.le_refl _|exact⟨by rw[List.length_map];exact hml,by decide,by show(2*(j+1)+192)*32<=281474976710656;omega⟩|assumption|exact⟨by kernel_rfl,rfl⟩|decide|omega) ?_)|refine zak hj ?_|rw[nbeq]|refine HpP.force ?_);conv=>whnf)
   refine N_j _ ?_ ?_
   ·exact qbj
   ·first|refine zav [(4,8)] ?_ ?_ ?_ trivial|refine zap [(4,8)] rfl rfl ?_ ?_ ?_ trivial
    ·exact qc2
    ·exact qam
    ·exact qaf
  ·intro A_last I_last
   have hT:l.take l.length=l:=List.take_of_length_le (Nat.le_refl _)
   rw[hT]
   conv=>whnf
   repeat (refine LookP.mk _ rfl ?_;conv=>whnf)
   intro t ht
   cases t
   rotate_left
   ·exact qbh
   conv=>whnf
   repeat' first|((first|refine LookP.mk _ rfl ?_|refine ShlP.mk _ qaa ?_|refine po_giveS hc rfl qc3 ?_|refine HpP.force ?_);conv=>whnf)
   refine fin ⟨rfl,?_⟩
   show some (Blk.ren _ (dblk 4 _))=_
   rw[zbf]
 ·rintro v H n ⟨rfl,h2⟩
  refine⟨_,_,1,?_,rfl,rfl,rfl⟩
  first|refine zav [(0,5)] ?_ ?_ ?_ trivial|refine zap [(0,5)] rfl rfl ?_ ?_ ?_ trivial
  ·exact qae
  ·repeat' first|exact trivial|refine⟨⟨ltB rfl,_,rfl,by first|rfl|assumption|exact zag rfl (by first|rfl|assumption|exact zag rfl h2)|exact zag rfl h2,by first|exact zae rfl|exact zaa _ _ _|exact zab rfl⟩,?_⟩
  ·exact qaf
end Go.Tz
namespace Go.Tz
open Go Go.AL Go.Proofs Go.Ma
variable{G:Nat->Option (List D)}
theorem gchk_bits{k b i:Int}{ws:List Int}{u:Bool}{w bits:Int}(hk:kindB k=true)(h:gchk ⟨k,ws,u,b,i⟩ w bits=0):gchk ⟨k,ws,u,b,0⟩ w 0=0:=by
 obtain⟨h1,h2,h3,h4,h5⟩:=zej h
 obtain⟨b1,b2,b3,b4⟩:=zgk h5
 have hk:=of_decide_eq_true hk
 simp only at *
 unfold gchk
 simp only
 rw[if_neg h1,if_neg (by simpa using h2),if_neg (by rw[h3];simp),if_neg (by rw[h4];simp)]
 exact bitE0 (by simp only;omega) (by simp only;omega)
end Go.Tz
namespace Go.Tz
open Go Go.AL Go.Proofs Go.Ma
variable{G:Nat->Option (List D)}
theorem zjf{w:Nat}{l:List Ps}(h:SOk w l):l.length<=1000:=qcu
end Go.Tz
namespace Go.Tz
open Go Go.AL Go.Proofs Go.Ma
abbrev wkF(w nm:Nat)(F:FuncId):Blk:=.arr 3 [[.d (iD w),.sl nm 4 0 w w true,.fn F [.ptr 2 3 0 0] []]]
def rangesOf:Code->List (Code×Code)
 | .seq c d=>rangesOf c++rangesOf d
 | .cond _ c d=>rangesOf c++rangesOf d
 | .block _ c=>rangesOf c
 | .scope c=>rangesOf c
 | .rangeFunc _ _ a b=>[(a,b)]
 | _=>[]
noncomputable def rgI(f:Func)(i:Nat):Code×Code:=match f.body with
 | some c=>(rangesOf c).getD i (.skip,.skip)
 | none=>(.skip,.skip)
def prS(p:Ps)(rf:Nat->Ps)(a0 m j:Nat):Ps:=if j<m/\j≠a0/\comV p (rf j)=false then mulS (rf j) (rf a0) else rf j
section
variable{p:Ps}{rf:Nat->Ps}{a0 m:Nat}
theorem prS_0{j:Nat}:prS p rf a0 0 j=rf j:=by unfold prS;rw[if_neg qad]
theorem prS_at:prS p rf a0 m m=rf m:=by unfold prS;rw[if_neg qad]
theorem zu8:prS p rf a0 m a0=rf a0:=by unfold prS;rw[if_neg fun h=>h.2.1 rfl]
theorem prS_new(h1:m≠a0)(h2:comV p (rf m)=false):prS p rf a0 (m+1) m=mulS (rf m) (rf a0):=by unfold prS;rw[if_pos ⟨by omega,h1,h2⟩]
theorem zu7(j:Nat):(if j=m then Ps.l (prS p rf a0 (m+1) m) else Ps.l (prS p rf a0 m j))=Ps.l (prS p rf a0 (m+1) j):=by
 by_cases h:j=m
 ·rw[if_pos h,h]
 ·rw[if_neg h]
  unfold prS
  have e:(j<m+1/\j≠a0/\comV p (rf j)=false) ↔ (j<m/\j≠a0/\comV p (rf j)=false):=by constructor<;>(rintro⟨a,b,c⟩;exact⟨by omega,b,c⟩)
  simp only[e]
theorem zkp(h:comV p (rf m)=true\/m=a0):prS p rf a0 (m+1)=prS p rf a0 m:=by
 funext j
 unfold prS
 by_cases hj:j=m
 ·subst hj
  rw[if_neg,if_neg qad]
  rintro⟨_,h2,h3⟩
  rcases h with h|h
  ·rw[h]at h3;cases h3
  ·exact h2 h
 ·have e:(j<m+1/\j≠a0/\comV p (rf j)=false) ↔ (j<m/\j≠a0/\comV p (rf j)=false):=by constructor<;>(rintro⟨a,b,c⟩;exact⟨by omega,b,c⟩)
  simp only[e]
end
theorem bneT{a:Int}{k:Bool->Prop}(h:k false):∀ t,(a != a)=t->k t:=fun t e=>by
 have e2:false=t:=(show(a != a)=false by simp).symm.trans e
 exact e2 ▸ h
theorem bneF{a b:Int}(hne:a≠b){k:Bool->Prop}(h:k true):∀ t,(a != b)=t->k t:=fun t e=>by
 have e2:true=t:=(show(a != b)=true by simpa using hne).symm.trans e
 exact e2 ▸ h
theorem zkc:chkFn Tryz.f136=true:=qah
theorem ztc{w n o:Nat}(hw:1<=w/\w<=12)(hn:n<w)(ho:o<=1)(F:FuncId){rf:Nat->Ps}{a0:Nat}{R:List Nat}(hpv:Vl w (zP w n o))(hvl:∀ j,j<w->Vl w (rf j))(hA:antL (zP w n o) rf w=a0::R)
  (hx2:PC Pr GG 107 [.agg [iD w,.sl ((List.range w).map fun j=>Ps.l (rf j)) true],(zP w n o).d] (iD 0)) :
  ACall Pr GG 136 [.ptr 2 3 0 0,.d (iD n),.d (iD o)] [(2,some (wkF w 3 F)),(3,some (dblk 4 ((List.range w).map fun j=>Ps.l (rf j))))] 12 fun v H n'=>v = .d (.tup [iD 1,iD 0])/\H.get 2=some (wkF w 12 F)/\H.get 12=some (dblk 4 ((redRows (rowsL w (prjF rf (zP w n o) a0 R)) (2*w)).map Ps.l))/\n'=13:=by
 have hsh:ishl .i64 1 (n:Int)=((2^n:Nat):Int):=zcg qad
 have him:imul .i64 2 (o:Int)=((2*o:Nat):Int):=zet (a:=2) qad
 have hPv:=zs4 hw.2 hvl hpv (zha hA).1 (R:=R)
 have hcan:=zi3 (G:=GG) hw (rowsL w (prjF rf (zP w n o) a0 R)) true qbo (fun q hq=>by
  obtain⟨j,hj,rfl⟩:=List.mem_map.1 hq
  exact hPv j (List.mem_range.1 hj))
 obtain⟨sp1,sp2,sp3,sp4⟩:=zha hA
 have hno:(∀ j,j<w->comV (zP w n o) (rf j)=true)->False:=fun h=>by
  have:=h a0 sp1
  rw[sp2]at this;cases this
 have hcan2:PO Pr GG 105 [.agg [iD w,.sl ((List.range w).map fun j=>Ps.l (prjF rf (zP w n o) a0 R j)) true]] (.agg [.d (iD w),.sl 0 4 0 w w true]) [(0,some (dblk 4 ((redRows (rowsL w (prjF rf (zP w n o) a0 R)) (2*w)).map Ps.l)))] 1:=by
  have eR:(rowsL w (prjF rf (zP w n o) a0 R)).map Ps.l=(List.range w).map fun j=>Ps.l (prjF rf (zP w n o) a0 R j):=by unfold rowsL;rw[List.map_map];rfl
  have eL:(rowsL w (prjF rf (zP w n o) a0 R)).length=w:=qc3
  rw[<- eR]
  rw[eL]at hcan
  exact hcan
 clear hcan
 have hRm:∀ j,j∈R ↔ j<w/\j≠a0/\comV (zP w n o) (rf j)=false:=fun j=>by
  have hm:j∈a0::R ↔ j<w/\comV (zP w n o) (rf j)=false:=by
   rw[<- hA];unfold antL;rw[List.mem_filter,List.mem_range];simp
  have hnd:(a0::R).Nodup:=qfh
  have haR:a0 ∉ R:=(List.nodup_cons.1 hnd).1
  constructor
  ·exact qhp
  ·exact qhf
 have hB0:chkCode Tryz.f136.ntmps (rgI Tryz.f136 0).2=true:=qah
 have hB1:chkCode Tryz.f136.ntmps (rgI Tryz.f136 1).2=true:=qah
 refine zaz (za4 pok Tryz.func136 zkc (K:=fun v H m=>v = .d (.tup [iD 1,iD 0])/\H.get 2=some (wkF w 24 F)/\H.get 24=some (dblk 4 ((redRows (rowsL w (prjF rf (zP w n o) a0 R)) (2*w)).map Ps.l))) ?_) ?_
 ·conv=>whnf
  repeat' first|((first|refine LookP.mk _ (by first|rfl|exact lendW rfl qc3) ?_|refine ShlP.mk _ qaa ?_|refine And.intro qbi ?_|rw[hsh]|rw[him]|refine zdl (l:=[3]) (zez rfl rfl (show _=some (dblk 4 ((List.range w).map fun j=>Ps.l (rf j))) from rfl)) ?_|refine zam hx2 ?_|refine zi6 rfl ?_|refine HpP.force ?_);conv=>whnf)
  refine zbb pok Tryz.func195 zwk ?_
  conv=>whnf
  skip
  refine zbb pok Tryz.func247 zwj ?_
  conv=>whnf
  repeat' first|(refine LookP.mk _ rfl ?_;conv=>whnf)
  refine zaq pok (fun i=>⟨[(0,.yld 18),(4,.d (.fn 114 [.agg [iD w,iD 0,iD ((2^n:Nat):Int),iD ((2*o:Nat):Int)]] [])),(14,.sl 3 4 0 w w true),(15,.d (iD w)),(16,.d (iD i))],[(2,some (wkF w 3 F)),(3,some (dblk 4 ((List.range w).map fun j=>Ps.l (rf j)))),(12,some (.arr 1 [[.ptr 2 3 0 0]])),(13,some (.arr 4 [[.d (iD w),.d (iD 0),.d (iD ((2^n:Nat):Int)),.d (iD ((2*o:Nat):Int))]])),(14,some (.arr 1 [[.d (iD (-1))]])),(15,some (.arr 1 [[.ptr 2 3 0 0]])),(16,some (.arr 4 [[.d (iD w),.d (iD 0),.d (iD ((2^n:Nat):Int)),.d (iD ((2*o:Nat):Int))]])),(17,some (.raw (.deferred (some [])))),(18,some (.lp [(34,.fn 247 [] [.ptr 16 4 0 0,.ptr 15 1 0 0]),(33,.d (.agg [iD w,iD 0,iD ((2^n:Nat):Int),iD ((2*o:Nat):Int)])),(32,.ptr 2 3 0 0),(9,.ptr 14 1 0 0),(30,.d (.bool false)),(31,.d (.bool false)),(28,.d (.bool false)),(29,.d (.bool false)),(27,.d (iD 0)),(26,.d (.agg [iD w,iD 0,iD ((2^n:Nat):Int),iD ((2*o:Nat):Int)])),(25,.agg [.d (iD w),.sl 3 4 0 w w true]),(24,.ptr 2 3 0 0),(23,.ptr 2 3 0 0),(22,.ptr 2 3 0 0),(8,.ptr 13 4 0 0),(21,.d (.agg [iD w,iD 0,iD ((2^n:Nat):Int),iD ((2*o:Nat):Int)])),(20,.d (iD ((2*o:Nat):Int))),(19,.d (iD o)),(18,.d (iD ((2^n:Nat):Int))),(17,.d (iD n)),(16,.d (iD w)),(15,.ptr 2 3 0 0),(14,.ptr 2 3 0 0),(13,.ptr 2 3 0 0),(12,.ptr 2 3 0 0),(7,.d (iD 0)),(6,.d (iD 0)),(3,.ptr 12 1 0 0),(0,.ptr 2 3 0 0),(1,.d (iD n)),(2,.d (iD o))] Tryz.f136.ntmps #[35] (rgI Tryz.f136 0).1 (rgI Tryz.f136 0).2 .ready none 17))],19⟩) (w) (fun i=>∀ j,j<i->comV (zP w n o) (rf j)=true) qad ?_ qah ?_ ?_
  ·refine zac qac ?_ ?_ trivial
   ·exact qae
   ·exact qak
  ·intro i A_i h_i I_i N_i
   have e_i:iadd .i64 (i:Int) 1=((i+1:Nat):Int):=zah qbl
   have hc:=zlb (G:=GG) hw hpv (hvl i h_i)
   cases hb:comV (zP w n o) (rf i) with
   | true =>
    rw[hb]at hc
    conv=>whnf
    repeat (refine LookP.mk _ rfl ?_;conv=>whnf)
    intro t ht
    cases t
    ·exact qbh
    conv=>whnf
    repeat' first|((first|refine LookP.mk _ qde ?_|refine ShlP.mk _ qaa ?_|refine And.intro qbi ?_|refine zak hc ?_|refine HpP.force ?_);conv=>whnf)
    refine N_i _ ?_ ?_
    ·exact qdh
    ·refine zac qac ?_ ?_ trivial
     ·exact qai
     ·exact qak
   | false =>
    rw[hb]at hc
    have hia:i=a0:=by
     rcases Nat.lt_trichotomy i a0 with q|q|q
     ·have:=sp3 i q
      rw[hb]at this;cases this
     ·exact q
     ·have:=I_i a0 q
      rw[sp2]at this;cases this
    conv=>whnf
    repeat (refine LookP.mk _ rfl ?_;conv=>whnf)
    intro t ht
    cases t
    ·exact qbh
    conv=>whnf
    repeat' first|((first|refine LookP.mk _ qde ?_|refine ShlP.mk _ qaa ?_|refine And.intro qbi ?_|refine zak hc ?_|refine HpP.force ?_);conv=>whnf)
    refine za9 pok ?_
    conv=>whnf
    repeat' first|((first|refine LookP.mk _ rfl ?_|refine ShlP.mk _ qaa ?_|refine HpP.force ?_);conv=>whnf)
    refine zbb pok Tryz.func195 zwk ?_
    conv=>whnf
    skip
    refine zbb pok Tryz.func247 zwj ?_
    conv=>whnf
    repeat' first|(refine LookP.mk _ rfl ?_;conv=>whnf)
    refine zaq pok (fun m=>⟨[(0,.yld 23),(4,.d (.fn 114 [.agg [iD w,iD 0,iD ((2^n:Nat):Int),iD ((2*o:Nat):Int)]] [])),(14,.sl 3 4 0 w w true),(15,.d (iD w)),(16,.d (iD m))],[(2,some (wkF w 3 F)),(3,some (dblk 4 ((List.range w).map fun j=>Ps.l (prS (zP w n o) rf a0 m j)))),(12,some (.arr 1 [[.ptr 2 3 0 0]])),(13,some (.arr 4 [[.d (iD w),.d (iD 0),.d (iD ((2^n:Nat):Int)),.d (iD ((2*o:Nat):Int))]])),(14,some (.arr 1 [[.d (iD a0)]])),(17,some (.raw (.deferred (some [])))),(20,some (.arr 1 [[.ptr 2 3 0 0]])),(21,some (.arr 4 [[.d (iD w),.d (iD 0),.d (iD ((2^n:Nat):Int)),.d (iD ((2*o:Nat):Int))]])),(22,some (.raw (.deferred (some [])))),(23,some (.lp [(39,.fn 247 [] [.ptr 21 4 0 0,.ptr 20 1 0 0]),(38,.d (.agg [iD w,iD 0,iD ((2^n:Nat):Int),iD ((2*o:Nat):Int)])),(37,.ptr 2 3 0 0),(34,.fn 247 [] [.ptr 16 4 0 0,.ptr 15 1 0 0]),(33,.d (.agg [iD w,iD 0,iD ((2^n:Nat):Int),iD ((2*o:Nat):Int)])),(32,.ptr 2 3 0 0),(9,.ptr 14 1 0 0),(30,.d (.bool false)),(31,.d (.bool false)),(28,.d (.bool false)),(29,.d (.bool false)),(27,.d (iD 0)),(26,.d (.agg [iD w,iD 0,iD ((2^n:Nat):Int),iD ((2*o:Nat):Int)])),(25,.agg [.d (iD w),.sl 3 4 0 w w true]),(24,.ptr 2 3 0 0),(23,.ptr 2 3 0 0),(22,.ptr 2 3 0 0),(8,.ptr 13 4 0 0),(21,.d (.agg [iD w,iD 0,iD ((2^n:Nat):Int),iD ((2*o:Nat):Int)])),(20,.d (iD ((2*o:Nat):Int))),(19,.d (iD o)),(18,.d (iD ((2^n:Nat):Int))),(17,.d (iD n)),(16,.d (iD w)),(15,.ptr 2 3 0 0),(14,.ptr 2 3 0 0),(13,.ptr 2 3 0 0),(12,.ptr 2 3 0 0),(7,.d (iD 0)),(6,.d (iD 0)),(3,.ptr 12 1 0 0),(0,.ptr 2 3 0 0),(1,.d (iD n)),(2,.d (iD o))] Tryz.f136.ntmps #[40] (rgI Tryz.f136 1).1 (rgI Tryz.f136 1).2 .ready none 22))],24⟩) (w) (fun _=>True) (trivial) ?_ qah ?_ ?_
    ·refine zac qac ?_ ?_ trivial
     ·exact qae
     ·exact qbf
    ·exact qf1
    ·intro A_last I_last
     have hfin:∀ j,(if j=a0 then [iD w,iD 0,iD ((2^n:Nat):Int),iD ((2*o:Nat):Int)] else Ps.l (prS (zP w n o) rf a0 w j))=Ps.l (prjF rf (zP w n o) a0 R j):=fun j=>by
      unfold prjF prjR prS
      by_cases h:j=a0
      ·rw[if_pos h,if_pos h];rfl
      ·exact qg0
     have hgA:(fun j=>Ps.l (prS (zP w n o) rf a0 w j)) a0=Ps.l (rf a0):=by dsimp only;rw[zu8]
     generalize prS (zP w n o) rf a0 w=g at hfin hgA
     generalize prjF rf (zP w n o) a0 R=g' at hfin hcan2⊢
     conv=>whnf
     repeat (refine LookP.mk _ rfl ?_;conv=>whnf)
     intro t ht
     cases t
     rotate_left
     ·exact qbh
     conv=>whnf
     repeat' first|((first|refine LookP.mk _ qd9 ?_|refine ShlP.mk _ qcd ?_|refine And.intro qbm ?_|refine zdl (l:=[3]) (zez rfl rfl (show _=some (dblk 4 ((List.range w).map fun j=>Ps.l (g' j))) from congrArg some (zbm hfin))) ?_|refine zor hcan2 ?_|rw[ziw]|refine ShhP.mk _ rfl ?_|refine HpP.force ?_);conv=>whnf)
     refine fin ⟨rfl,rfl,?_⟩
     show some (Blk.ren _ (dblk 4 _))=_
     rw[zbf]
  ·intro A_last I_last
   exact(hno I_last).elim
 ·exact qgg
end Go.Tz
namespace Go.Tz
open Go Go.AL Go.Proofs Go.Ma
abbrev mK(w:Nat)(F:FuncId)(v:AV)(nm:Nat)(R:List Ps):AV->AHeap->Nat->Prop:=fun v' H n'=>v'=v/\H.get 2=some (wkF w nm F)/\H.get nm=some (dblk 4 (R.map Ps.l))/\n'=13
abbrev mA(w:Nat)(F:FuncId)(L:List Ps):AHeap:=[(2,some (wkF w 3 F)),(3,some (dblk 4 (L.map Ps.l)))]
abbrev rV(n e:Int):AV:=.d (.tup [iD n,iD e])
theorem zl1{w n o:Nat}{L:List Ps}(hs:SOk w L)(hn:n<w)(ho:o<=1)(F:FuncId){e r:Int}(he:expP L (zP w n o)=e)(h:(e=1/\r=0)\/(e = -1/\r=6)) :
  ACall Pr GG 136 [.ptr 2 3 0 0,.d (iD n),.d (iD o)] (mA w F L) 12 (mK w F (rV 0 r) 3 L):=by
 have hlen:=hs.len
 have hhi:=hs.hi
 have hpv:=zkf hn ho
 have hx:=zfs hs true hpv
 rw[he]at hx
 have hsh:ishl .i64 1 (n:Int)=((2^n:Nat):Int):=zcg qad
 have him:imul .i64 2 (o:Int)=((2*o:Nat):Int):=zet (a:=2) qad
 have hx2:PC Pr GG 107 [.agg [iD w,.sl (L.map Ps.l) true],(zP w n o).d] (iD e):=hx
 clear he hx
 rcases h with⟨rfl,rfl⟩|⟨rfl,rfl⟩
 ·refine zaz (za4 pok Tryz.func136 zkc (K:=fun v H m=>v=rV 0 0/\H.get 2=some (wkF w 3 F)/\H.get 3=some (dblk 4 (L.map Ps.l))) ?_) ?_
  ·conv=>whnf
   repeat' first|((first|refine LookP.mk _ qb6 ?_|refine ShlP.mk _ qaa ?_|refine And.intro qbi ?_|rw[hsh]|rw[him]|refine zdl (l:=[3]) (zez rfl rfl (show _=some (dblk 4 (L.map Ps.l)) from rfl)) ?_|refine zam hx2 ?_|refine zfh ?_|refine HpP.force ?_);conv=>whnf)
   exact fin ⟨rfl,rfl,rfl⟩
  ·rintro v H m ⟨rfl,h2,h3⟩
   refine⟨rV 0 0,mA w F L,13,?_,rfl,rfl,rfl,rfl⟩
   first|refine zav [(2,2),(3,3)] ?_ ?_ ?_ trivial|refine zap [(2,2),(3,3)] rfl rfl ?_ ?_ ?_ trivial
   ·exact qae
   ·exact qap
   ·exact qaf
 ·refine zaz (za4 pok Tryz.func136 zkc (K:=fun v H m=>v=rV 0 6/\H.get 2=some (wkF w 3 F)/\H.get 3=some (dblk 4 (L.map Ps.l))) ?_) ?_
  ·conv=>whnf
   repeat' first|((first|refine LookP.mk _ qb6 ?_|refine ShlP.mk _ qaa ?_|refine And.intro qbi ?_|rw[hsh]|rw[him]|refine zdl (l:=[3]) (zez rfl rfl (show _=some (dblk 4 (L.map Ps.l)) from rfl)) ?_|refine zam hx2 ?_|refine zfh ?_|refine zi6 rfl ?_|refine HpP.force ?_);conv=>whnf)
   exact fin ⟨rfl,rfl,rfl⟩
  ·rintro v H m ⟨rfl,h2,h3⟩
   refine⟨rV 0 6,mA w F L,13,?_,rfl,rfl,rfl,rfl⟩
   first|refine zav [(2,2),(3,3)] ?_ ?_ ?_ trivial|refine zap [(2,2),(3,3)] rfl rfl ?_ ?_ ?_ trivial
   ·exact qae
   ·exact qap
   ·exact qaf
theorem ztb{w n o:Nat}{L:List Ps}(hs:SOk w L)(hn:n<w)(ho:o<=1)(F:FuncId){a0:Nat}{R:List Nat}(he:expP L (zP w n o)=0)(hA:antL (zP w n o) (fun j=>L.getD j Ps.z0) w=a0::R) :
  ACall Pr GG 136 [.ptr 2 3 0 0,.d (iD n),.d (iD o)] (mA w F L) 12 (mK w F (rV 1 0) 12 (redRows (rowsL w (prjF (fun j=>L.getD j Ps.z0) (zP w n o) a0 R)) (2*w))):=by
 have hlen:=hs.len
 have hpv:=zkf hn ho
 have hx:=zfs hs true hpv
 rw[he]at hx
 have hvl:∀ j,j<w->Vl w (L.getD j Ps.z0):=fun j hj=>by
  rw[List.getD_eq_getElem?_getD,List.getElem?_eq_getElem (by rw[hlen];exact hj),Option.getD_some]
  exact hs.vl _ (List.getElem_mem _)
 have hLm:L.map Ps.l=(List.range w).map fun j=>Ps.l ((fun j=>L.getD j Ps.z0) j):=by
  have:=zlp L hlen
  conv=>lhs;rw[<- this]
  unfold rowsL;rw[List.map_map];rfl
 have hx2:PC Pr GG 107 [.agg [iD w,.sl (L.map Ps.l) true],(zP w n o).d] (iD 0):=hx
 unfold mA
 rw[hLm]at hx2⊢
 exact ztc ⟨hs.lo,hs.hi⟩ hn ho F hpv hvl hA hx2
structure WC (f:FuncId) (args:List AV) (w:Nat) (F:FuncId) (L:List Ps) (v:AV) (nm:Nat) (R:List Ps):Prop where
 fn:IsFn Pr f
 call:ACall Pr GG f args (mA w F L) 12 (mK w F v nm R)
theorem ze4{f:FuncId}{args:List AV}{w nm nx:Nat}{F:FuncId}{L R:List Ps}{v:AV}{H:AHeap}{k:AV->AHeap->Nat->Prop}(h:WC f args w F L v nm R)(hn:nx<=12)
  (h2:H.get 2=some (wkF w 3 F)) (h3:H.get 3=some (dblk 4 (L.map Ps.l))) (hk:k v ((2,some (wkF w nm F))::(nm,some (dblk 4 (R.map Ps.l)))::AHeap.del H 3) 13):CallVC Pr GG f args H nx k:=by
 refine⟨h.fn,zbj h.call hn (fun m b hg=>?_) ?_⟩
 ·exact qhc
 ·rintro v' H1 n' ⟨rfl,g2,g3,rfl⟩
  refine⟨_,fun m b hg=>?_,hk⟩
  rw[zaj,zaj]at hg
  by_cases e2:m=2
  ·exact qcv
  ·rw[if_neg e2]at hg
   by_cases e3:m=nm
   ·exact qcw
   ·rw[if_neg e3,za8]at hg
    by_cases e4:m=3
    ·exact qfm
    ·exact qgl
theorem asD_agg4{H:AHeap}{v1 v2 v3 v4:AV}{d1 d2 d3 d4:D}(h1:AsD H v1 d1)(h2:AsD H v2 d2)(h3:AsD H v3 d3)(h4:AsD H v4 d4):AsD H (.agg [v1,v2,v3,v4]) (.agg [d1,d2,d3,d4]):=by
 refine .agg _ _ rfl fun j v d hv hd=>?_
 match j,hv,hd with
 | 0,hv,hd=>simp at hv hd;subst hv hd;exact h1
 | 1,hv,hd=>simp at hv hd;subst hv hd;exact h2
 | 2,hv,hd=>simp at hv hd;subst hv hd;exact h3
 | 3,hv,hd=>simp at hv hd;subst hv hd;exact h4
 | j+4,hv,_=>simp at hv
theorem zq2{f:FuncId}{a c b i x:D}{nm sz N m:Nat}{t:Bool}{es:List (List D)}{v:AV}{M:AHeap}{n:Nat}{H:AHeap}{nx:Nat}{k:AV->AHeap->Nat->Prop}(h:PO Pr GG f [.agg [a,.sl es t],.agg [c,.sl [[x]] true,b,i]] v M n)(hg:H.get nm=some (dblk sz es))(hm:H.get m=some (.arr 1 [[.d x]]))(hne:nm≠m)(hN:N=es.length)
  (hk:k (v.ren (· + nx)) (M.shift nx++dels [nm,m] H) (nx+n)):CallVC Pr GG f [.agg [.d a,.sl nm sz 0 N N t],.agg [.d c,.sl m 1 0 1 1 true,.d b,.d i]] H nx k:=by
 have g1:AHeap.get [(nm,some (dblk sz es)),(m,some (dblk 1 [[x]]))] nm=some (dblk sz es):=zaf _ _ _
 have g2:AHeap.get [(nm,some (dblk sz es)),(m,some (dblk 1 [[x]]))] m=some (dblk 1 [[x]]):=by rw[zad _ _ (Ne.symm hne),zaf]
 refine⟨h.fn,zhc (HL:=[(nm,some (dblk sz es)),(m,some (dblk 1 [[x]]))]) (L:=[nm,m]) (zcf h.call ?_) rfl (fun q bl hq=>?_) (fun j u d h1 h2=>?_)⟩
 ·rintro v' N' m' ⟨rfl,rfl,rfl⟩
  exact hk
 ·rw[zaj,zaj]at hq
  by_cases e1:q=nm
  ·rw[if_pos e1]at hq;exact⟨by simp[e1],by rw[e1,hg,hq]⟩
  ·rw[if_neg e1]at hq
   by_cases e2:q=m
   ·rw[if_pos e2]at hq;refine⟨by simp[e2],?_⟩;rw[e2,hm,<- hq];rfl
   ·rw[if_neg e2]at hq;cases hq
 ·match j,h1,h2 with
  | 0,h1,h2 =>
   simp at h1 h2;subst h1 h2
   exact zpx (.d _) (zda g1 hN)
  | 1,h1,h2 =>
   simp at h1 h2;subst h1 h2
   exact asD_agg4 (.d _) (zda g2 rfl) (.d _) (.d _)
  | j+2,h1,_=>simp at h1
def xG(n:Nat):Gt:=⟨1,[(n:Int)],true,0,0⟩
theorem xG_ok{w n:Nat}(hn:n<w):gchk (xG n) w 0=0/\kindB (xG n).k=true:=by
 refine⟨?_,rfl⟩
 unfold gchk xG
 simp only
 rw[if_neg qag,if_neg (by simp[arI]),if_neg ?_,if_neg ?_]
 ·rfl
 ·simp[dupB,dupAt]
 ·rw[out_no]
  ·exact qc3
  ·intro m hm
   rw[List.mem_singleton.1 hm];omega
end Go.Tz
namespace Go.Tz
open Go Go.AL Go.Proofs Go.Ma
theorem zn1:chkFn Tryz.f137=true:=qah
theorem zlr{w n o:Nat}{L M:List Ps}{F:FuncId}{nm:Nat}{c x:Int}(hM:WC 136 [.ptr 2 3 0 0,.d (iD n),.d (iD o)] w F L (rV c x) nm M)(hnm:nm=3\/nm=12)(h:(x=6)\/(x=0/\o=0)) :
  WC 137 [.ptr 2 3 0 0,.d (iD n),.d (iD o)] w F L (rV c x) nm M:=by
 refine⟨za3 Tryz.func137 zn1,?_⟩
 rcases hnm with rfl|rfl
 ·refine zaz (za4 pok Tryz.func137 zn1 (K:=fun v H m=>v=rV c x/\H.get 2=some (wkF w 3 F)/\H.get 3=some (dblk 4 (M.map Ps.l))) ?_) ?_
  ·exact qgn
  ·rintro v H m ⟨rfl,h2,h3⟩
   refine⟨rV c x,mA w F M,13,?_,rfl,rfl,rfl,rfl⟩
   first|refine zav [(2,2),(3,3)] ?_ ?_ ?_ trivial|refine zap [(2,2),(3,3)] rfl rfl ?_ ?_ ?_ trivial
   ·exact qae
   ·exact qap
   ·exact qaf
 ·refine zaz (za4 pok Tryz.func137 zn1 (K:=fun v H m=>v=rV c x/\H.get 2=some (wkF w 12 F)/\H.get 12=some (dblk 4 (M.map Ps.l))) ?_) ?_
  ·exact qgn
  ·rintro v H m ⟨rfl,h2,h3⟩
   refine⟨rV c x,[(2,some (wkF w 12 F)),(12,some (dblk 4 (M.map Ps.l)))],13,?_,rfl,rfl,rfl,rfl⟩
   first|refine zav [(2,2),(12,12)] ?_ ?_ ?_ trivial|refine zap [(2,2),(12,12)] rfl rfl ?_ ?_ ?_ trivial
   ·exact qae
   ·exact qap
   ·exact qaf
theorem zqo{w n:Nat}{L M:List Ps}{F:FuncId}{nm:Nat}{c:Int}(hw:1<=w/\w<=12)(hn:n<w)(hM:WC 136 [.ptr 2 3 0 0,.d (iD n),.d (iD 1)] w F L (rV c 0) nm M)(hnm:nm=3\/nm=12)(hlen:M.length=w)(hv:∀ q,q∈M->Vl w q) :
  WC 137 [.ptr 2 3 0 0,.d (iD n),.d (iD 1)] w F L (rV c 0) 12 (appG w (xG n) M):=by
 refine⟨za3 Tryz.func137 zn1,?_⟩
 have ha:=zn4 (G:=GG) hw (i:=0) (xG_ok hn).1 (xG_ok hn).2 M true qad hv
 have e:appG w ⟨1,[(n:Int)],true,0,0⟩ M=appG w (xG n) M:=rfl
 have ha:PO Pr GG 125 [.agg [iD w,.sl (M.map Ps.l) true],.agg [iD 1,.sl [[iD n]] true,iD 0,iD 0]] (.agg [.d (iD w),.sl 0 4 0 w w true]) [(0,some (dblk 4 ((appG w (xG n) M).map Ps.l)))] 1:=by
  rw[hlen]at ha
  exact ha
 have hml:w=(M.map Ps.l).length:=by rw[List.length_map,hlen]
 generalize appG w (xG n) M=Q at ha⊢
 rcases hnm with rfl|rfl
 ·exact qf5
 ·exact qf5
end Go.Tz
namespace Go.Tz
open Go Go.AL Go.Proofs Go.Ma
abbrev wA(n o:Nat):List AV:=[.ptr 2 3 0 0,.d (iD n),.d (iD o)]
theorem meas{w n o:Nat}{l r:List Ps}(h:SOk w l)(h':SOk w r)(hg:SameG (r.map nf) (l.map nf))(hn:n<w)(ho:o<=1)(F:FuncId) :
  (expR w l (zP w n o)=1/\WC 136 (wA n o) w F r (rV 0 0) 3 r)\/(expR w l (zP w n o) = -1/\WC 136 (wA n o) w F r (rV 0 6) 3 r) ∨
  (expR w l (zP w n o)=0/\SOk w (prjL (zP w n o) l)/\WC 136 (wA n o) w F r (rV 1 0) 12 (redRows (prjL (zP w n o) l) (2*w))):=by
 have hpv:=zkf hn ho
 have hok:=zr6 h.hi hn ho
 obtain⟨e1,e2⟩:=ztg h h' hg hpv hok
 have hf:=za3 Tryz.func136 zkc
 rcases zcs (zgh h hpv hok) with⟨a,_⟩|⟨a,_⟩|⟨a,_⟩
 ·exact .inl ⟨a,hf,zl1 h' hn ho F (e1.trans a) (.inl ⟨rfl,rfl⟩)⟩
 ·exact .inr (.inl ⟨a,hf,zl1 h' hn ho F (e1.trans a) (.inr ⟨rfl,rfl⟩)⟩)
 ·obtain⟨b,a0,R,hA,_,hR⟩:=e2 a
  refine .inr (.inr ⟨a,b,hf,?_⟩)
  rw[<- hR]
  exact ztb h' hn ho F (e1.trans a) hA
theorem rese{w n o:Nat}{l r:List Ps}(h:SOk w l)(h':SOk w r)(hg:SameG (r.map nf) (l.map nf))(hn:n<w)(ho:o<=1)(F:FuncId) :
  (expR w l (zP w n o)=1 /\ ∃ nm,(nm=3\/nm=12)/\WC 137 (wA n o) w F r (rV 0 0) nm (if o=1 then appG w (xG n) r else r))\/(expR w l (zP w n o) = -1/\WC 137 (wA n o) w F r (rV 0 6) 3 r) ∨
  (expR w l (zP w n o)=0/\SOk w (prjL (zP w n o) l)/\WC 137 (wA n o) w F r (rV 1 0) 12 (if o=1 then appG w (xG n) (redRows (prjL (zP w n o) l) (2*w)) else redRows (prjL (zP w n o) l) (2*w))):=by
 have hw:1<=w/\w<=12:=⟨h.lo,h.hi⟩
 have h01:o=0\/o=1:=qad
 rcases meas h h' hg hn ho F with⟨a,b⟩|⟨a,b⟩|⟨a,s,b⟩
 ·refine .inl ⟨a,?_⟩
  rcases h01 with rfl|rfl
  ·exact⟨3,.inl rfl,zlr b (.inl rfl) (.inr ⟨rfl,rfl⟩)⟩
  ·exact⟨12,.inr rfl,zqo hw hn b (.inl rfl) h'.len h'.vl⟩
 ·exact .inr (.inl ⟨a,zlr b (.inl rfl) (.inl rfl)⟩)
 ·refine .inr (.inr ⟨a,s,?_⟩)
  have hS:=(zbg s).1
  rcases h01 with rfl|rfl
  ·exact zlr b (.inr rfl) (.inr ⟨rfl,rfl⟩)
  ·exact zqo hw hn b (.inr rfl) hS.len hS.vl
end Go.Tz
namespace Go.Tz
open Go Go.AL Go.Proofs Go.Ma
def mB(g:Gt):Bool:=decide (g.k=13\/g.k=14)
structure As where
 (r:List Ps)
 (bs:List Int)
 (c k:Nat)
 (f:FuncId)
def pA(w:Nat)(wa:List Int)(s:As)(g:Gt):Ps:=zP w (gA g) (wa.getD s.k 0).toNat
def onB(s:As)(g:Gt):Bool:=decide (g.i=0)||decide (s.bs.getD (g.i-1).toNat 0=1)
def rA(w:Nat)(wa:List Int)(s:As)(g:Gt):List Ps:=if expR w s.r (pA w wa s g)=1 then s.r else redRows (prjL (pA w wa s g) s.r) (2*w)
def stepA(w:Nat)(wa:List Int)(s:As)(g:Gt):As :=
 if mB g=true then⟨if g.k=14/\(wa.getD s.k 0).toNat=1 then appG w (xG (gA g)) (rA w wa s g) else rA w wa s g,if g.k=13 then s.bs.set g.b.toNat (wa.getD s.k 0) else s.bs,if expR w s.r (pA w wa s g)=1 then s.c else s.c+1,s.k+1,if g.k=13 then 136 else 137⟩
 else if onB s g=true then{ s with r:=appG w g s.r } else s
def runA(w:Nat)(wa:List Int)(b:Int)(l:List Ps)(gs:List Gt):As:=gs.foldl (stepA w wa) ⟨redRows l (2*w),List.replicate b.toNat 0,0,0,136⟩
def badA(w:Nat)(wa:List Int)(b:Int)(l:List Ps)(gs:List Gt)(i:Nat)(g:Gt):Bool:=mB g&&decide (expR w (runA w wa b l (gs.take i)).r (pA w wa (runA w wa b l (gs.take i)) g) = -1)
theorem zee{w:Nat}{wa:List Int}{b:Int}{l:List Ps}{gs:List Gt}{i:Nat}(h:i<gs.length):runA w wa b l (gs.take (i+1))=stepA w wa (runA w wa b l (gs.take i)) gs[i]:=by
 unfold runA;rw[zbe h,List.foldl_append];rfl
structure AOk (w:Nat) (b:Int) (gs:List Gt) (wa:List Int):Prop where
 hw:1<=w/\w<=12
 hb:0<=b/\b<=8
 len:gs.length<=120
 gc:∀ g,g∈gs->gchk g w b=0
 kd:∀ g,g∈gs->mB g=true\/kindB g.k=true
 cnt:wa.length=gs.countP mB
 bit:∀ x,x∈wa->x=0\/x=1
structure Inv (w:Nat) (b:Int) (n:Nat) (k:Nat) (s:As):Prop where
 ok:SOk w s.r
 red:redRows s.r (2*w)=s.r
 bl:(s.bs.length:Int)=b
 bv:∀ x,x∈s.bs->x=0\/x=1
 c:s.c<=n
 k:s.k=k
theorem zfo{g:Gt}{w:Nat}{b:Int}(h:gchk g w b=0)(hm:mB g=true):g.ws=[(gA g:Int)]/\gA g<w/\g.i=0:=by
 obtain⟨h1,h2,h3,h4,h5⟩:=zej h
 obtain⟨b1,b2,b3,b4⟩:=zgk h5
 have hm:g.k=13\/g.k=14:=of_decide_eq_true hm
 have har:arI g.k=1:=by rcases hm with e|e<;>rw[e]<;>rfl
 rw[har]at h2
 obtain⟨a,ha⟩:∃ a,g.ws=[a]:=by
  match hq:g.ws with
  | []=>rw[hq]at h2;simp at h2
  | [a]=>exact⟨a,rfl⟩
  | _::_::_=>rw[hq]at h2;simp at h2;omega
 rw[ha]at h3
 have hgA:gA g=a.toNat:=by unfold gA;rw[ha];rfl
 have h3:¬(a<0\/a>=(w:Int)):=by
  unfold outB at h3
  simpa using h3
 refine⟨?_,by omega,b3 hm⟩
 rw[ha,hgA,show((a.toNat:Nat):Int)=a by omega]
theorem mB_bit{g:Gt}{w:Nat}{b:Int}(h:gchk g w b=0)(hm:g.k=13):0<=g.b/\g.b<b:=(zgk (zej h).2.2.2.2).2.1 hm
theorem zho{wa:List Int}(hb:∀ x,x∈wa->x=0\/x=1)(k:Nat):(wa.getD k 0=0\/wa.getD k 0=1)/\(wa.getD k 0).toNat<=1/\(((wa.getD k 0).toNat:Nat):Int)=wa.getD k 0:=by
 have h:wa.getD k 0=0\/wa.getD k 0=1:=by
  rw[List.getD_eq_getElem?_getD]
  cases hq:wa[k]? with
  | none=>exact .inl rfl
  | some x=>exact hb x (List.mem_of_getElem? hq)
 exact⟨h,by omega,by omega⟩
theorem cnt_le{gs:List Gt}{i:Nat}(h:i<gs.length)(hm:mB gs[i]=true):(gs.take i).countP mB<gs.countP mB:=by
 have e:=List.take_append_drop (i+1) gs
 conv=>rhs;rw[<- e,List.countP_append,zbe h,List.countP_append]
 simp[List.countP_cons,hm]
 omega
theorem rA_ok{w:Nat}{b:Int}{n k:Nat}{s:As}(h:Inv w b n k s){g:Gt}(hg:gchk g w b=0)(hm:mB g=true){wa:List Int}(hb:∀ x,x∈wa->x=0\/x=1)(hx:expR w s.r (pA w wa s g) ≠ -1):SOk w (rA w wa s g)/\redRows (rA w wa s g) (2*w)=rA w wa s g:=by
 obtain⟨h1,h2,h3⟩:=zfo hg hm
 unfold rA
 by_cases e:expR w s.r (pA w wa s g)=1
 ·rw[if_pos e];exact⟨h.ok,h.red⟩
 ·rw[if_neg e]
  have hs:SOk w (prjL (pA w wa s g) s.r):=by
   rcases meas h.ok h.ok (fun _=>Iff.rfl) h2 (zho hb s.k).2.1 0 with⟨a,_⟩|⟨a,_⟩|⟨_,a,_⟩
   ·exact absurd a e
   ·exact absurd a hx
   ·exact a
  exact⟨(zbg hs).1,zsz hs⟩
theorem step_inv{w:Nat}{b:Int}{n k:Nat}{s:As}(h:Inv w b n k s){g:Gt}(hg:gchk g w b=0)(hk:mB g=true\/kindB g.k=true){wa:List Int}(hb:∀ x,x∈wa->x=0\/x=1)(hx:mB g=true->expR w s.r (pA w wa s g) ≠ -1):Inv w b (n+1) (k+if mB g=true then 1 else 0) (stepA w wa s g):=by
 unfold stepA
 have hc:=h.c
 by_cases hm:mB g=true
 ·obtain⟨r1,r2⟩:=rA_ok h hg hm hb (hx hm)
  obtain⟨h1,h2,h3⟩:=zfo hg hm
  obtain⟨x1,x2⟩:=xG_ok h2
  rw[if_pos hm,if_pos hm]
  refine⟨?_,?_,?_,?_,?_,by show s.k+1=k+1;rw[h.k]⟩
  ·dsimp only
   split
   ·exact zpy x1 x2 r1
   ·exact r1
  ·dsimp only
   split
   ·exact zwr x1 x2 r1
   ·exact r2
  ·dsimp only
   split
   ·rw[List.length_set];exact h.bl
   ·exact h.bl
  ·dsimp only
   split
   ·intro x hxm
    rcases List.mem_or_eq_of_mem_set hxm with q|q
    ·exact h.bv x q
    ·rw[q];exact(zho hb s.k).1
   ·exact h.bv
  ·dsimp only
   split<;>omega
 ·have hk2:kindB g.k=true:=hk.resolve_left hm
  rw[if_neg hm,if_neg hm]
  split
  ·exact⟨zpy hg hk2 h.ok,zwr hg hk2 h.ok,h.bl,h.bv,Nat.le_succ_of_le hc,h.k⟩
  ·exact⟨h.ok,h.red,h.bl,h.bv,Nat.le_succ_of_le hc,h.k⟩
theorem zih{w:Nat}{wa:List Int}{b:Int}{l:List Ps}{gs:List Gt}(hA:AOk w b gs wa)(hs:SOk w l):∀ i,i<=gs.length->(∀ j (h:j<gs.length),j<i->badA w wa b l gs j gs[j]=false)->Inv w b i ((gs.take i).countP mB) (runA w wa b l (gs.take i))
 | 0,_,_=>⟨(zbg hs).1,zsz hs,by show((List.replicate b.toNat (0:Int)).length:Int)=b;rw[List.length_replicate];have:=hA.hb;omega,fun x hx=>.inl (List.eq_of_mem_replicate hx),Nat.le_refl _,rfl⟩
 | i+1,hi,hb=>by
  have ih:=zih hA hs i qad fun j h hj=>hb j h qad
  have hbi:=hb i qad qad
  have hmem:=List.getElem_mem (show i<gs.length by omega)
  rw[zee qad]
  have h:=step_inv ih (hA.gc _ hmem) (hA.kd _ hmem) hA.bit (fun hm=>by
   unfold badA at hbi
   rw[hm]at hbi
   simpa using hbi)
  have e:(gs.take (i+1)).countP mB=(gs.take i).countP mB+if mB gs[i]=true then 1 else 0:=by
   rw[zbe qad,List.countP_append]
   simp[List.countP_cons]
  rw[e];exact h
end Go.Tz
namespace Go.Tz
open Go Go.AL Go.Proofs Go.Ma
theorem asD_tup4{H:AHeap}{v1 v2 v3 v4:AV}{d1 d2 d3 d4:D}(h1:AsD H v1 d1)(h2:AsD H v2 d2)(h3:AsD H v3 d3)(h4:AsD H v4 d4):AsD H (.tup [v1,v2,v3,v4]) (.tup [d1,d2,d3,d4]):=by
 refine .tup _ _ rfl fun j v d hv hd=>?_
 match j,hv,hd with
 | 0,hv,hd=>simp at hv hd;subst hv hd;exact h1
 | 1,hv,hd=>simp at hv hd;subst hv hd;exact h2
 | 2,hv,hd=>simp at hv hd;subst hv hd;exact h3
 | 3,hv,hd=>simp at hv hd;subst hv hd;exact h4
 | j+4,hv,_=>simp at hv
abbrev nums(bs:List Int):List (List D):=bs.map fun x=>[iD x]
theorem get_is{bs:List Int}{m:Nat}(h:m<bs.length):((nums bs).map fun el=>el.map AV.d)[0+(m:Int).toNat]?=some ([iD (bs.getD m 0)].map AV.d):=by
 rw[List.getD_eq_getElem?_getD,List.getElem?_eq_getElem h]
 simp[h]
theorem set_is{bs:List Int}{m:Nat}{x:Int}:((nums bs).map fun el=>el.map AV.d).set (0+(m:Int).toNat) ([iD x].map AV.d)=(nums (bs.set m x)).map fun el=>el.map AV.d:=by
 simp[nums,List.map_set]
def okB(g:Gt):Bool:=mB g||kindB g.k
def alE(w:Nat)(l:List Ps)(cw:Int)(b:Int)(gs:List Gt)(wa:List Int):Int :=
 if cw≠w\/gs.all okB=false then 7 else if wa.length≠gs.countP mB then 2 else if wa.all (fun x=>!offB x 0 1)=false then 3
 else if(List.range gs.length).any (fun j=>badA w wa b l gs j (gs.getD j ⟨0,[],true,0,0⟩))=true then 6 else 0
theorem mB_ge{g:Gt}{w b:Int}(h:gchk g w b=0):mB g=decide (g.k>=13):=by
 have h1:=(zej h).1
 have h2:¬(g.k<1\/g.k>14):=fun q=>h1 (ari0 q)
 unfold mB
 rw[Bool.eq_iff_iff];simp;omega
theorem al7{w:Nat}{l:List Ps}{cw b:Int}{gs:List Gt}{wa:List Int}(h:cw≠w\/gs.all okB=false):alE w l cw b gs wa=7:=by unfold alE;rw[if_pos h]
theorem al2{w:Nat}{l:List Ps}{b:Int}{gs:List Gt}{wa:List Int}(h:gs.all okB=true)(h2:wa.length≠gs.countP mB):alE w l w b gs wa=2:=by unfold alE;rw[if_neg qec,if_pos h2]
theorem al3{w:Nat}{l:List Ps}{b:Int}{gs:List Gt}{wa:List Int}(h:gs.all okB=true)(h2:wa.length=gs.countP mB)(h3:wa.all (fun x=>!offB x 0 1)=false):alE w l w b gs wa=3:=by
 unfold alE;rw[if_neg qec,if_neg (fun q=>q h2),if_pos h3]
theorem al6{w:Nat}{l:List Ps}{b:Int}{gs:List Gt}{wa:List Int}(h:gs.all okB=true)(h2:wa.length=gs.countP mB)(h3:wa.all (fun x=>!offB x 0 1)=true){j:Nat}(hj:j<gs.length)(h4:badA w wa b l gs j gs[j]=true):alE w l w b gs wa=6:=by
 unfold alE;rw[if_neg qec,if_neg (fun q=>q h2),if_neg (by simp[h3]),if_pos]
 refine List.any_eq_true.2 ⟨j,List.mem_range.2 hj,?_⟩
 rw[List.getD_eq_getElem?_getD,List.getElem?_eq_getElem hj];exact h4
theorem al0{w:Nat}{l:List Ps}{b:Int}{gs:List Gt}{wa:List Int}(h:gs.all okB=true)(h2:wa.length=gs.countP mB)(h3:wa.all (fun x=>!offB x 0 1)=true)(h4:∀ j (h:j<gs.length),j<gs.length->badA w wa b l gs j gs[j]=false):alE w l w b gs wa=0:=by
 unfold alE;rw[if_neg qec,if_neg (fun q=>q h2),if_neg (by simp[h3]),if_neg]
 intro q
 obtain⟨j,hj,hq⟩:=List.any_eq_true.1 q
 have hj:=List.mem_range.1 hj
 rw[List.getD_eq_getElem?_getD,List.getElem?_eq_getElem hj]at hq
 have:=h4 j hj hj
 simp only[Option.getD_some]at hq
 rw[this]at hq;cases hq
theorem okW_a{w:Nat}{b:Int}{gs:List Gt}{wa:List Int}(hC:cchk w b gs=0)(h:gs.all okB=true)(h2:wa.length=gs.countP mB)(h3:wa.all (fun x=>!offB x 0 1)=true):AOk w b gs wa:=by
 obtain⟨a1,a2,a3,a4⟩:=cchk_ok hC
 refine⟨by omega,a2,a3,a4,fun g hg=>?_,h2,fun x hx=>?_⟩
 ·have:=List.all_eq_true.1 h g hg
  unfold okB at this
  simpa using this
 ·have:=List.all_eq_true.1 h3 x hx
  unfold offB at this
  simp at this
  omega
end Go.Tz
namespace Go.Tz
open Go Go.AL Go.Proofs Go.Ma
theorem step_off{w:Nat}{wa:List Int}{s:As}{g:Gt}(hm:mB g=false):stepA w wa s g=if onB s g=true then{ s with r:=appG w g s.r } else s:=by
 unfold stepA;rw[if_neg (by simp[hm])]
theorem zy6{w:Nat}{wa:List Int}{s:As}{g:Gt}(hk:g.k=13):stepA w wa s g=⟨rA w wa s g,s.bs.set g.b.toNat (wa.getD s.k 0),if expR w s.r (pA w wa s g)=1 then s.c else s.c+1,s.k+1,136⟩:=by
 unfold stepA
 rw[if_pos (show mB g=true by unfold mB;simp[hk]),if_neg (by rw[hk];intro h;exact absurd h.1 qag),if_pos hk,if_pos hk]
theorem zy5{w:Nat}{wa:List Int}{s:As}{g:Gt}(hk:g.k=14):stepA w wa s g=⟨if(wa.getD s.k 0).toNat=1 then appG w (xG (gA g)) (rA w wa s g) else rA w wa s g,s.bs,if expR w s.r (pA w wa s g)=1 then s.c else s.c+1,s.k+1,137⟩:=by
 unfold stepA
 rw[if_pos (show mB g=true by unfold mB;simp[hk]),if_neg (show ¬ g.k=13 by rw[hk];decide),if_neg (show ¬ g.k=13 by rw[hk];decide)]
 simp only[hk,true_and]
end Go.Tz
namespace Go.Tz
open Go Go.AL Go.Proofs Go.Ma
theorem chk130:chkFn Tryz.f130=true:=qah
theorem ztd(g:Gt):PC Pr GG 130 ([]++[g.d]++[]) (.bool (mB g)):=by
 obtain⟨k,ws,u,b,i⟩:=g
 show PC Pr GG 130 [(Gt.mk k ws u b i).d] _
 refine zai pok Tryz.func130 chk130 ?_
 conv=>whnf
 repeat' first|(refine LookP.mk _ rfl ?_;conv=>whnf)|(intro t ht;cases t<;>conv=>whnf)
 all_goals refine fin ?_
 all_goals refine fiB ?_
 all_goals (unfold mB;simp at *;try omega)
theorem chk133:chkFn Tryz.f133=true:=qah
theorem kind133(g:Gt):PC Pr GG 133 [g.d] (.bool (kindB g.k)):=by
 obtain⟨k,ws,u,b,i⟩:=g
 refine zai pok Tryz.func133 chk133 ?_
 conv=>whnf
 repeat' first|(refine LookP.mk _ rfl ?_;conv=>whnf)|(intro t ht;cases t<;>conv=>whnf)
 all_goals refine fin ?_
 all_goals refine fiB ?_
 all_goals (unfold kindB;simp at *;try omega)
theorem chk132:chkFn Tryz.f132=true:=qah
theorem ok132(g:Gt):PC Pr GG 132 ([]++[g.d]++[.rop [.fn 130 [] []] 0]) (.bool (okB g)):=by
 have c1:=ztd g
 have c2:=kind133 g
 have e:okB g=(mB g||kindB g.k):=rfl
 rw[e]
 generalize mB g=m at c1⊢
 generalize kindB g.k=n at c2⊢
 show PC Pr GG 132 [g.d,.rop [.fn 130 [] []] 0] _
 refine zai pok Tryz.func132 chk132 ?_
 conv=>whnf
 repeat' first|((first|refine LookP.mk _ rfl ?_|refine zbk c1 rfl ?_);conv=>whnf)|(refine zhw c2 ?_)|(intro t ht;cases t<;>conv=>whnf)
 all_goals refine fin ?_
 all_goals refine fiB ?_
 all_goals simp_all
theorem chk135:chkFn Tryz.f135=true:=qah
theorem bit135(x:Int):PC Pr GG 135 ([]++[iD x]++[]) (.bool (!offB x 0 1)):=by
 show PC Pr GG 135 [iD x] _
 refine zai pok Tryz.func135 chk135 ?_
 conv=>whnf
 repeat' first|(intro t ht;cases t<;>conv=>whnf)
 all_goals refine fin ?_
 all_goals refine fiB ?_
 all_goals (unfold offB;simp at *;try omega)
end Go.Tz
namespace Go.Tz
open Go Go.AL Go.Proofs Go.Ma
def findReg(k:Nat):Code->Option (Array Oper)
 | .region id ops _=>if id=k then some ops else none
 | .seq c d=>(findReg k c).orElse fun _=>findReg k d
 | .cond _ c d=>(findReg k c).orElse fun _=>findReg k d
 | .block _ c=>findReg k c
 | .loop c=>findReg k c
 | .scope c=>findReg k c
 | _=>none
def zi0:Nat->Nat
 | 9=>139
 | 10=>129
 | 11=>140
 | 12=>141
 | 13=>22
 | 14=>23
 | j=>130+j
def val35(f:FuncId)(n o:Nat)(ug:Bool)(ch x:Int):Nat->AV
 | 0=>.ptr 2 3 0 0
 | 1=>.ptr 2 3 0 0
 | 2=>.ptr 2 3 0 (0+2)
 | 3=>.fn f [.ptr 2 3 0 0] []
 | 4=>.ptr 5 4 0 (0+1)
 | 5=>.d (intsD [(n:Int)] ug)
 | 6=>.d (.rop [iD n] 0)
 | 7=>.d (iD n)
 | 8=>.d (iD o)
 | 9=>rV ch x
 | 10=>rV ch x
 | 11=>.d (iD ch)
 | 12=>.d (iD x)
 | 13=>.d (iD ch)
 | _=>.d (iD x)
theorem dst_inj{i j:Nat}(hi:i<15)(hj:j<15)(h:zi0 i=zi0 j):i=j:=by
 have key:∀ i,i<15->∀ j,j<15->zi0 i=zi0 j->i=j:=qag
 exact key i hi j hj h
theorem dst_rng{i:Nat}(hi:i<15):(22<=zi0 i/\zi0 i<=23)\/129<=zi0 i:=by
 have key:∀ i,i<15->(22<=zi0 i/\zi0 i<=23)\/129<=zi0 i:=qag
 exact key i hi
structure S35 (ks:List (Nat×AV)) (hs:List (Nat×Blk)) (w nm:Nat) (f:FuncId) (A R:List Ps) (n o:Nat) (ug:Bool) (ch x:Int) (L:Nat->Bool) (s:St):Prop where
 kp:∀ t v,(t,v)∈ks->lk s.env t=v
 ho:∀ m bl,(m,bl)∈hs->s.heap.get m=some bl
 h0:L 9=false->s.heap.get 2=some (wkF w 3 f)/\s.heap.get 3=some (dblk 4 (A.map Ps.l))/\s.nx=6
 h1:L 9=true->s.heap.get 2=some (wkF w nm f)/\s.heap.get nm=some (dblk 4 (R.map Ps.l))/\s.nx=13
 v:∀ j,j<15->L j=true->lk s.env (zi0 j)=val35 f n o ug ch x j
variable{ks:List (Nat×AV)}{hs:List (Nat×Blk)}{w nm:Nat}{f:FuncId}{A R:List Ps}{n o:Nat}{ug:Bool}{ch x:Int}
theorem zcp(hks:∀ p,p∈ks->p.1<22\/(80<=p.1/\p.1<90)){L:Nat->Bool}{s:St}{i:Nat}{v:AV}(h:S35 ks hs w nm f A R n o ug ch x L s)(hi:i<15)(h9:i≠9)(hv:val35 f n o ug ch x i=v):S35 ks hs w nm f A R n o ug ch x (fun j=>if j=i then true else L j) (s.put (some (zi0 i)) v):=by
 subst hv
 refine⟨fun t v hm=>?_,h.ho,fun hl=>h.h0 ?_,fun hl=>h.h1 ?_,fun j hj hl=>?_⟩
 ·have:=hks _ hm
  have:=dst_rng hi
  rw[zeg (by dsimp only at *;omega)]
  exact h.kp t v hm
 ·simpa[Ne.symm h9] using hl
 ·simpa[Ne.symm h9] using hl
 ·by_cases e:j=i
  ·subst e;exact zar _ _ _
  ·rw[zeg (fun q=>e (dst_inj hj hi q))]
   simp only[if_neg e]at hl
   exact h.v j hj hl
noncomputable def ops35:Array Oper:=(Tryz.f58.body.bind (findReg 35)).getD #[]
theorem reg35(hks:∀ p,p∈ks->p.1<22\/(80<=p.1/\p.1<90))(k16:(16,AV.ptr 2 3 0 0)∈ks)(k20:(20,AV.ptr 5 4 0 0)∈ks)(k21:(21,AV.d (iD o))∈ks){c0 c2 c3:AV}(h5:(5,Blk.arr 4 [[c0,.d (intsD [(n:Int)] ug),c2,c3]])∈hs)
  (hhs:∀ p,p∈hs->p.1≠2/\p.1≠3/\p.1<6) (hW:WC f (wA n o) w f A (rV ch x) nm R) (hnm:nm=3\/nm=12) {st:St} (S0:S35 ks hs w nm f A R n o ug ch x (fun _=>false) st) {k:Exit->St->Prop}
  (hk:∀ L s',S35 ks hs w nm f A R n o ug ch x L s'->(∀ i,i<15->L i=true)->∃ st'',Sub GG 0 [] s' st''/\k .normal st''):RegVC Pr GG Tryz.f58.ntmps 0 [] 35 ops35 st k:=by
 refine⟨fun r=>zmw pok.mixed (ziz qah) (S35 ks hs w nm f A R n o ug ch x) S0 ?_ ?_⟩
 ·intro L s i op hS hL ho hall
  have hi:i<15:=(Array.getElem?_eq_some_iff.1 ho).1
  have v:=hS.v
  have T162:=pok.tab.get (t:=162) rfl
  have T67:=pok.tab.get (t:=67) rfl
  have T160:=pok.tab.get (t:=160) rfl
  have T42:=pok.tab.get (t:=42) rfl
  have T3:=pok.tab.get (t:=3) rfl
  have cases15:i=0\/i=1\/i=2\/i=3\/i=4\/i=5\/i=6\/i=7\/i=8\/i=9\/i=10\/i=11\/i=12\/i=13\/i=14:=qad
  rcases cases15 with rfl|rfl|rfl|rfl|rfl|rfl|rfl|rfl|rfl|rfl|rfl|rfl|rfl|rfl|rfl
  all_goals
   have ho:=Option.some.inj (show some _=some op from ho)
   subst ho
   refine⟨rfl,?_⟩
  ·exact zal (fun c h=>by cases h) (zbl rfl (hS.kp _ _ k16)) rfl (zcp hks hS (i:=0) qag qag rfl)
  ·have q:=v 0 qag (hall ⟨0,.data⟩ (Array.mem_of_getElem? (i:=0) rfl) rfl)
   exact zal (fun c h=>by cases h) (ze6 rfl q) rfl (zcp hks hS (i:=1) qag qag rfl)
  ·have q:=v 1 qag (hall ⟨1,.data⟩ (Array.mem_of_getElem? (i:=0) rfl) rfl)
   exact zal (fun c h=>by cases h) (ze0 rfl (T162.fld rfl rfl) q) rfl (zcp hks hS (i:=2) qag qag rfl)
  ·have q:=v 2 qag (hall ⟨2,.data⟩ (Array.mem_of_getElem? (i:=0) rfl) rfl)
   cases h9:L 9 with
   | false=>exact zal (fun c h=>by cases h) (zcj rfl T160.tok (fun _=>rfl) q (hS.h0 h9).1 rfl rfl rfl) rfl (zcp hks hS (i:=3) qag qag rfl)
   | true=>exact zal (fun c h=>by cases h) (zcj rfl T160.tok (fun _=>rfl) q (hS.h1 h9).1 rfl rfl rfl) rfl (zcp hks hS (i:=3) qag qag rfl)
  ·exact zal (fun c h=>by cases h) (ze0 rfl (T67.fld rfl rfl) (hS.kp _ _ k20)) rfl (zcp hks hS (i:=4) qag qag rfl)
  ·have q:=v 4 qag (hall ⟨4,.data⟩ (Array.mem_of_getElem? (i:=0) rfl) rfl)
   exact zal (fun c h=>by cases h) (zcj rfl T42.tok (fun _=>rfl) q (hS.ho _ _ h5) rfl rfl rfl) rfl (zcp hks hS (i:=5) qag qag rfl)
  ·have q:=v 5 qag (hall ⟨5,.data⟩ (Array.mem_of_getElem? (i:=0) rfl) rfl)
   exact zal (fun c h=>by cases h) (ze7 (ki:=.i64) (i:=0) rfl ⟨T42.2,T3.1⟩ q rfl qag rfl rfl) rfl (zcp hks hS (i:=6) qag qag rfl)
  ·have q:=v 6 qag (hall ⟨6,.data⟩ (Array.mem_of_getElem? (i:=0) rfl) rfl)
   exact zal (fun c h=>by cases h) (zf8 rfl T3.tok (fun _=>rfl) q rfl rfl) rfl (zcp hks hS (i:=7) qag qag rfl)
  ·exact zal (fun c h=>by cases h) (zbl rfl (hS.kp _ _ k21)) rfl (zcp hks hS (i:=8) qag qag rfl)
  ·have q3:=v 3 qag (hall ⟨3,.data⟩ (Array.mem_of_getElem? (i:=0) rfl) rfl)
   have q7:=v 7 qag (hall ⟨7,.data⟩ (Array.mem_of_getElem? (i:=1) rfl) rfl)
   have q8:=v 8 qag (hall ⟨8,.data⟩ (Array.mem_of_getElem? (i:=2) rfl) rfl)
   obtain⟨e2,e3,enx⟩:=hS.h0 hL
   have hc:=ze4 hW (nx:=s.nx) (H:=s.heap) qad e2 e3 (k:=fun v H' nx'=>S35 ks hs w nm f A R n o ug ch x (fun j=>if j=9 then true else L j) (({ env:=s.env,heap:=H',nx:=nx' }:St).put (some 139) v)) ?_
   ·obtain⟨hf,hc⟩:=hc
    refine zaw (f:=f) (fi:=[.ptr 2 3 0 0]) (ca:=[]) (l:=wA n o) rfl ?_ hf ?_ rfl hc
    ·show fnOf (lk s.env 133)=_
     rw[show lk s.env 133=_ from q3];rfl
    ·show [AV.ptr 2 3 0 0]++[lk s.env 137,lk s.env 138]++[]=_
     rw[show lk s.env 137=_ from q7,show lk s.env 138=_ from q8];rfl
   ·refine⟨fun t v hm=>?_,fun m bl hm=>?_,fun hl=>(by simp at hl),fun _=>⟨rfl,?_,rfl⟩,fun j hj hl=>?_⟩
    ·have:=hks _ hm
     exact(zan _ _ (by dsimp only at *;omega)).trans (hS.kp t v hm)
    ·obtain⟨a1,a2,a3⟩:=hhs _ hm
     have:=hS.ho m bl hm
     dsimp only at a1 a2 a3
     show AHeap.get ((2,_)::(nm,_)::AHeap.del s.heap 3) m=_
     rw[zad _ _ a1,zad _ _ (by rcases hnm with e|e<;>omega),za8,if_neg a2]
     exact this
    ·show AHeap.get ((2,_)::(nm,_)::AHeap.del s.heap 3) nm=_
     rw[zad _ _ (by rcases hnm with e|e<;>omega),zaf]
    ·by_cases e:j=9
     ·subst e;exact zar _ _ _
     ·simp only[if_neg e]at hl
      exact(zan _ _ (fun q=>e (dst_inj hj qag (show zi0 j=zi0 9 from q)))).trans (hS.v j hj hl)
  ·have q:=v 9 qag (hall ⟨9,.data⟩ (Array.mem_of_getElem? (i:=0) rfl) rfl)
   exact zal (fun c h=>by cases h) (zbl rfl q) rfl (zcp hks hS (i:=10) qag qag rfl)
  ·have q:=v 10 qag (hall ⟨10,.data⟩ (Array.mem_of_getElem? (i:=0) rfl) rfl)
   exact zal (fun c h=>by cases h) (ze1 rfl q rfl) rfl (zcp hks hS (i:=11) qag qag rfl)
  ·have q:=v 10 qag (hall ⟨10,.data⟩ (Array.mem_of_getElem? (i:=0) rfl) rfl)
   exact zal (fun c h=>by cases h) (ze1 rfl q rfl) rfl (zcp hks hS (i:=12) qag qag rfl)
  ·have q:=v 11 qag (hall ⟨11,.data⟩ (Array.mem_of_getElem? (i:=0) rfl) rfl)
   exact zal (fun c h=>by cases h) (zde rfl q) rfl (zcp hks hS (i:=13) qag qag rfl)
  ·have q:=v 12 qag (hall ⟨12,.data⟩ (Array.mem_of_getElem? (i:=0) rfl) rfl)
   exact zal (fun c h=>by cases h) (zde rfl q) rfl (zcp hks hS (i:=14) qag qag rfl)
 ·intro L s hS hall
  exact⟨rfl,hk L s hS fun i hi=>hall i hi⟩
end Go.Tz
namespace Go.Tz
open Go Go.AL Go.Proofs Go.Ma
theorem zp0{α:Type}{f:α->Prop}:∀{l:List α},(∀ a,a∈l->f a)->AllP f l
 | [],_=>trivial
 | _::_,h=>⟨h _ qc3,zp0 fun a ha=>h a (by simp[ha])⟩
variable{w nm:Nat}{f:FuncId}{A R:List Ps}{n o:Nat}{ug:Bool}{ch x:Int}
theorem znn{ops:Array Oper}(hops:ops=ops35)(ks:List (Nat×AV))(hs:List (Nat×Blk))(hks:AllP (fun p=>(p.1<22\/(80<=p.1/\p.1<90))/\p.2.bel 13=true) ks)(k16:(16,AV.ptr 2 3 0 0)∈ks)(k20:(20,AV.ptr 5 4 0 0)∈ks)(k21:(21,AV.d (iD o))∈ks){c0 c2 c3:AV}(h5:(5,Blk.arr 4 [[c0,.d (intsD [(n:Int)] ug),c2,c3]])∈hs)
  (hhs:AllP (fun p=>(p.1≠2/\p.1≠3/\p.1<6)/\p.2.Below 13) hs) (hW:WC f (wA n o) w f A (rV ch x) nm R) (hnm:nm=3\/nm=12) {e:List (Nat×AV)} {H:AHeap} {nx:Nat} (he:AllP (fun p=>lk e p.1=p.2) ks) (hH:AllP (fun p=>H.get p.1=some p.2) hs)
  (h2:H.get 2=some (wkF w 3 f)) (h3:H.get 3=some (dblk 4 (A.map Ps.l))) (hnx:nx=6) {k:Exit->St->Prop}
  (hk:k .normal ⟨(22,.d (iD ch))::(23,.d (iD x))::ks,(2,some (wkF w nm f))::(nm,some (dblk 4 (R.map Ps.l)))::hs.map (fun p=>(p.1,some p.2)),13⟩):RegVC Pr GG Tryz.f58.ntmps 0 [] 35 ops ⟨e,H,nx⟩ k:=by
 subst hops
 refine reg35 (ks:=ks) (hs:=hs) (fun p hp=>(AllP.mem hks p hp).1) k16 k20 k21 h5 (fun p hp=>(AllP.mem hhs p hp).1) hW hnm ⟨fun t v hm=>AllP.mem he _ hm,fun m bl hm=>AllP.mem hH _ hm,fun _=>⟨h2,h3,hnx⟩,fun h=>qed,fun j _ h=>qed⟩ ?_
 intro L s' hS hL
 obtain⟨g2,g3,_⟩:=hS.h1 (hL 9 qag)
 refine⟨_,zac (Nat.zero_le _) ?_ ?_ trivial,hk⟩
 ·refine⟨⟨hS.v 13 qag (hL 13 qag),rfl⟩,⟨hS.v 14 qag (hL 14 qag),rfl⟩,zp0 fun p hp=>⟨hS.kp _ _ hp,(AllP.mem hks p hp).2⟩⟩
 ·refine⟨⟨by show 2<13;omega,_,rfl,g2,?_⟩,⟨by show nm<13;omega,_,rfl,g3,zaa _ _ _⟩,zp0 fun p hp=>?_⟩
  ·rcases hnm with rfl|rfl<;>exact zae rfl
  ·obtain⟨q,hq,rfl⟩:=List.mem_map.1 hp
   have:=(AllP.mem hhs q hq)
   exact⟨by show q.1<13;omega,_,rfl,hS.ho _ _ hq,this.2⟩
end Go.Tz
