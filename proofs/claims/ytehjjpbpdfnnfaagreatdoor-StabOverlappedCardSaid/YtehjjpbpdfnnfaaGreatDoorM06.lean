import Derived.Test.YtehjjpbpdfnnfaaGreatDoorM05
namespace Go.Tz
open Go Go.AL Go.Ma
theorem lead_eq {w:Nat} (hw:w<=12) {q:Ps} (h:Vl w q) {d:Nat} (hd:d<2*w) (h1:cb (vec q) d=true) (h2:∀ e,e<d->cb (vec q) e=false):leadI q=d:=by
 have key:∀ f k,k+f=2*w->k<=d->leadF q f k=d:=by
  intro f
  induction f with
  | zero=>intro k e1 e2;omega
  | succ f ih =>
   intro k e1 e2
   simp only [leadF]
   rw [bitB_cb hw (by omega) h]
   by_cases e:k=d
   ·subst e;rw [if_pos h1]
   ·rw [h2 k (by omega),if_neg (by simp)];exact ih (k+1) (by omega) (by omega)
 unfold leadI
 rw [vl_w h,Int.toNat_natCast]
 exact key _ _ (by omega) (by omega)
theorem rows_at (l:List Ps) {c i:Nat} (hi:i<l.length):(redRows l c).getD i Ps.z0=(redN l c).1 i:=by
 unfold redRows
 simp [List.getD_eq_getElem?_getD,hi]
theorem sb_inv {w:Nat} (hw:w<=12) {l:List Ps} (hv:∀ q,q∈l->Vl w q) {p:Ps} (hp:Vl w p) {pc:Nat->Nat} (h1:RR l.length (2*w) (redN l (2*w)).2.2 (rfv l (2*w)) pc) (h2:Piv l.length (rfv l (2*w)) (fun i=>pos (pc i)) fun i=>decide (i<(redN l (2*w)).2.2)) :
  ∀ i,i<=l.length->Vl w (sbSt (redRows l (2*w)) (redN l (2*w)).2.1 p i).1/\vec (sbSt (redRows l (2*w)) (redN l (2*w)).2.1 p i).1=slv (rfv l (2*w)) (fun i=>pos (pc i)) (fun i=>decide (i<(redN l (2*w)).2.2)) (vec p) i ∧
   vec (sbSt (redRows l (2*w)) (redN l (2*w)).2.1 p i).1=vec p^^^xr (rfv l 0) (sbSt (redRows l (2*w)) (redN l (2*w)).2.1 p i).2 l.length
 | 0,_=>⟨hp,rfl,by show vec p=vec p^^^xr (rfv l 0) (fun _=>false) l.length;rw [xr_none fun _ _=>rfl,Nat.xor_zero]⟩
 | i+1,hi=>by
  obtain ⟨g1,g2,g3⟩:=sb_inv hw hv hp h1 h2 i (by omega)
  have hqv:=(red_vl hw hv (2*w)).1 i (by omega)
  have hsum:=redN_sum hw hv (Nat.le_refl (2*w)) i (by omega)
  simp only [sbSt,sbStep,rows_at l (show i<l.length by omega),slv]
  have hr:rfv l (2*w) i=vec ((redN l (2*w)).1 i):=rfl
  by_cases ha:i<(redN l (2*w)).2.2
  ·have hld:leadI ((redN l (2*w)).1 i)=pc i:=lead_eq hw hqv (h1.lt i ha) (h1.own i ha) (fun e he=>h1.lead i e ha he)
   have hb:bitB (sbSt (redRows l (2*w)) (redN l (2*w)).2.1 p i).1 (leadI ((redN l (2*w)).1 i))=(slv (rfv l (2*w)) (fun i=>pos (pc i)) (fun i=>decide (i<(redN l (2*w)).2.2)) (vec p) i).testBit (pos (pc i)):=by
    rw [hld,bitB_cb hw (h1.lt i ha) g1,g2];rfl
   by_cases e:(slv (rfv l (2*w)) (fun i=>pos (pc i)) (fun i=>decide (i<(redN l (2*w)).2.2)) (vec p) i).testBit (pos (pc i))=true
   ·rw [if_pos (show 0<=leadI ((redN l (2*w)).1 i)/\bitB (sbSt (redRows l (2*w)) (redN l (2*w)).2.1 p i).1 (leadI ((redN l (2*w)).1 i))=true from ⟨by rw [hld];omega,hb.trans e⟩)]
    rw [if_pos (show (decide (i<(redN l (2*w)).2.2)&&(slv (rfv l (2*w)) (fun i=>pos (pc i)) (fun i=>decide (i<(redN l (2*w)).2.2)) (vec p) i).testBit (pos (pc i)))=true by rw [decide_eq_true ha,e];rfl)]
    refine ⟨mul_vl hw g1 hqv,?_,?_⟩
    ·rw [vec_mul hw g1 hqv,g2];rfl
    ·rw [vec_mul hw g1 hqv,g3,xr_xor,Nat.xor_assoc,<- hsum];rfl
   ·rw [if_neg (show ¬ (0<=leadI ((redN l (2*w)).1 i)/\bitB (sbSt (redRows l (2*w)) (redN l (2*w)).2.1 p i).1 (leadI ((redN l (2*w)).1 i))=true) from fun h=>e (hb.symm.trans h.2))]
    rw [if_neg (show ¬ (decide (i<(redN l (2*w)).2.2)&&(slv (rfv l (2*w)) (fun i=>pos (pc i)) (fun i=>decide (i<(redN l (2*w)).2.2)) (vec p) i).testBit (pos (pc i)))=true from fun h=>e (Bool.and_eq_true_iff.1 h).2)]
    exact ⟨g1,g2,g3⟩
  ·have hz:vec ((redN l (2*w)).1 i)=0:=h2.zero i (by omega) (by simpa using ha)
   have hn:¬ 0<=leadI ((redN l (2*w)).1 i):=fun h=>(lead_nz hw hqv).1 h hz
   rw [if_neg (show ¬ (0<=leadI ((redN l (2*w)).1 i)/\bitB (sbSt (redRows l (2*w)) (redN l (2*w)).2.1 p i).1 (leadI ((redN l (2*w)).1 i))=true) from fun h=>hn h.1)]
   rw [if_neg (show ¬ (decide (i<(redN l (2*w)).2.2)&&(slv (rfv l (2*w)) (fun i=>pos (pc i)) (fun i=>decide (i<(redN l (2*w)).2.2)) (vec p) i).testBit (pos (pc i)))=true from fun h=>ha (by simpa using (Bool.and_eq_true_iff.1 h).1))]
   exact ⟨g1,g2,g3⟩
theorem vec_z {w:Nat} {q:Ps} (h:Vl w q):(q.x≠0\/q.z≠0) ↔ vec q≠0:=by
 obtain ⟨X,Z,P,rfl,h1,h2,h3⟩:=h
 unfold vec
 rw [nf_mk]
 show ((X:Int)≠0\/(Z:Int)≠0) ↔ X+4096*Z≠0
 omega
theorem vl_one (w:Nat):Vl w ⟨w,0,0,0⟩:=⟨0,0,0,rfl,Nat.two_pow_pos w,Nat.two_pow_pos w,by decide⟩
theorem nf_one (w:Nat):nf ⟨w,0,0,0⟩=e1:=by
 show nf (mk w 0 0 0)=e1
 rw [nf_mk];decide
theorem span_l {l:List Ps} {v:Nat}:spB (revl (rfv l 0) l.length) v=spB ((l.map nf).map (·.2)) v:=by
 rw [revl_rfv0]
 have e:l.map vec=(l.map nf).map (·.2):=by rw [List.map_map];rfl
 rw [e]
 exact sp_ext (fun a ha=>sp_mem _ _ (List.mem_reverse.1 ha)) (fun a ha=>sp_mem _ _ (List.mem_reverse.2 ha)) v
theorem rfv_0 (l:List Ps) {i:Nat} (hi:i<l.length):rfv l 0 i=vec l[i]:=by
 unfold rfv
 simp only [redN,List.getD_eq_getElem?_getD,List.getElem?_eq_getElem hi,Option.getD_some]
theorem prod_tk {w:Nat} (hw:w<=12) {l:List Ps} (hv:∀ q,q∈l->Vl w q) (hG:Good (l.map nf)) (f:Nat->Bool):∀ i,i<=l.length->Vl w (prodS w ((tkL f i).map fun n=>l.getD n Ps.z0))/\Gen (l.map nf) (nf (prodS w ((tkL f i).map fun n=>l.getD n Ps.z0)))/\vec (prodS w ((tkL f i).map fun n=>l.getD n Ps.z0))=xr (rfv l 0) f i
 | 0,_=>⟨vl_one w,by show Gen _ (nf ⟨w,0,0,0⟩);rw [nf_one];exact .one,rfl⟩
 | i+1,hi=>by
  obtain ⟨g1,g2,g3⟩:=prod_tk hw hv hG f i (by omega)
  rw [tkL_snoc]
  simp only [xr]
  by_cases e:f i=true
  ·rw [if_pos e,if_pos e,List.map_append,List.map_singleton,prodS_snoc]
   have hq:l.getD i Ps.z0=l[i]:=by rw [List.getD_eq_getElem?_getD,List.getElem?_eq_getElem (show i<l.length by omega)];rfl
   rw [hq]
   have hm:=List.getElem_mem (show i<l.length by omega)
   refine ⟨mul_vl hw g1 (hv _ hm),?_,?_⟩
   ·rw [nf_mul hw g1 (hv _ hm)];exact gen_mul' hG g2 (gen_mem' hG (List.mem_map.2 ⟨_,hm,rfl⟩))
   ·rw [vec_mul hw g1 (hv _ hm),g3,rfv_0 l (by omega)]
  ·rw [if_neg e,if_neg e];exact ⟨g1,g2,g3⟩
theorem p_eq {w:Nat} (hw:w<=12) {q r:Ps} (hq:Vl w q) (hr:Vl w r) (hv:vec q=vec r):q.p=r.p ↔ nf q=nf r:=by
 obtain ⟨X,Z,P,rfl,h1,h2,h3⟩:=hq
 obtain ⟨X',Z',P',rfl,h4,h5,h6⟩:=hr
 unfold vec at hv
 rw [nf_mk,nf_mk] at hv ⊢
 dsimp only at hv
 have hp:(2:Nat)^w<=2^12:=Nat.pow_le_pow_right (by decide) hw
 have e1:X=X':=by omega
 have e2:Z=Z':=by omega
 subst e1 e2
 show (P:Int)=(P':Int) ↔ _
 constructor
 ·intro h
  have:P=P':=by omega
  rw [this]
 ·intro h
  have:=congrArg Prod.fst h
  dsimp only at this
  omega
structure ExpOk (L:List E) (g:E) (e:Int):Prop where
 pos:Gen L g->e=1
 neg:Gen L (eneg g)->e = -1
 zero:¬ Gen L g->¬ Gen L (eneg g)->e=0
theorem expOk_uniq {L M:List E} (h:SameG L M) {g:E} {e e':Int} (h1:ExpOk L g e) (h2:ExpOk M g e'):e=e':=by
 by_cases a:Gen L g
 ·rw [h1.pos a,h2.pos ((h g).1 a)]
 ·by_cases b:Gen L (eneg g)
  ·rw [h1.neg b,h2.neg ((h _).1 b)]
  ·rw [h1.zero a b,h2.zero (fun c=>a ((h g).2 c)) (fun c=>b ((h _).2 c))]
theorem expR_ok {w:Nat} {l:List Ps} (h:SOk w l) {p:Ps} (hp:Vl w p) (hk:eok (nf p)):ExpOk (l.map nf) (nf p) (expR w l p):=by
 have hst:=sok_sta h
 obtain ⟨pc,r1,r2⟩:=rfv_piv h.hi h.vl
 obtain ⟨g1,g2,g3⟩:=sb_inv h.hi h.vl hp r1 r2 l.length (Nat.le_refl _)
 have hz:=slv_zero r2 (vec p)
 rw [<- g2,rfv_span h.hi h.vl _ (Nat.le_refl _),span_l] at hz
 have hx:=vec_z g1
 unfold expR phR tkP
 have hsv:sbL w l p=sbSt (redRows l (2*w)) (redN l (2*w)).2.1 p l.length:=rfl
 rw [hsv]
 generalize sbSt (redRows l (2*w)) (redN l (2*w)).2.1 p l.length=s at g1 g2 g3 hz hx ⊢
 by_cases e:vec s.1=0
 ·rw [if_neg (fun q=>hx.1 q e)]
  rw [e] at g3
  have hxr:xr (rfv l 0) s.2 l.length=vec p:=by
   have:=congrArg (· ^^^ xr (rfv l 0) s.2 l.length) g3
   simpa only [xor_cancel,Nat.zero_xor] using this
  obtain ⟨k1,k2,k3⟩:=prod_tk h.hi h.vl hst.good s.2 l.length (Nat.le_refl _)
  rw [hxr] at k3
  generalize prodS w ((tkL s.2 l.length).map fun n=>l.getD n Ps.z0)=g at k1 k2 k3 ⊢
  have hpe:=p_eq h.hi hp k1 k3.symm
  have hph:(isub .i64 (iadd .i64 4 p.p) g.p).tmod 4=0 ↔ p.p=g.p:=by
   obtain ⟨X,Z,P,rfl,_,_,a3⟩:=hp
   obtain ⟨X',Z',P',rfl,_,_,b3⟩:=k1
   show (isub .i64 (iadd .i64 4 (P:Int)) (P':Int)).tmod 4=0 ↔ (P:Int)=P'
   have e1:iadd .i64 4 (P:Int)=((4+P:Nat):Int):=iadd_nat (a:=4) (by omega)
   rw [e1,isub_nat (by omega) (by omega)]
   have e2:(((4+P-P':Nat):Int)).tmod 4=(((4+P-P') % 4:Nat):Int):=rfl
   rw [e2]
   omega
  refine ⟨fun q=>?_,fun q=>?_,fun a b=>?_⟩
  ·rw [if_pos (hph.2 (hpe.2 (gen_uniq hst.good hst.ind q k2 k3.symm)))]
  ·rw [if_neg fun c=>?_]
   have e1:=hpe.1 (hph.1 c)
   have e2:=gen_uniq hst.good hst.ind q k2 k3.symm
   rw [<- e1] at e2
   exact eneg_ne hk.1 e2
  ·exfalso
   rcases e_or_neg hk (gen_ok hst.good k2) k3.symm with q|q
   ·rw [q] at a;exact a k2
   ·rw [q,eneg_neg (gen_ok hst.good k2).1] at b;exact b k2
 ·rw [if_pos (hx.2 e)]
  refine ⟨fun q=>absurd (hz.2 (gen_span q)) e,fun q=>absurd (hz.2 (gen_span (g:=eneg (nf p)) q)) e,fun _ _=>rfl⟩
end Go.Tz
namespace Go.Tz
open Go Go.AL Go.Ma
theorem redF_sum (l:List Ps):∀ m,m<=l.length->∀ j,j<l.length->(redW (rowN l) m j).1=xr (rfv l 0) (fun q=>(redW (rowN l) m j).2.testBit q) l.length
 | 0,_,j,hj=>by
  have h0:redW (rowN l) 0 j=(vec l[j],2^j):=by
   show (rowN l).getD j (0,0)=_
   rw [List.getD_eq_getElem?_getD,List.getElem?_eq_getElem (by rw [rowN_len];exact hj)]
   simp [rowN,vec]
  rw [h0]
  dsimp only
  rw [xr_congrm (m':=fun q=>q==j) fun q _=>by rw [Nat.testBit_two_pow,Bool.eq_iff_iff];simp;exact eq_comm,xr_one hj,rfv_0 l hj]
 | m+1,hm,j,hj=>by
  have ih:=redF_sum l m (by omega)
  simp only [redW]
  by_cases e:(redW (rowN l) m m).1≠0
  ·rw [if_pos e]
   unfold clrW
   by_cases c:j<(rowN l).length/\j≠m/\(redW (rowN l) m j).1.testBit (lowN (redW (rowN l) m m).1)=true
   ·rw [if_pos c]
    dsimp only
    rw [ih j hj,ih m (by omega),<- xr_xor]
    exact xr_congrm fun q _=>by rw [Nat.testBit_xor]
   ·rw [if_neg c];exact ih j hj
  ·rw [if_neg e];exact ih j hj
theorem oth_bit (r:Rn) (j:Nat):∀ l:List Rn,(oth r l).testBit j=l.any fun x=>decide (x≠r)&&x.1.testBit j:=by
 have key:∀ (l:List Rn) (o:Nat),(l.foldl (fun o x=>if x=r then o else o ||| x.1) o).testBit j=(o.testBit j||l.any fun x=>decide (x≠r)&&x.1.testBit j):=by
  intro l
  induction l with
  | nil=>intro o;simp
  | cons x l ih =>
   intro o
   rw [List.foldl_cons,ih,List.any_cons]
   by_cases e:x=r
   ·rw [if_pos e];simp [e]
   ·rw [if_neg e,Nat.testBit_or];simp [e,Bool.or_assoc]
 intro l
 unfold oth
 rw [key,Nat.zero_testBit,Bool.false_or]
theorem lf_all {l:List Ps} (h:gnW (redF l) l.length=[]):lfW (redF l) l.length=(List.range l.length).map (redF l):=by
 unfold gnW at h
 unfold lfW
 rw [List.filter_eq_self]
 intro r hr
 rw [List.filter_eq_nil_iff] at h
 have:=h r hr
 simpa using this
theorem own_piv {w:Nat} {l:List Ps} (h:SOk w l):Piv l.length (rwv l l.length) (fun i=>ownN (lfW (redF l) l.length) (redF l i)) fun _=>true:=by
 have hg:gnW (redF l) l.length=[]:=List.length_eq_zero_iff.1 ((ind_iff h.hi h.vl (by have:=h.len;have:=h.hi;omega)).2 h.rank)
 have hn:l.length<=24:=by have:=h.len;have:=h.hi;omega
 obtain ⟨p,hp⟩:=rwv_Piv h.hi h.vl hn
 have hall:=lf_all hg
 have hlt:=redW_lt (rowN_lt h.hi h.vl hn) l.length
 have hnz:∀ i,i<l.length->rwv l l.length i≠0:=fun i hi e=>by
  unfold gnW at hg
  rw [List.filter_eq_nil_iff] at hg
  have:=hg (redF l i) (List.mem_map.2 ⟨i,List.mem_range.2 hi,rfl⟩)
  simp at this
  exact this e
 have hbit:∀ i,i<l.length->(andn (redF l i).1 (oth (redF l i) (lfW (redF l) l.length))).testBit (ownN (lfW (redF l) l.length) (redF l i))=true:=by
  intro i hi
  have h0:andn (redF l i).1 (oth (redF l i) (lfW (redF l) l.length))≠0:=fun e=>by
   have h1:(andn (redF l i).1 (oth (redF l i) (lfW (redF l) l.length))).testBit (p i)=true:=by
    rw [andn_bit,oth_bit]
    have a1:(redF l i).1.testBit (p i)=true:=hp.own i hi (by simpa using hnz i hi)
    rw [a1,Bool.true_and,Bool.not_eq_true',List.any_eq_false]
    intro x hx
    rw [hall] at hx
    obtain ⟨j,hj,rfl⟩:=List.mem_map.1 hx
    have hj:=List.mem_range.1 hj
    by_cases q:j=i
    ·subst q;simp
    ·have:=hp.other j i hj hi q (by simpa using hnz i hi)
     have t:(redF l j).1.testBit (p i)=false:=this
     rw [t];simp
   rw [e,Nat.zero_testBit] at h1;cases h1
  unfold ownN tzN
  rw [if_neg h0]
  exact (low_spec h0 (andn_lt (hlt i).1)).2.1
 refine ⟨fun i hi _=>?_,fun i j hi hj hij _=>?_,fun i _ h=>by cases h⟩
 ·have:=hbit i hi
  rw [andn_bit] at this
  exact (Bool.and_eq_true_iff.1 this).1
 ·have:=hbit j hj
  rw [andn_bit] at this
  have h2:=(Bool.and_eq_true_iff.1 this).2
  rw [Bool.not_eq_true',oth_bit,List.any_eq_false] at h2
  have h3:=h2 (redF l i) (by rw [hall];exact List.mem_map.2 ⟨i,List.mem_range.2 hi,rfl⟩)
  have hne:redF l i≠redF l j:=fun e=>by
   have a1:(redF l j).1.testBit (p j)=true:=hp.own j hj (by simpa using hnz j hj)
   have a2:(redF l i).1.testBit (p j)=false:=hp.other i j hi hj hij (by simpa using hnz j hj)
   rw [e,a1] at a2;cases a2
  have:(redF l i).1.testBit (ownN (lfW (redF l) l.length) (redF l j))=false:=by simpa [hne] using h3
  exact this
theorem fnd_inv {w:Nat} {l:List Ps} (h:SOk w l) (v:Nat):∀ i,i<=l.length->(fndS (lfW (redF l) l.length) v i).1=slv (rwv l l.length) (fun i=>ownN (lfW (redF l) l.length) (redF l i)) (fun _=>true) v i ∧
  (fndS (lfW (redF l) l.length) v i).1=v^^^xr (rfv l 0) (fun q=>(fndS (lfW (redF l) l.length) v i).2.testBit q) l.length
 | 0,_=>⟨rfl,by show v=v^^^xr (rfv l 0) (fun q=>(0:Nat).testBit q) l.length;rw [xr_none fun _ _=>Nat.zero_testBit _,Nat.xor_zero]⟩
 | i+1,hi=>by
  have hg:gnW (redF l) l.length=[]:=List.length_eq_zero_iff.1 ((ind_iff h.hi h.vl (by have:=h.len;have:=h.hi;omega)).2 h.rank)
  have hall:=lf_all hg
  obtain ⟨g1,g2⟩:=fnd_inv h v i (by omega)
  have hs:=redF_sum l l.length (Nat.le_refl _) i (by omega)
  have hil:i<(lfW (redF l) l.length).length:=by rw [hall];simp;omega
  have hgi:(lfW (redF l) l.length)[i]=redF l i:=by simp [hall]
  rw [fnd_snoc hil,hgi]
  simp only [slv,fstp,Bool.true_and]
  rw [g1] at g2 ⊢
  by_cases e:(slv (rwv l l.length) (fun i=>ownN (lfW (redF l) l.length) (redF l i)) (fun _=>true) v i).testBit (ownN (lfW (redF l) l.length) (redF l i))=true
  ·rw [if_pos e,if_pos e]
   refine ⟨rfl,?_⟩
   dsimp only
   rw [xr_congrm (m':=fun q=>(fndS (lfW (redF l) l.length) v i).2.testBit q != (redF l i).2.testBit q) fun q _=>by rw [Nat.testBit_xor],xr_xor,<- Nat.xor_assoc,<- g2]
   congr 1
  ·rw [if_neg e,if_neg e]
   exact ⟨g1,by rw [g1];exact g2⟩
theorem all_tk {w:Nat} (hw:w<=12) {l:List Ps} (hv:∀ q,q∈l->Vl w q) (hG:Good (l.map nf)) (m:Nat):∀ i,i<=l.length->Vl w (allS w l m i)/\Gen (l.map nf) (nf (allS w l m i))/\vec (allS w l m i)=xr (rfv l 0) (fun q=>m.testBit q) i
 | 0,_=>⟨vl_one w,by show Gen _ (nf ⟨w,0,0,0⟩);rw [nf_one];exact .one,rfl⟩
 | i+1,hi=>by
  obtain ⟨g1,g2,g3⟩:=all_tk hw hv hG m i (by omega)
  simp only [xr,allS]
  by_cases e:m.testBit i=true
  ·rw [if_pos e,if_pos e]
   have hq:l.getD i Ps.z0=l[i]:=by rw [List.getD_eq_getElem?_getD,List.getElem?_eq_getElem (show i<l.length by omega)];rfl
   have hm:=List.getElem_mem (show i<l.length by omega)
   rw [hq,tim_mul hw g1 (hv _ hm)]
   refine ⟨mul_vl hw g1 (hv _ hm),?_,?_⟩
   ·rw [nf_mul hw g1 (hv _ hm)];exact gen_mul' hG g2 (gen_mem' hG (List.mem_map.2 ⟨_,hm,rfl⟩))
   ·rw [vec_mul hw g1 (hv _ hm),g3,rfv_0 l (by omega)]
  ·rw [if_neg e,if_neg e];exact ⟨g1,g2,g3⟩
theorem expP_ok {w:Nat} {l:List Ps} (h:SOk w l) {p:Ps} (hp:Vl w p) (hk:eok (nf p)):ExpOk (l.map nf) (nf p) (expP l p):=by
 have hst:=sok_sta h
 have hn:l.length<=24:=by have:=h.len;have:=h.hi;omega
 have hg:gnW (redF l) l.length=[]:=List.length_eq_zero_iff.1 ((ind_iff h.hi h.vl hn).2 h.rank)
 have hll:(lfW (redF l) l.length).length=l.length:=by rw [lf_all hg];simp
 obtain ⟨g2,g3⟩:=fnd_inv h (nf p).2 l.length (Nat.le_refl _)
 have hz:=slv_zero (own_piv h) (nf p).2
 rw [<- g2,rwv_span h.hi h.vl hn _ (Nat.le_refl _),span_l] at hz
 unfold expP
 rw [hll,vl_w hp]
 generalize fndS (lfW (redF l) l.length) (nf p).2 l.length=s at g2 g3 hz ⊢
 by_cases e:s.1=0
 ·rw [if_pos e]
  rw [e] at g3
  have hxr:xr (rfv l 0) (fun q=>s.2.testBit q) l.length=(nf p).2:=by
   have:=congrArg (· ^^^ xr (rfv l 0) (fun q=>s.2.testBit q) l.length) g3
   simpa only [xor_cancel,Nat.zero_xor] using this
  obtain ⟨k1,k2,k3⟩:=all_tk h.hi h.vl hst.good s.2 l.length (Nat.le_refl _)
  have hxr:xr (rfv l 0) (fun q=>s.2.testBit q) l.length=vec p:=hxr
  rw [hxr] at k3
  generalize allS w l s.2 l.length=g at k1 k2 k3 ⊢
  have hpe:=p_eq h.hi hp k1 k3.symm
  have hkp:=(eok_nf h.hi hp).1 hk
  have hkg:=(eok_nf h.hi k1).1 (gen_ok hst.good k2)
  have hph:(p.p=g.p->isub .i64 1 ((iadd .i64 (isub .i64 p.p g.p) 4).tmod 4)=1)/\(p.p≠g.p->isub .i64 1 ((iadd .i64 (isub .i64 p.p g.p) 4).tmod 4) = -1):=by
   obtain ⟨X,Z,P,rfl,_,_,a3⟩:=hp
   obtain ⟨X',Z',P',rfl,_,_,b3⟩:=k1
   have c1:P=0\/P=1\/P=2\/P=3:=by omega
   have c2:P'=0\/P'=1\/P'=2\/P'=3:=by omega
   have d1:((P:Int)).tmod 2=0:=hkp
   have d2:((P':Int)).tmod 2=0:=hkg
   show ((P:Int)=P'->isub .i64 1 ((iadd .i64 (isub .i64 (P:Int) (P':Int)) 4).tmod 4)=1)/\((P:Int)≠P'->isub .i64 1 ((iadd .i64 (isub .i64 (P:Int) (P':Int)) 4).tmod 4) = -1)
   clear hpe k3 k2 hxr g3
   rcases c1 with rfl|rfl|rfl|rfl <;> rcases c2 with rfl|rfl|rfl|rfl <;> revert d1 d2 <;> decide
  refine ⟨fun q=>hph.1 (hpe.2 (gen_uniq hst.good hst.ind q k2 k3.symm)),fun q=>hph.2 fun c=>?_,fun a b=>?_⟩
  ·have e1:=hpe.1 c
   have e2:=gen_uniq hst.good hst.ind q k2 k3.symm
   rw [<- e1] at e2
   exact eneg_ne hk.1 e2
  ·exfalso
   rcases e_or_neg hk (gen_ok hst.good k2) k3.symm with q|q
   ·rw [q] at a;exact a k2
   ·rw [q,eneg_neg (gen_ok hst.good k2).1] at b;exact b k2
 ·rw [if_neg e]
  exact ⟨fun q=>absurd (hz.2 (gen_span q)) e,fun q=>absurd (hz.2 (gen_span (g:=eneg (nf p)) q)) e,fun _ _=>rfl⟩
end Go.Tz
namespace Go.Tz
open Go Go.AL Go.Ma
open Classical in
theorem ovl_cons (L:List E) (p:E) (P:List E) (n:Int):ovlE L (p::P) n=if Gen L p then ovlE L P n else if Gen L (eneg p) then -1 else ovlE (proj p L) P (n+1):=rfl
open Classical in
theorem ov_run {w:Nat} (hw:w<=12) (P L:List E) (S:Nat->List E × Nat) (ex:Nat->Int) (hL:Sta w L) (hP:∀ p,p∈P->inV w p.2/\eok p) (h0:S 0=(L,0))
  (he:∀ k (h:k<P.length),Sta w (S k).1->ExpOk (S k).1 P[k] (ex k)) (h1:∀ k (_:k<P.length),ex k=1->S (k+1)=S k)
  (h2:∀ k (h:k<P.length),Sta w (S k).1->ex k=0->(∃ q,q∈(S k).1 /\ ¬ ecom q P[k])->S (k+1)=(proj P[k] (S k).1,(S k).2+1)) :
  (∀ k,k<=P.length->(∀ j,j<k->ex j ≠ -1)->Sta w (S k).1/\ovlE L P 0=ovlE (S k).1 (P.drop k) ((S k).2:Nat))/\ovlE L P 0=if (List.range P.length).any (fun k=>decide (ex k = -1)) then (-1:Int) else ((S P.length).2:Nat):=by
 have key:∀ k,k<=P.length->(∀ j,j<k->ex j ≠ -1)->Sta w (S k).1/\ovlE L P 0=ovlE (S k).1 (P.drop k) ((S k).2:Nat):=by
  intro k
  induction k with
  | zero=>intro _ _;rw [h0];exact ⟨hL,rfl⟩
  | succ k ih =>
   intro hk hj
   obtain ⟨a,b⟩:=ih (by omega) fun j h=>hj j (by omega)
   have hx:=he k hk a
   have hp:=hP P[k] (List.getElem_mem hk)
   rw [List.drop_eq_getElem_cons hk] at b
   rw [ovl_cons] at b
   by_cases c1:Gen (S k).1 P[k]
   ·rw [if_pos c1] at b
    rw [h1 k hk (hx.pos c1)]
    exact ⟨a,b⟩
   ·rw [if_neg c1] at b
    by_cases c2:Gen (S k).1 (eneg P[k])
    ·exact absurd (hx.neg c2) (hj k (by omega))
    ·rw [if_neg c2] at b
     rw [h2 k hk a (hx.zero c1 c2) (sta_anti hw a hp.1 hp.2 c1 c2)]
     refine ⟨proj_sta hw a hp.1 hp.2 c1 c2,?_⟩
     rw [b];rfl
 refine ⟨key,?_⟩
 by_cases hn:(List.range P.length).any (fun k=>decide (ex k = -1))=true
 ·rw [if_pos hn]
  obtain ⟨k,hk,he1⟩:=List.any_eq_true.1 hn
  have hk:=List.mem_range.1 hk
  have he1:ex k = -1:=by simpa using he1
  -- the first of them
  have hex:∃ k,k<P.length/\ex k = -1 /\ ∀ j,j<k->ex j ≠ -1:=by
   have:∀ m,(∃ k,k<m/\k<P.length/\ex k = -1)->∃ k,k<P.length/\ex k = -1 /\ ∀ j,j<k->ex j ≠ -1:=by
    intro m
    induction m with
    | zero=>rintro ⟨k,h,_⟩;omega
    | succ m ih =>
     rintro ⟨k,h,h2,h3⟩
     by_cases q:∃ k,k<m/\k<P.length/\ex k = -1
     ·exact ih q
     ·refine ⟨k,h2,h3,fun j hj e=>q ⟨j,by omega,by omega,e⟩⟩
   exact this (k+1) ⟨k,by omega,hk,he1⟩
  obtain ⟨k,hk,he1,hf⟩:=hex
  obtain ⟨a,b⟩:=key k (by omega) hf
  have hx:=he k hk a
  rw [List.drop_eq_getElem_cons hk] at b
  rw [ovl_cons] at b
  by_cases c1:Gen (S k).1 P[k]
  ·have:=hx.pos c1;omega
  ·by_cases c2:Gen (S k).1 (eneg P[k])
   ·rw [if_neg c1,if_pos c2] at b;exact b
   ·have:=hx.zero c1 c2;omega
 ·rw [if_neg hn]
  obtain ⟨a,b⟩:=key P.length (Nat.le_refl _) fun j hj e=>hn (List.any_eq_true.2 ⟨j,List.mem_range.2 hj,by simpa using e⟩)
  rw [b,List.drop_length];rfl
theorem comV_ecom {q r:Ps}:comV q r=true ↔ ecom (nf q) (nf r):=by
 unfold comV
 rw [cm_ecom]
 cases cm (nf q).2 (nf r).2 <;> simp
theorem prjL_vl {w:Nat} (hw:w<=12) {p:Ps} (hp:Vl w p):∀ {l:List Ps},(∀ q,q∈l->Vl w q)->∀ q,q∈prjL p l->Vl w q
 | [],_,q,hq=>by cases hq
 | a::l,hv,q,hq=>by
  unfold prjL at hq
  split at hq
  ·rcases List.mem_cons.1 hq with e|e
   ·subst e;exact hv _ (by simp)
   ·exact prjL_vl hw hp (fun q h=>hv q (List.mem_cons_of_mem _ h)) q e
  ·rcases List.mem_cons.1 hq with e|e
   ·subst e;exact hp
   ·obtain ⟨r,hr,rfl⟩:=List.mem_map.1 e
    have hr:=hv r (List.mem_cons_of_mem _ hr)
    split
    ·exact hr
    ·exact mul_vl hw (hv a (by simp)) hr
theorem prjL_nf {w:Nat} (hw:w<=12) {p:Ps}:∀ {l:List Ps},(∀ q,q∈l->Vl w q)->Good (l.map nf)->(prjL p l).map nf=proj (nf p) (l.map nf)
 | [],_,_=>rfl
 | a::l,hv,hG=>by
  have ih:=prjL_nf hw (p:=p) (l:=l) (fun q h=>hv q (List.mem_cons_of_mem _ h)) (good_tl hG)
  simp only [List.map_cons,prjL,proj]
  by_cases e:comV a p=true
  ·rw [if_pos e,if_pos (comV_ecom.1 e),List.map_cons,ih]
  ·rw [if_neg e,if_neg (fun h=>e (comV_ecom.2 h)),List.map_cons,projR,List.map_map,List.map_map]
   congr 1
   refine List.map_congr_left fun r hr=>?_
   show nf (if comV r p=true then r else mulS a r)=if ecom (nf r) (nf p) then nf r else emul (nf r) (nf a)
   by_cases c:comV r p=true
   ·rw [if_pos c,if_pos (comV_ecom.1 c)]
   ·rw [if_neg c,if_neg (fun h=>c (comV_ecom.2 h)),nf_mul hw (hv a (by simp)) (hv r (List.mem_cons_of_mem _ hr))]
    exact emul_comm (hG.com _ _ (by simp) (by simp;right;exact ⟨r,hr,rfl⟩))
theorem orSt_vl {w:Nat} (hw:w<=12) {l' P:List Ps} (hv:∀ q,q∈l'->Vl w q) (hP:∀ q,q∈P->Vl w q):∀ k,k<=P.length->∀ q,q∈(orSt w l' P k).1->Vl w q
 | 0,_,q,hq=>hv q hq
 | k+1,hk,q,hq=>by
  have ih:=orSt_vl hw hv hP k (by omega)
  simp only [orSt] at hq
  have hg:P.getD k Ps.z0=P[k]:=by rw [List.getD_eq_getElem?_getD,List.getElem?_eq_getElem hk];rfl
  rw [hg] at hq
  split at hq
  ·exact ih q hq
  ·exact prjL_vl hw (hP _ (List.getElem_mem hk)) ih q hq
theorem ovR_run {w:Nat} {l l':List Ps} (h:SOk w l) (h':SOk w l'):(∀ k,k<=l.length->(∀ j,j<k->orEx w l' l j ≠ -1)->SOk w (orSt w l' l k).1)/\ovR w l' l=ovlE (l'.map nf) (l.map nf) 0:=by
 have hs:=sok_sta h
 have hs':=sok_sta h'
 have hvl:=orSt_vl h.hi h'.vl h.vl
 have hsok:∀ k,k<=l.length->Sta w ((orSt w l' l k).1.map nf)->SOk w (orSt w l' l k).1:=fun k hk hS=>sta_sok ⟨h.lo,h.hi⟩ (hvl k hk) hS
 have hgd:∀ k (_:k<l.length),l.getD k Ps.z0=l[k]:=fun k hk=>by rw [List.getD_eq_getElem?_getD,List.getElem?_eq_getElem hk];rfl
 have hlen:(l.map nf).length=l.length:=List.length_map _
 obtain ⟨r1,r2⟩:=ov_run h.hi (l.map nf) (l'.map nf) (fun k=>((orSt w l' l k).1.map nf,(orSt w l' l k).2)) (orEx w l' l) hs'
  (fun p hp=>⟨hs.inv p hp,hs.good.ok p hp⟩) rfl
  (fun k hk hS=>by
   have hk':k<l.length:=by omega
   have hv:=h.vl l[k] (List.getElem_mem hk')
   rw [List.getElem_map]
   unfold orEx
   rw [hgd k hk']
   exact expR_ok (hsok k (by omega) hS) hv (hs.good.ok _ (List.mem_map.2 ⟨_,List.getElem_mem hk',rfl⟩)))
  (fun k hk e=>by
   unfold orEx at e
   simp only [orSt]
   rw [if_pos e])
  (fun k hk hS e hx=>by
   have hk':k<l.length:=by omega
   unfold orEx at e
   simp only [orSt]
   rw [if_neg (by rw [e];decide),List.getElem_map,hgd k hk']
   dsimp only
   rw [prjL_nf h.hi (hvl k (by omega)) hS.good])
 rw [hlen] at r1 r2
 exact ⟨fun k hk hj=>hsok k hk (r1 k hk hj).1,r2.symm⟩
end Go.Tz
namespace Go.Tz
open Go Go.AL Go.Ma
theorem proj_get {p:E}:∀ (L:List E) (a:Nat) (ha:a<L.length),(∀ j (_:j<a),ecom (L[j]'(by omega)) p)->¬ ecom L[a] p->∀ j,(proj p L)[j]?=L[j]?.map fun q=>if j<a then q else if j=a then p else if ecom q p then q else emul q L[a]
 | [],a,ha,_,_,_=>by simp at ha
 | b::L,0,ha,h1,h2,j=>by
  have h2:¬ ecom b p:=h2
  simp only [proj,if_neg h2]
  cases j with
  | zero=>simp
  | succ j =>
   simp only [List.getElem?_cons_succ,projR,List.getElem?_map]
   simp
 | b::L,a+1,ha,h1,h2,j=>by
  have h0:ecom b p:=h1 0 (by omega)
  simp only [proj,if_pos h0]
  cases j with
  | zero=>simp
  | succ j =>
   have ih:=proj_get L a (by simpa using ha) (fun j hj=>h1 (j+1) (by omega)) h2 j
   simp only [List.getElem?_cons_succ,ih]
   simp
theorem ant_spec {p:Ps} {rf:Nat->Ps} {N a0:Nat} {R:List Nat} (h:antL p rf N=a0::R):a0<N/\comV p (rf a0)=false/\(∀ j,j<a0->comV p (rf j)=true) /\ ∀ j,j<N->a0<j->(j∈R ↔ comV p (rf j)=false)/\(∀ j,j∈R->a0<j):=by
 have hm:∀ j,j∈a0::R ↔ j<N/\comV p (rf j)=false:=fun j=>by
  rw [<- h];unfold antL;rw [List.mem_filter,List.mem_range];simp
 have hs:(a0::R).Pairwise (· < ·):=by
  rw [<- h];exact List.Pairwise.filter _ List.pairwise_lt_range
 have hlt:=(List.pairwise_cons.1 hs).1
 obtain ⟨q1,q2⟩:=(hm a0).1 (by simp)
 refine ⟨q1,q2,fun j hj=>?_,fun j hj hlj=>⟨?_,hlt⟩⟩
 ·cases hc:comV p (rf j) with
  | true=>rfl
  | false =>
   rcases List.mem_cons.1 ((hm j).2 ⟨by omega,hc⟩) with e|e
   ·omega
   ·have:=hlt j e;omega
 ·constructor
  ·intro hR;exact ((hm j).1 (List.mem_cons_of_mem _ hR)).2
  ·intro hc
   rcases List.mem_cons.1 ((hm j).2 ⟨hj,hc⟩) with e|e
   ·omega
   ·exact e
theorem comV_false {q r:Ps}:comV q r=false ↔ ¬ ecom (nf q) (nf r):=by rw [<- comV_ecom];simp
theorem prjF_nf {w:Nat} (hw:w<=12) {p:Ps} {rf:Nat->Ps} {N a0:Nat} {R:List Nat} (hv:∀ j,j<N->Vl w (rf j)) (h:antL p rf N=a0::R):(rowsL N (prjF rf p a0 R)).map nf=proj (nf p) ((rowsL N rf).map nf):=by
 obtain ⟨h1,h2,h3,h4⟩:=ant_spec h
 have hg:∀ j (hj:j<((rowsL N rf).map nf).length),((rowsL N rf).map nf)[j]=nf (rf j):=fun j hj=>by simp [rowsL]
 have hl:((rowsL N rf).map nf).length=N:=by simp [rowsL]
 apply List.ext_getElem?
 intro j
 rw [proj_get ((rowsL N rf).map nf) a0 (by omega) (fun j hj=>by rw [hg];exact ecom_symm (comV_ecom.1 (h3 j hj))) (by rw [hg];exact fun e=>comV_false.1 h2 (ecom_symm e)),hg]
 simp only [rowsL,List.getElem?_map]
 by_cases hj:j<N
 ·rw [List.getElem?_range hj]
  simp only [Option.map_some]
  congr 1
  unfold prjF prjR
  rcases Nat.lt_trichotomy j a0 with e|e|e
  ·have hR:j ∉ R:=fun hR=>by
    have hs:(a0::R).Pairwise (· < ·):=by
     rw [<- h];exact List.Pairwise.filter _ List.pairwise_lt_range
    have:=(List.pairwise_cons.1 hs).1 j hR
    omega
   rw [if_neg (show ¬ j=a0 by omega),if_neg hR,if_pos e]
  ·rw [if_pos e,if_neg (show ¬ j<a0 by omega),if_pos e]
  ·rw [if_neg (show ¬ j=a0 by omega),if_neg (show ¬ j<a0 by omega),if_neg (show ¬ j=a0 by omega)]
   have hiff:=(h4 j hj e).1
   by_cases hR:j∈R
   ·rw [if_pos hR,if_neg (show ¬ ecom (nf (rf j)) (nf p) from fun c=>comV_false.1 (hiff.1 hR) (ecom_symm c)),nf_mul hw (hv j hj) (hv a0 h1)]
   ·have hc:ecom (nf (rf j)) (nf p):=by
     refine ecom_symm (comV_ecom.1 ?_)
     cases hc:comV p (rf j) with
     | true=>rfl
     | false=>exact absurd (hiff.2 hc) hR
    rw [if_neg hR,if_pos hc]
 ·rw [List.getElem?_eq_none (by simpa using hj)];rfl
theorem ovSt_vl {w:Nat} (hw:w<=12) {N:Nat} {rf0:Nat->Ps} {P:List Ps} (hv:∀ j,j<N->Vl w (rf0 j)) (hP:∀ q,q∈P->Vl w q):∀ k,k<=P.length->∀ j,j<N->Vl w ((ovSt N rf0 P k).1 j)
 | 0,_,j,hj=>hv j hj
 | k+1,hk,j,hj=>by
  have ih:=ovSt_vl hw hv hP k (by omega)
  have hg:P.getD k Ps.z0=P[k]:=by rw [List.getD_eq_getElem?_getD,List.getElem?_eq_getElem hk];rfl
  have hp:=hP _ (List.getElem_mem hk)
  simp only [ovSt,hg,ovStep]
  split
  ·cases hA:antL P[k] (ovSt N rf0 P k).1 N with
   | cons a0 R =>
    have ha:=(ant_spec hA).1
    dsimp only
    unfold prjF prjR
    split
    ·exact hp
    ·split
     ·exact mul_vl hw (ih j hj) (ih a0 ha)
     ·exact ih j hj
   | nil=>exact ih j hj
  ·exact ih j hj
theorem ant_ne {p:Ps} {rf:Nat->Ps} {N:Nat} (h:∃ q,q∈(rowsL N rf).map nf /\ ¬ ecom q (nf p)):antL p rf N≠[]:=by
 obtain ⟨q,hq,hc⟩:=h
 obtain ⟨r,hr,rfl⟩:=List.mem_map.1 hq
 obtain ⟨j,hj,rfl⟩:=List.mem_map.1 hr
 intro e
 have:j∈antL p rf N:=by
  unfold antL
  rw [List.mem_filter]
  refine ⟨hj,?_⟩
  have:=comV_false.2 (fun c=>hc (ecom_symm c))
  rw [this];rfl
 rw [e] at this;cases this
theorem ovP_run {w N:Nat} {P:List Ps} {rf0:Nat->Ps} (h:SOk w P) (h':SOk w (rowsL N rf0)) :
  (∀ k,k<=P.length->(∀ j,j<k->ovEx N rf0 P j ≠ -1)->SOk w (rowsL N (ovSt N rf0 P k).1))/\(∀ k,k<P.length->(∀ j,j<k->ovEx N rf0 P j ≠ -1)->ovEx N rf0 P k=0->antL (P.getD k Ps.z0) (ovSt N rf0 P k).1 N≠[])/\ovP N rf0 P=ovlE ((rowsL N rf0).map nf) (P.map nf) 0:=by
 have hs:=sok_sta h
 have hs':=sok_sta h'
 have hv0:∀ j,j<N->Vl w (rf0 j):=fun j hj=>h'.vl _ (List.mem_map.2 ⟨j,List.mem_range.2 hj,rfl⟩)
 have hvl:=ovSt_vl h.hi hv0 h.vl
 have hsok:∀ k,k<=P.length->Sta w ((rowsL N (ovSt N rf0 P k).1).map nf)->SOk w (rowsL N (ovSt N rf0 P k).1):=fun k hk hS=>sta_sok ⟨h.lo,h.hi⟩ (fun q hq=>by
  obtain ⟨j,hj,rfl⟩:=List.mem_map.1 hq
  exact hvl k hk j (List.mem_range.1 hj)) hS
 have hgd:∀ k (_:k<P.length),P.getD k Ps.z0=P[k]:=fun k hk=>by rw [List.getD_eq_getElem?_getD,List.getElem?_eq_getElem hk];rfl
 have hlen:(P.map nf).length=P.length:=List.length_map _
 have hexp:∀ k (hk:k<P.length),Sta w ((rowsL N (ovSt N rf0 P k).1).map nf)->ExpOk ((rowsL N (ovSt N rf0 P k).1).map nf) (nf P[k]) (ovEx N rf0 P k):=fun k hk hS=>by
  unfold ovEx
  rw [hgd k hk]
  exact expP_ok (hsok k (by omega) hS) (h.vl _ (List.getElem_mem hk)) (hs.good.ok _ (List.mem_map.2 ⟨_,List.getElem_mem hk,rfl⟩))
 obtain ⟨r1,r2⟩:=ov_run h.hi (P.map nf) ((rowsL N rf0).map nf) (fun k=>((rowsL N (ovSt N rf0 P k).1).map nf,(ovSt N rf0 P k).2)) (ovEx N rf0 P) hs'
  (fun p hp=>⟨hs.inv p hp,hs.good.ok p hp⟩) rfl
  (fun k hk hS=>by rw [List.getElem_map];exact hexp k (by omega) hS)
  (fun k hk e=>by
   unfold ovEx at e
   simp only [ovSt,ovStep]
   rw [if_neg (by rw [e];decide)])
  (fun k hk hS e hx=>by
   have hk':k<P.length:=by omega
   rw [List.getElem_map] at hx ⊢
   have hne:=ant_ne hx
   unfold ovEx at e
   simp only [ovSt,ovStep]
   rw [if_pos e,hgd k hk']
   cases hA:antL P[k] (ovSt N rf0 P k).1 N with
   | nil=>exact absurd hA hne
   | cons a0 R =>
    dsimp only
    rw [prjF_nf h.hi (hvl k (by omega)) hA])
 rw [hlen] at r1 r2
 refine ⟨fun k hk hj=>hsok k hk (r1 k hk hj).1,fun k hk hj e=>?_,r2.symm⟩
 have hS:=(r1 k (by omega) hj).1
 have hx:=hexp k hk hS
 rw [hgd k hk]
 have hp:=hs.good.ok _ (List.mem_map.2 ⟨_,List.getElem_mem hk,rfl⟩)
 have hpi:=hs.inv _ (List.mem_map.2 ⟨_,List.getElem_mem hk,rfl⟩)
 refine ant_ne (sta_anti h.hi hS hpi hp (fun c=>?_) fun c=>?_)
 ·have:=hx.pos c;omega
 ·have:=hx.neg c;omega
theorem rowsL_get (l:List Ps) {n:Nat} (hn:l.length=n):rowsL n (fun j=>l.getD j Ps.z0)=l:=by
 subst hn
 apply List.ext_getElem
 ·simp [rowsL]
 ·intro i h1 h2;simp [rowsL,List.getD_eq_getElem?_getD,List.getElem?_eq_getElem h2]
theorem ovl_ok {w:Nat} {l l':List Ps} (h:SOk w l) (h':SOk w l'):OvOk w l l'/\ovP l'.length (fun j=>(redRows l' (2*w)).getD j Ps.z0) (redRows l (2*w))=ovR w l' l:=by
 obtain ⟨a1,a2⟩:=redRows_ok h
 obtain ⟨b1,b2⟩:=redRows_ok h'
 have er:=rowsL_get (redRows l' (2*w)) (redRows_len l' (2*w))
 obtain ⟨q1,q2,q3⟩:=ovP_run (N:=l'.length) (rf0:=fun j=>(redRows l' (2*w)).getD j Ps.z0) a1 (by rw [er];exact b1)
 rw [redRows_len] at q1 q2
 refine ⟨⟨q1,q2⟩,?_⟩
 rw [q3,(ovR_run h h').2,er]
 exact ovl_eq h.hi (sok_sta b1) (sok_sta h') (sok_sta a1) (sok_sta h) (fun g=>(b2 g).symm) fun g=>(a2 g).symm
end Go.Tz
namespace Go.Tz
open Go Go.AL Go.Proofs Go.Ma
theorem lendA {V:AHeap} {nm sz N:Nat} {t:Bool} {es:List (List D)} {a:D} (hg:V.get nm=some (dblk sz es)) (hN:N=es.length):mapO (asDX V 9 []) [.agg [.d a,.sl nm sz 0 N N t]]=some [.agg [a,.sl es t]]:=by
 have h:=asDX_sl (q:=6) (vis:=[]) (t:=t) hg hN
 have e1:asDX V 8 [] (.d a)=some a:=rfl
 have e3:asDX V 9 [] (.agg [.d a,.sl nm sz 0 N N t])=some (.agg [a,.sl es t]):=by
  unfold asDX
  simp only [mapO,e1,h]
 simp only [mapO,e3]
theorem flat_rows (m:List Ps):Blk.flat (dblk 4 (m.map Ps.l))=true:=by
 unfold dblk Blk.flat
 refine List.all_eq_true.2 fun el hel=>?_
 obtain ⟨x,hx,rfl⟩:=List.mem_map.1 hel
 obtain ⟨q,_,rfl⟩:=List.mem_map.1 hx
 rfl
theorem flOf_rows (a:D) (n:Nat) (t:Bool) (m:List Ps):flOf (.agg [.d a,.sl 0 4 0 n n t]) [(0,some (dblk 4 (m.map Ps.l)))]=[(0,some (dblk 4 (m.map Ps.l)))]:=by
 show AHeap.fl [(0,some (dblk 4 (m.map Ps.l)))]=_
 unfold AHeap.fl
 rw [flat_rows];rfl
end Go.Tz
namespace Go.Tz
open Go Go.AL Go.Ma
theorem pop_x (N a:Nat):∀ k,pop k (N^^^2^a)+(if a<k then (N.testBit a).toNat else 0)=pop k N+(if a<k then (!N.testBit a).toNat else 0)
 | 0=>by simp [pop]
 | k+1=>by
  have ih:=pop_x N a k
  simp only [pop,Nat.testBit_xor,Nat.testBit_two_pow]
  by_cases h:a=k
  ·subst h
   rw [if_neg (by omega),if_neg (by omega)] at ih
   rw [if_pos (by omega),if_pos (by omega)]
   cases N.testBit a <;> simp <;> omega
  ·rw [decide_eq_false h,Bool.xor_false]
   by_cases h2:a<k
   ·rw [if_pos h2,if_pos h2] at ih
    rw [if_pos (by omega),if_pos (by omega)];omega
   ·rw [if_neg h2,if_neg h2] at ih
    rw [if_neg (by omega),if_neg (by omega)];omega
theorem and_set {X Z a:Nat} (x' z':Bool):(X^^^cd (X.testBit a != x') (2^a)) &&& (Z^^^cd (Z.testBit a != z') (2^a))=(X &&& Z)^^^cd ((X.testBit a&&Z.testBit a) != (x'&&z')) (2^a):=by
 refine Nat.eq_of_testBit_eq fun j=>?_
 simp only [Nat.testBit_and,Nat.testBit_xor,tb_cd,Nat.testBit_two_pow]
 by_cases e:a=j
 ·subst e
  rw [decide_eq_true (show a=a from rfl)]
  cases X.testBit a <;> cases Z.testBit a <;> cases x' <;> cases z' <;> rfl
 ·rw [decide_eq_false e];simp
theorem pop_cd {N a:Nat} (ha:a<12) (t:Bool):pop 12 (N^^^cd (N.testBit a != t) (2^a))+(N.testBit a).toNat=pop 12 N+t.toNat:=by
 have:=pop_x N a 12
 rw [if_pos ha,if_pos ha] at this
 cases e:N.testBit a <;> cases t <;> simp [cd,e] at this ⊢ <;> omega
theorem vec_split {A B:Nat} (hA:A<4096):A+4096*B=A^^^4096*B:=by
 have:=vec_xor (X:=A) (Z:=0) (X':=0) (Z':=B) hA (by decide)
 simp at this
 exact this.symm
theorem vecb_x {X Z a:Nat} (hX:X<4096) (ha:a<12):(X+4096*Z).testBit a=X.testBit a:=by rw [vec_bit hX,if_pos ha]
theorem vecb_z {X Z a:Nat} (hX:X<4096):(X+4096*Z).testBit (12+a)=Z.testBit a:=by
 rw [vec_bit hX,if_neg (by omega)]
 congr 1;omega
theorem nf_set {w X Z P a:Nat} (hX:X<4096) (_hZ:Z<4096) (ha:a<12) (x' z':Bool) :
  nf (mk w (X^^^cd (X.testBit a != x') (2^a)) (Z^^^cd (Z.testBit a != z') (2^a)) P)=emul (eclr a (nf (mk w X Z P))) (eL a x' z'):=by
 have hp:∀ t,cd t (2^a)<4096:=fun t=>by
  cases t
  ·show 0<4096;decide
  ·exact (Nat.pow_lt_pow_right (by decide) ha:(2:Nat)^a<2^12)
 rw [nf_mk,nf_mk]
 refine e_ext ?_ ?_
 ·simp only [emul,eclr,eL]
  rw [vecb_x hX ha,vecb_z hX,and_set]
  have q:=pop_cd (N:=X &&& Z) ha (x'&&z')
  rw [Nat.testBit_and] at q
  have hb:bt ((X+4096*Z)^^^(cd (X.testBit a) (2^a)^^^cd (Z.testBit a) (2^(12+a)))) (cd x' (2^a)^^^cd z' (2^(12+a)))=false:=by
   have q2:decide (a=12+a)=false:=decide_eq_false (by omega)
   simp only [bt_xorr,bt_cdr,bt_rlo ha,bt_rhi,Nat.testBit_xor,tb_cd,Nat.testBit_two_pow,q2,vecb_z hX]
   simp
  rw [hb]
  generalize pop 12 ((X &&& Z)^^^cd ((X.testBit a&&Z.testBit a) != (x'&&z')) (2^a))=u at *
  generalize pop 12 (X &&& Z)=v at *
  generalize (X.testBit a&&Z.testBit a).toNat=s at *
  generalize (x'&&z').toNat=t at *
  show (P+u) % 4=_
  simp only [Bool.toNat_false]
  omega
 ·simp only [emul,eclr,eL]
  rw [vecb_x hX ha,vecb_z hX,<- vec_xor hX (hp _),cd_xor,cd_xor,vec_split (A:=cd (X.testBit a) (2^a)^^^cd x' (2^a)) (Nat.xor_lt_two_pow (n:=12) (hp _) (hp _))]
  have d:4096*(cd (Z.testBit a) (2^a)^^^cd z' (2^a))=cd (Z.testBit a) (2^(12+a))^^^cd z' (2^(12+a)):=by
   cases Z.testBit a <;> cases z' <;> simp [cd,Nat.pow_add]
  rw [d];ac_rfl
theorem nf_letter {w n l:Nat} (hn:n<12) (_hl:l<=3):nf (oneS w n l)=eL n (decide (l=1)||decide (l=2)) (decide (l=2)||decide (l=3)):=by
 have hs:oneS w n l=mk w (0^^^cd ((0:Nat).testBit n != (decide (l=1)||decide (l=2))) (2^n)) (0^^^cd ((0:Nat).testBit n != (decide (l=2)||decide (l=3))) (2^n)) 0:=by
  unfold oneS mk
  rw [pow_nat (by omega)]
  have c1:((l:Int)=1\/(l:Int)=2) ↔ ((decide (l=1)||decide (l=2))=true):=by simp;omega
  have c2:((l:Int)=3\/(l:Int)=2) ↔ ((decide (l=2)||decide (l=3))=true):=by simp;omega
  simp only [c1,c2,Nat.zero_testBit]
  cases (decide (l=1)||decide (l=2)) <;> cases (decide (l=2)||decide (l=3)) <;> simp [cd]
 rw [hs,nf_set (by decide) (by decide) hn]
 have h0:eclr n (nf (mk w 0 0 0))=e1:=by
  rw [nf_mk]
  simp [eclr,pop_zero,cd,e1]
 rw [h0,one_emul _ (eL_lt _ _ _)]
theorem one_vl {w n l:Nat} (hn:n<w) (hw:w<=12):Vl w (oneS w n l):=by
 have hp:(2:Nat)^n<2^w:=Nat.pow_lt_pow_right (by decide) hn
 refine ⟨if (l:Int)=1\/(l:Int)=2 then 2^n else 0,if (l:Int)=3\/(l:Int)=2 then 2^n else 0,0,?_,?_,?_,by decide⟩
 ·unfold oneS mk
  rw [pow_nat (by omega)]
  simp only [Ps.mk.injEq,true_and]
  refine ⟨?_,?_,rfl⟩ <;> split <;> rfl
 ·split
  ·exact hp
  ·exact Nat.two_pow_pos w
 ·split
  ·exact hp
  ·exact Nat.two_pow_pos w
def dec (w:Nat) (e:E):Ps:=mk w (e.2 % 4096) (e.2 / 4096) ((e.1+3*pop 12 ((e.2 % 4096) &&& (e.2 / 4096))) % 4)
theorem nf_dec (w:Nat) {e:E} (h:e.1<4):nf (dec w e)=e:=by
 unfold dec
 rw [nf_mk]
 refine e_ext ?_ ?_
 ·dsimp only;omega
 ·dsimp only;omega
theorem dec_vl {w:Nat} {e:E} (hw:w<=12) (h:∀ j,(w<=j/\j<12)\/12+w<=j->e.2.testBit j=false):Vl w (dec w e):=by
 refine ⟨_,_,_,rfl,?_,?_,Nat.mod_lt _ (by decide)⟩
 ·refine Nat.lt_pow_two_of_testBit _ fun j hj=>?_
  rw [show (4096:Nat)=2^12 from rfl,Nat.testBit_mod_two_pow]
  by_cases h12:j<12
  ·rw [h j (by omega)];simp
  ·simp [h12]
 ·refine Nat.lt_pow_two_of_testBit _ fun j hj=>?_
  rw [show (4096:Nat)=2^12 from rfl,<- Nat.shiftRight_eq_div_pow,Nat.testBit_shiftRight]
  exact h _ (by omega)
theorem vl_bits {w:Nat} {q:Ps} (hw:w<=12) (h:Vl w q) {j:Nat} (hj:(w<=j/\j<12)\/12+w<=j):(nf q).2.testBit j=false:=by
 obtain ⟨X,Z,P,rfl,h1,h2,h3⟩:=h
 have hp:(2:Nat)^w<=2^12:=Nat.pow_le_pow_right (by decide) hw
 rw [nf_mk]
 dsimp only
 rw [vec_bit (by omega)]
 split
 ·exact Nat.testBit_lt_two_pow (Nat.lt_of_lt_of_le h1 (Nat.pow_le_pow_right (by decide) (by omega)))
 ·exact Nat.testBit_lt_two_pow (Nat.lt_of_lt_of_le h2 (Nat.pow_le_pow_right (by decide) (by omega)))
def thrS (w k a b:Nat) (q:Ps):Ps:=dec w (gE k a b (nf q))
def gR (w k a b:Nat):Prop:=(1<=k/\k<=6/\a<w)\/(9<=k/\k<=11/\a<w/\b<w/\a≠b)
theorem gR_ok {w k a b:Nat} (hw:w<=12) (h:gR w k a b):gOk k a b:=by unfold gR at h;unfold gOk;omega
theorem thr_vl {w k a b:Nat} (hw:w<=12) (h:gR w k a b) {q:Ps} (hq:Vl w q):Vl w (thrS w k a b q) :=
 dec_vl hw fun j hj=>gL_bits (gR_ok hw h) (w:=w) (by unfold gR at h;omega) (by unfold gR at h;omega) hj (vl_bits hw hq hj)
theorem nf_thr (w k a b:Nat) (q:Ps):nf (thrS w k a b q)=gE k a b (nf q):=nf_dec w (gE_lt _ _ _ _)
def ptS (w X Z P n:Nat):Ps:=mk w (X % 2^n) (Z % 2^n) P
theorem nf_pt {w X Z P n:Nat} (hn:n<12):nf (ptS w X Z P (n+1))=emul (nf (ptS w X Z P n)) (eL n (X.testBit n) (Z.testBit n)):=by
 have hp:(2:Nat)^(n+1)<=2^12:=Nat.pow_le_pow_right (by decide) hn
 have hX:X % 2^(n+1)<4096:=Nat.lt_of_lt_of_le (Nat.mod_lt _ (Nat.two_pow_pos _)) hp
 have hZ:Z % 2^(n+1)<4096:=Nat.lt_of_lt_of_le (Nat.mod_lt _ (Nat.two_pow_pos _)) hp
 have hb:∀ Y:Nat,(Y % 2^(n+1)).testBit n=Y.testBit n:=fun Y=>by rw [Nat.testBit_mod_two_pow];simp
 have hc:∀ Y:Nat,Y % 2^(n+1)^^^cd ((Y % 2^(n+1)).testBit n != false) (2^n)=Y % 2^n:=fun Y=>by
  refine Nat.eq_of_testBit_eq fun j=>?_
  rw [hb,Nat.testBit_xor,tb_cd,Nat.testBit_two_pow,Nat.testBit_mod_two_pow,Nat.testBit_mod_two_pow]
  by_cases e:n=j
  ·subst e;simp
  ·rw [decide_eq_false e]
   have:decide (j<n+1)=decide (j<n):=decide_eq_decide.2 (by omega)
   rw [this];simp
 have h1:=nf_set (w:=w) (P:=P) hX hZ hn false false
 rw [hc,hc] at h1
 have h2:eL n false false=e1:=by simp [eL,cd,e1]
 rw [h2,emul_one _ (eclr_lt _ _)] at h1
 unfold ptS
 rw [h1]
 have h3:=eclr_mul hn (nf_lt (mk w (X % 2^(n+1)) (Z % 2^(n+1)) P))
 have hx:(nf (mk w (X % 2^(n+1)) (Z % 2^(n+1)) P)).2.testBit n=X.testBit n:=by rw [nf_mk];dsimp only;rw [vecb_x hX hn,hb]
 have hz:(nf (mk w (X % 2^(n+1)) (Z % 2^(n+1)) P)).2.testBit (12+n)=Z.testBit n:=by rw [nf_mk];dsimp only;rw [vecb_z hX,hb]
 rw [hx,hz] at h3
 exact h3.symm
theorem pt_0 {w X Z P k a b:Nat} (h:gOk k a b):nf (ptS w X Z P 0)=gE k a b (nf (ptS w X Z P 0)):=by
 refine (gE_fix h (nf_lt _) ?_ ?_ fun _=>⟨?_,?_⟩).symm <;> (unfold ptS;rw [nf_mk,Nat.pow_zero,Nat.mod_one,Nat.mod_one];simp)
theorem pt_all {w X Z P n:Nat} (hX:X<2^n) (hZ:Z<2^n):ptS w X Z P n=mk w X Z P:=by
 unfold ptS;rw [Nat.mod_eq_of_lt hX,Nat.mod_eq_of_lt hZ]
theorem pt_step {w X Z P k a b n:Nat} (h:gOk k a b) (hn:n<12) {e:E} (he:e=gE k a b (nf (ptS w X Z P n))):emul e (gE k a b (eL n (X.testBit n) (Z.testBit n)))=gE k a b (nf (ptS w X Z P (n+1))):=by
 rw [he,<- gE_mul h,<- nf_pt hn]
theorem pt_skip {w X Z P k a b n:Nat} (h:gOk k a b) (hn:n<12) (hx:X.testBit n=false) (hz:Z.testBit n=false) {e:E} (he:e=gE k a b (nf (ptS w X Z P n))):e=gE k a b (nf (ptS w X Z P (n+1))):=by
 have h0:eL n false false=e1:=by simp [eL,cd,e1]
 have:=pt_step h hn he
 rw [hx,hz,h0,gE_one h,emul_one _ (by rw [he];exact gE_lt _ _ _ _)] at this
 exact this
end Go.Tz
namespace Go.Tz
open Go Go.AL Go.Ma
theorem red_full {w:Nat} {l:List Ps} (h:SOk w l):∃ pc,RR l.length (2*w) l.length (rfv l (2*w)) pc:=by
 obtain ⟨pc,r1,r2⟩:=rfv_piv h.hi h.vl
 have hb:∀ c,∀ a,a∈revl (rfv l c) l.length->a<2^24:=by
  intro c a ha
  obtain ⟨j,hj,rfl⟩:=revl_mem.1 ha
  exact vec_lt h.hi ((red_vl h.hi h.vl c).1 j hj)
 have e1:=rk_eq (hb (2*w)) (hb 0) fun v=>rfv_span h.hi h.vl v (Nat.le_refl _)
 have e2:=h.rank
 rw [rank_rk h.hi h.vl,<- e1,rk_piv r2,cnt_all] at e2
 have han:=r1.an
 have:(redN l (2*w)).2.2=l.length:=by
  refine Classical.byContradiction fun hn=>?_
  have:=e2 (redN l (2*w)).2.2 (by omega)
  simp at this
 exact ⟨pc,by rw [this] at r1;exact r1⟩
theorem same_span {L M:List E} (h:SameG L M) (v:Nat):spB (L.map (·.2)) v=spB (M.map (·.2)) v:=by
 have key:∀ {A B:List E},SameG A B->spB (A.map (·.2)) v=true->spB (B.map (·.2)) v=true:=fun hab ha=>by
  obtain ⟨g,hg,rfl⟩:=span_gen _ v ha
  exact gen_span ((hab g).1 hg)
 cases e:spB (M.map (·.2)) v with
 | true=>exact key (fun g=>(h g).symm) e
 | false =>
  cases e2:spB (L.map (·.2)) v with
  | false=>rfl
  | true=>rw [key h e2] at e;cases e
theorem red_uniq {w:Nat} {l m:List Ps} (h:SOk w l) (h':SOk w m) (hg:SameG (l.map nf) (m.map nf)):redRows l (2*w)=redRows m (2*w):=by
 obtain ⟨pc,r1⟩:=red_full h
 obtain ⟨pc',r2⟩:=red_full h'
 have hlen:l.length=m.length:=by rw [h.len,h'.len]
 rw [<- hlen] at r2
 have hs:∀ v,spB (revl (rfv l (2*w)) l.length) v=spB (revl (rfv m (2*w)) l.length) v:=fun v=>by
  have e2:=rfv_span h'.hi h'.vl v (Nat.le_refl (2*w))
  rw [<- hlen] at e2
  have e3:=span_l (l:=m) (v:=v)
  rw [<- hlen] at e3
  rw [rfv_span h.hi h.vl v (Nat.le_refl _),e2,e3,span_l,same_span hg]
 obtain ⟨a1,a2⟩:=redRows_ok h
 obtain ⟨b1,b2⟩:=redRows_ok h'
 have hA:=sok_sta h'
 unfold redRows
 rw [<- hlen]
 refine List.map_congr_left fun j hj=>?_
 have hj:=List.mem_range.1 hj
 have hv:=rr_uniq r1 r2 hs hj
 have mem:∀ {l:List Ps},j<l.length->nf ((redN l (2*w)).1 j)∈(redRows l (2*w)).map nf:=fun hj=>List.mem_map.2 ⟨_,List.mem_map.2 ⟨j,List.mem_range.2 hj,rfl⟩,rfl⟩
 have g1:Gen (m.map nf) (nf ((redN l (2*w)).1 j)):=(hg _).1 ((a2 _).2 (gen_mem' (sok_sta a1).good (mem hj)))
 have g2:Gen (m.map nf) (nf ((redN m (2*w)).1 j)):=(b2 _).2 (gen_mem' (sok_sta b1).good (mem (by omega)))
 exact nf_inj h.hi ((red_vl h.hi h.vl _).1 j hj) ((red_vl h'.hi h'.vl _).1 j (by omega)) (gen_uniq hA.good hA.ind g1 g2 hv)
def appS (w k a b:Nat) (l:List Ps):List Ps:=redRows (l.map (thrS w k a b)) (2*w)
theorem map_thr_nf (w k a b:Nat) (l:List Ps):(l.map (thrS w k a b)).map nf=(l.map nf).map (gE k a b):=by
 rw [List.map_map,List.map_map]
 exact List.map_congr_left fun q _=>nf_thr w k a b q
theorem thr_all_vl {w k a b:Nat} (hw:w<=12) (hg:gR w k a b) {l:List Ps} (hv:∀ q,q∈l->Vl w q):∀ q,q∈l.map (thrS w k a b)->Vl w q:=fun q hq=>by
 obtain ⟨r,hr,rfl⟩:=List.mem_map.1 hq
 exact thr_vl hw hg (hv r hr)
theorem map_thr_sok {w k a b:Nat} (hg:gR w k a b) {l:List Ps} (h:SOk w l):SOk w (l.map (thrS w k a b)):=by
 refine sta_sok ⟨h.lo,h.hi⟩ (thr_all_vl h.hi hg h.vl) ?_
 rw [map_thr_nf]
 exact gE_sta h.hi (gR_ok h.hi hg) (by unfold gR at hg;omega) (by unfold gR at hg;omega) (sok_sta h)
theorem app_sok {w k a b:Nat} (hg:gR w k a b) {l:List Ps} (h:SOk w l):SOk w (appS w k a b l):=(redRows_ok (map_thr_sok hg h)).1
theorem red_all_vl {w:Nat} (hw:w<=12) {l:List Ps} (hv:∀ q,q∈l->Vl w q) (c:Nat):∀ q,q∈redRows l c->Vl w q:=fun q hq=>by
 obtain ⟨j,hj,rfl⟩:=List.mem_map.1 hq
 exact (red_vl hw hv c).1 j (List.mem_range.1 hj)
theorem proj_sub {w:Nat} {L M:List E} (hL:Sta w L) (hM:Sta w M) {p:E} (hok:eok p) (h:SameG L M) (hxL:∃ q,q∈L /\ ¬ ecom q p) (hxM:∃ q,q∈M /\ ¬ ecom q p) {g:E} (hg:Gen (proj p L) g):Gen (proj p M) g:=by
 obtain ⟨k,hk,hc,e⟩:=proj_back hL.good hok hxL hg
 obtain ⟨f,hf,hfp,hkeep⟩:=proj_keep hM.good hok hxM
 have h1:=(hkeep k ((h k).1 hk)).1 hc
 have hgd:=proj_good hM.good hok hxM
 rcases e with rfl|rfl
 ·exact h1
 ·exact gen_mul' hgd (gen_mem' hgd (proj_has hxM)) h1
theorem proj_same {w:Nat} {L M:List E} (hw:w<=12) (hL:Sta w L) (hM:Sta w M) {p:E} (hp:inV w p.2) (hok:eok p) (h:SameG L M) (h1:¬ Gen L p) (h2:¬ Gen L (eneg p)):SameG (proj p L) (proj p M):=by
 have hxL:=sta_anti hw hL hp hok h1 h2
 have hxM:=sta_anti hw hM hp hok (fun q=>h1 ((h p).2 q)) (fun q=>h2 ((h _).2 q))
 exact fun g=>⟨proj_sub hL hM hok h hxL hxM,proj_sub hM hL hok (fun g=>(h g).symm) hxM hxL⟩
end Go.Tz
namespace Go.Tz
open Go Go.AL Go.Ma
def zP (w n o:Nat):Ps:=mk w 0 (2^n) (2*o)
theorem zP_vl {w n o:Nat} (hn:n<w) (ho:o<=1):Vl w (zP w n o):=⟨0,2^n,2*o,rfl,Nat.two_pow_pos w,Nat.pow_lt_pow_right (by decide) hn,by omega⟩
theorem zP_ok {w n o:Nat} (hw:w<=12) (hn:n<w) (ho:o<=1):eok (nf (zP w n o)):=by
 rw [eok_nf hw (zP_vl hn ho)]
 show ((2*o:Nat):Int).tmod 2=0
 rw [Int.tmod_eq_emod_of_nonneg (by omega)];omega
theorem expOk_cases {L:List E} {g:E} {e:Int} (h:ExpOk L g e):(e=1/\Gen L g)\/(e = -1/\Gen L (eneg g))\/(e=0 /\ ¬ Gen L g /\ ¬ Gen L (eneg g)):=by
 by_cases a:Gen L g
 ·exact .inl ⟨h.pos a,a⟩
 ·by_cases b:Gen L (eneg g)
  ·exact .inr (.inl ⟨h.neg b,b⟩)
  ·exact .inr (.inr ⟨h.zero a b,a,b⟩)
theorem prjF_vl {w N:Nat} (hw:w<=12) {rf:Nat->Ps} {p:Ps} {a0:Nat} {R:List Nat} (hv:∀ j,j<N->Vl w (rf j)) (hp:Vl w p) (ha:a0<N):∀ j,j<N->Vl w (prjF rf p a0 R j):=by
 intro j hj
 unfold prjF prjR
 split
 ·exact hp
 ·split
  ·exact mul_vl hw (hv j hj) (hv a0 ha)
  ·exact hv j hj
theorem mea_gen {w:Nat} {l r:List Ps} (h:SOk w l) (h':SOk w r) (hg:SameG (r.map nf) (l.map nf)) {p:Ps} (hp:Vl w p) (hk:eok (nf p)) :
  expP r p=expR w l p/\(expR w l p=0->SOk w (prjL p l) /\ ∃ a0 R,antL p (fun j=>r.getD j Ps.z0) w=a0::R/\a0<w/\redRows (rowsL w (prjF (fun j=>r.getD j Ps.z0) p a0 R)) (2*w)=redRows (prjL p l) (2*w)):=by
 have x1:=expP_ok h' hp hk
 have x2:=expR_ok h hp hk
 refine ⟨expOk_uniq hg x1 x2,fun h0=>?_⟩
 have hs:=sok_sta h
 have hs':=sok_sta h'
 have hpin:inV w (nf p).2:=vec_in h.hi hp
 have hn:¬ Gen (l.map nf) (nf p) /\ ¬ Gen (l.map nf) (eneg (nf p)):=by
  rcases expOk_cases x2 with ⟨a,_⟩|⟨a,_⟩|⟨_,b⟩
  ·rw [a] at h0;cases h0
  ·rw [a] at h0;cases h0
  ·exact b
 have hn':¬ Gen (r.map nf) (nf p) /\ ¬ Gen (r.map nf) (eneg (nf p)):=⟨fun q=>hn.1 ((hg _).1 q),fun q=>hn.2 ((hg _).1 q)⟩
 have er:=rowsL_get r h'.len
 have hx:=sta_anti h.hi hs' hpin hk hn'.1 hn'.2
 rw [<- er] at hx
 have hne:=ant_ne hx
 have hS:SOk w (prjL p l):=by
  refine sta_sok ⟨h.lo,h.hi⟩ (prjL_vl h.hi hp h.vl) ?_
  rw [prjL_nf h.hi h.vl hs.good]
  exact proj_sta h.hi hs hpin hk hn.1 hn.2
 refine ⟨hS,?_⟩
 cases hA:antL p (fun j=>r.getD j Ps.z0) w with
 | nil=>exact absurd hA hne
 | cons a0 R =>
  have hv:∀ j,j<w->Vl w (r.getD j Ps.z0):=fun j hj=>by
   rw [List.getD_eq_getElem?_getD,List.getElem?_eq_getElem (by rw [h'.len];exact hj),Option.getD_some]
   exact h'.vl _ (List.getElem_mem _)
  have ha:=(ant_spec hA).1
  refine ⟨a0,R,rfl,ha,?_⟩
  have hf:=prjF_nf h.hi hv hA
  rw [er] at hf
  have hS2:SOk w (rowsL w (prjF (fun j=>r.getD j Ps.z0) p a0 R)):=by
   refine sta_sok ⟨h.lo,h.hi⟩ (fun q hq=>?_) ?_
   ·obtain ⟨j,hj,rfl⟩:=List.mem_map.1 hq
    exact prjF_vl h.hi hv hp ha j (List.mem_range.1 hj)
   ·rw [hf]
    exact proj_sta h.hi hs' hpin hk hn'.1 hn'.2
  refine red_uniq hS2 hS ?_
  rw [hf,prjL_nf h.hi h.vl hs.good]
  exact proj_same h.hi hs' hs hpin hk hg hn'.1 hn'.2
end Go.Tz
namespace Go.Tz
open Go Go.AL Go.Proofs
variable {G:Nat->Option (List D)}
structure Gt where
 (k:Int)
 (ws:List Int)
 (u:Bool)
 (b i:Int)
def Gt.l (g:Gt):List D:=[iD g.k,intsD g.ws g.u,iD g.b,iD g.i]
abbrev Gt.d (g:Gt):D:=.agg g.l
abbrev gatesD (l:List Gt) (t:Bool):D:=.sl (l.map Gt.l) t
abbrev circD (w b:Int) (l:List Gt) (t:Bool):D:=.agg [iD w,iD b,gatesD l t]
theorem get_g {l:List Gt} {k:Nat} (h:k<l.length):(l.map Gt.l)[(k:Int).toNat]?=some (l[k]).l:=by simp [h]
theorem chk201:chkFn Tryz.f201=true:=by kernel_rfl
theorem idx201 (l:List Gt) (t:Bool) (f:FuncId) (first cap:List D) (p:Gt->Bool) (hn:l.length<=1000) (hf:∀ q,q∈l->PC Pr G f (first++[q.d]++cap) (.bool (p q))):PC Pr G 201 [gatesD l t,.fn f first cap] (iD (idxI p l)):=by
 refine pc_walk pok Tryz.func201 chk201 ?_
 conv=>whnf
 skip
 refine for_use pok (fun i=>⟨[(0,.d (gatesD l t)),(1,.d (.fn f first cap)),(7,.d (iD (l.map Gt.l).length)),(8,.d (iD i))],[],0⟩) (l.length) (fun i=>∀ q,q∈l.take i->p q=false) (by simp) ?_ (by kernel_rfl) ?_ ?_
 ·refine keep_env (by first|exact Nat.zero_le _|exact Nat.le_of_ble_eq_true rfl) ?_ ?_ trivial
  ·repeat' first|exact trivial|refine ⟨⟨by first|rfl|assumption,rfl⟩,?_⟩
  ·repeat' first|exact trivial|refine ⟨⟨ltB rfl,_,rfl,by first|rfl|assumption,by first|exact below1 rfl|exact below_dblk _ _ _|exact below_arr rfl⟩,?_⟩
 ·intro i A_i h_i I_i N_i
  have e_i:iadd .i64 (i:Int) 1=((i+1:Nat):Int):=iadd_nat (by first|omega|(simp at *;omega))
  have hq:=hf l[i] (List.getElem_mem h_i)
  conv=>whnf
  repeat' first|((first|refine LookP.mk _ (by first|rfl|exact get_g h_i) ?_|refine And.intro (by first|assumption|exact ⟨by kernel_rfl,rfl⟩|decide|omega) ?_|rw [forceL_eq]|refine pc_use3B hq rfl ?_);conv=>whnf)|(intro t ht;cases t <;> conv=>whnf)
  ·exfalso;simp at ht;omega
  ·refine N_i _ ?_ ?_
   ·exact take_none h_i ht I_i
   ·refine keep_env (by first|exact Nat.zero_le _|exact Nat.le_of_ble_eq_true rfl) ?_ ?_ trivial
    ·repeat' first|exact trivial|refine ⟨⟨by first|rfl|assumption|exact congrArg (fun n=>AV.d (iD n)) e_i,rfl⟩,?_⟩
    ·repeat' first|exact trivial|refine ⟨⟨ltB rfl,_,rfl,by first|rfl|assumption,by first|exact below1 rfl|exact below_dblk _ _ _|exact below_arr rfl⟩,?_⟩
  ·refine fin ?_
   rw [idxI_some h_i ht I_i]
 ·intro A_last I_last
  conv=>whnf
  repeat' first|((first|refine And.intro (by first|assumption|exact ⟨by kernel_rfl,rfl⟩|decide|omega) ?_|fail);conv=>whnf)|(intro t ht;cases t <;> conv=>whnf)
  ·rw [List.take_length] at I_last
   rw [idxI_none I_last];exact fin rfl
  ·exfalso;simp at ht
theorem chk116:chkFn Tryz.f116=true:=by kernel_rfl
theorem has116 (l:List Gt) (t:Bool) (f:FuncId) (first cap:List D) (p:Gt->Bool) (hn:l.length<=1000) (hf:∀ q,q∈l->PC Pr G f (first++[q.d]++cap) (.bool (p q))):PC Pr G 116 [gatesD l t,.fn f first cap] (.bool (l.any p)):=by
 have hi:=idx201 l t f first cap p hn hf
 rw [<- idxI_ge]
 generalize idxI p l=i at hi ⊢
 refine pc_walk pok Tryz.func116 chk116 ?_
 conv=>whnf
 repeat' first|(refine pc_use hi ?_;conv=>whnf)|(intro t ht;cases t <;> conv=>whnf)
 all_goals rw [ht];exact fin rfl
theorem chk253:chkFn Tryz.f253=true:=by kernel_rfl
theorem ev253 (q:Gt) (f:FuncId) (first cap:List D) (b:Bool) (hf:PC Pr G f (first++[q.d]++cap) (.bool b)):PC Pr G 253 [q.d,.rop [.fn f first cap] 0] (.bool (!b)):=by
 refine pc_walk pok Tryz.func253 chk253 ?_
 conv=>whnf
 repeat' first|((first|refine LookP.mk _ rfl ?_|rw [forceL_eq]|refine pc_use3B hf rfl ?_);conv=>whnf)|(intro t ht;cases t <;> conv=>whnf)
 all_goals rw [ht];exact fin rfl
theorem chk206:chkFn Tryz.f206=true:=by kernel_rfl
theorem every206 (l:List Gt) (t:Bool) (f:FuncId) (first cap:List D) (p:Gt->Bool) (hn:l.length<=1000) (hf:∀ q,q∈l->PC Pr G f (first++[q.d]++cap) (.bool (p q))):PC Pr G 206 [gatesD l t,.fn f first cap] (.bool (l.all p)):=by
 have hi:=has116 (G:=G) l t 253 [] [.rop [.fn f first cap] 0] (fun q=>!p q) hn fun q hq=>ev253 q f first cap (p q) (hf q hq)
 refine pc_walk pok Tryz.func206 chk206 ?_
 conv=>whnf
 have e:l.all p = !l.any (fun q=>!p q):=by
  rw [List.all_eq_not_any_not]
 rw [e]
 repeat' first|(refine pc_lendcB hi rfl ?_)|(intro t ht;cases t <;> conv=>whnf)
 all_goals rw [ht];exact fin rfl
theorem chk256:chkFn Tryz.f256=true:=by kernel_rfl
theorem idx256 (l:List Int) (t:Bool) (f:FuncId) (first cap:List D) (p:Int->Bool) (hn:l.length<=1000) (hf:∀ q,q∈l->PC Pr G f (first++[iD q]++cap) (.bool (p q))):PC Pr G 256 [intsD l t,.fn f first cap] (iD (idxI p l)):=by
 refine pc_walk pok Tryz.func256 chk256 ?_
 conv=>whnf
 skip
 refine for_use pok (fun i=>⟨[(0,.d (intsD l t)),(1,.d (.fn f first cap)),(7,.d (iD (l.map fun k=>[iD k]).length)),(8,.d (iD i))],[],0⟩) (l.length) (fun i=>∀ q,q∈l.take i->p q=false) (by simp) ?_ (by kernel_rfl) ?_ ?_
 ·refine keep_env (by first|exact Nat.zero_le _|exact Nat.le_of_ble_eq_true rfl) ?_ ?_ trivial
  ·repeat' first|exact trivial|refine ⟨⟨by first|rfl|assumption,rfl⟩,?_⟩
  ·repeat' first|exact trivial|refine ⟨⟨ltB rfl,_,rfl,by first|rfl|assumption,by first|exact below1 rfl|exact below_dblk _ _ _|exact below_arr rfl⟩,?_⟩
 ·intro i A_i h_i I_i N_i
  have e_i:iadd .i64 (i:Int) 1=((i+1:Nat):Int):=iadd_nat (by first|omega|(simp at *;omega))
  have hq:=hf l[i] (List.getElem_mem h_i)
  conv=>whnf
  repeat' first|((first|refine LookP.mk _ (by first|rfl|exact get_i h_i) ?_|refine And.intro (by first|assumption|exact ⟨by kernel_rfl,rfl⟩|decide|omega) ?_|rw [forceL_eq]|refine pc_use3B hq rfl ?_);conv=>whnf)|(intro t ht;cases t <;> conv=>whnf)
  ·exfalso;simp at ht;omega
  ·refine N_i _ ?_ ?_
   ·exact take_none h_i ht I_i
   ·refine keep_env (by first|exact Nat.zero_le _|exact Nat.le_of_ble_eq_true rfl) ?_ ?_ trivial
    ·repeat' first|exact trivial|refine ⟨⟨by first|rfl|assumption|exact congrArg (fun n=>AV.d (iD n)) e_i,rfl⟩,?_⟩
    ·repeat' first|exact trivial|refine ⟨⟨ltB rfl,_,rfl,by first|rfl|assumption,by first|exact below1 rfl|exact below_dblk _ _ _|exact below_arr rfl⟩,?_⟩
  ·refine fin ?_
   rw [idxI_some h_i ht I_i]
 ·intro A_last I_last
  conv=>whnf
  repeat' first|((first|refine And.intro (by first|assumption|exact ⟨by kernel_rfl,rfl⟩|decide|omega) ?_|fail);conv=>whnf)|(intro t ht;cases t <;> conv=>whnf)
  ·rw [List.take_length] at I_last
   rw [idxI_none I_last];exact fin rfl
  ·exfalso;simp at ht
theorem chk209:chkFn Tryz.f209=true:=by kernel_rfl
theorem has209 (l:List Int) (t:Bool) (f:FuncId) (first cap:List D) (p:Int->Bool) (hn:l.length<=1000) (hf:∀ q,q∈l->PC Pr G f (first++[iD q]++cap) (.bool (p q))):PC Pr G 209 [intsD l t,.fn f first cap] (.bool (l.any p)):=by
 have hi:=idx256 l t f first cap p hn hf
 rw [<- idxI_ge]
 generalize idxI p l=i at hi ⊢
 refine pc_walk pok Tryz.func209 chk209 ?_
 conv=>whnf
 repeat' first|(refine pc_use hi ?_;conv=>whnf)|(intro t ht;cases t <;> conv=>whnf)
 all_goals rw [ht];exact fin rfl
theorem chk272:chkFn Tryz.f272=true:=by kernel_rfl
theorem ev272 (q:Int) (f:FuncId) (first cap:List D) (b:Bool) (hf:PC Pr G f (first++[iD q]++cap) (.bool b)):PC Pr G 272 [iD q,.rop [.fn f first cap] 0] (.bool (!b)):=by
 refine pc_walk pok Tryz.func272 chk272 ?_
 conv=>whnf
 repeat' first|((first|rw [forceL_eq]|refine pc_use3B hf rfl ?_);conv=>whnf)|(intro t ht;cases t <;> conv=>whnf)
 all_goals rw [ht];exact fin rfl
theorem chk255:chkFn Tryz.f255=true:=by kernel_rfl
theorem every255 (l:List Int) (t:Bool) (f:FuncId) (first cap:List D) (p:Int->Bool) (hn:l.length<=1000) (hf:∀ q,q∈l->PC Pr G f (first++[iD q]++cap) (.bool (p q))):PC Pr G 255 [intsD l t,.fn f first cap] (.bool (l.all p)):=by
 have hi:=has209 (G:=G) l t 272 [] [.rop [.fn f first cap] 0] (fun q=>!p q) hn fun q hq=>ev272 q f first cap (p q) (hf q hq)
 refine pc_walk pok Tryz.func255 chk255 ?_
 conv=>whnf
 have e:l.all p = !l.any (fun q=>!p q):=by
  rw [List.all_eq_not_any_not]
 rw [e]
 repeat' first|(refine pc_lendcB hi rfl ?_)|(intro t ht;cases t <;> conv=>whnf)
 all_goals rw [ht];exact fin rfl
end Go.Tz
namespace Go.Tz
open Go Go.AL Go.Proofs
variable {G:Nat->Option (List D)}
theorem fiI {a b:Int} (h:a=b):AV.d (.int .i64 a)=AV.d (iD b):=by rw [h]
theorem fiB {a b:Bool} (h:a=b):AV.d (.bool a)=AV.d (.bool b):=by rw [h]
def arI (k:Int):Int:=if (1<=k/\k<=8)\/k=13\/k=14 then 1 else if 9<=k/\k<=11 then 2 else if k=12 then 3 else 0
theorem ari1 {k:Int} (h:(1<=k/\k<=8)\/k=13\/k=14):arI k=1:=by unfold arI;rw [if_pos h]
theorem ari2 {k:Int} (h:9<=k/\k<=11):arI k=2:=by unfold arI;rw [if_neg (by omega),if_pos h]
theorem ari3 {k:Int} (h:k=12):arI k=3:=by unfold arI;rw [if_neg (by omega),if_neg (by omega),if_pos h]
theorem ari0 {k:Int} (h:k<1\/k>14):arI k=0:=by unfold arI;rw [if_neg (by omega),if_neg (by omega),if_neg (by omega)]
theorem chk159:chkFn Tryz.f159=true:=by kernel_rfl
theorem ar159 (k:Int):PC Pr G 159 [iD k] (iD (arI k)):=by
 refine pc_walk pok Tryz.func159 chk159 ?_
 conv=>whnf
 repeat' first|(intro t ht;cases t <;> conv=>whnf)
 all_goals refine fin ?_
 all_goals refine fiI ?_
 all_goals simp at *
 all_goals first|exact (ari1 (by omega)).symm|exact (ari2 (by omega)).symm|exact (ari3 (by omega)).symm|exact (ari0 (by omega)).symm
def dupAt (ws:List Int) (i:Nat):Bool:=match ws[i]? with
 | some n=>decide (n∈ws.take i)
 | none=>false
def dupB (ws:List Int):Bool:=(List.range ws.length).any (dupAt ws)
theorem dupAt_lt {ws:List Int} {i:Nat} (h:i<ws.length):dupAt ws i=decide (ws[i]∈ws.take i):=by
 unfold dupAt;rw [List.getElem?_eq_getElem h]
theorem dupB_of {ws:List Int} {i:Nat} (h:i<ws.length) (h1:dupAt ws i=true):dupB ws=true:=List.any_eq_true.2 ⟨i,List.mem_range.2 h,h1⟩
theorem dupB_no {ws:List Int} (h:∀ j,j<ws.length->dupAt ws j=false):dupB ws=false:=List.any_eq_false.2 fun j hj=>by rw [h j (List.mem_range.1 hj)];simp
def outB (w:Int) (ws:List Int):Bool:=ws.any fun n=>decide (n<0\/n>=w)
def bitE (g:Gt) (bits:Int):Int:=if g.i<0\/g.i>bits\/(g.k=13/\(g.b<0\/g.b>=bits)) then 1 else if ((g.k=13\/g.k=14)/\g.i≠0)\/(g.k≠13/\g.b≠0) then 7 else 0
def gchk (g:Gt) (w bits:Int):Int:=if arI g.k=0 then 3 else if (g.ws.length:Int)≠arI g.k then 2 else if outB w g.ws=true then 1 else if dupB g.ws=true then 5 else bitE g bits
theorem chk254:chkFn Tryz.f254=true:=by kernel_rfl
theorem wire254 (n w b:Int) (gd:D):PC Pr G 254 [iD n,.rop [iD w,iD b,gd,.nilf] 0] (.bool (!decide (n<0\/n>=w))):=by
 refine pc_walk pok Tryz.func254 chk254 ?_
 conv=>whnf
 repeat' first|(intro t ht;cases t <;> conv=>whnf)
 all_goals refine fin ?_
 all_goals refine fiB ?_
 all_goals simp at *
 all_goals omega
theorem bitE1 {g:Gt} {bits:Int} (h:g.i<0\/g.i>bits\/(g.k=13/\(g.b<0\/g.b>=bits))):bitE g bits=1:=by unfold bitE;rw [if_pos h]
theorem bitE7 {g:Gt} {bits:Int} (h:¬ (g.i<0\/g.i>bits\/(g.k=13/\(g.b<0\/g.b>=bits)))) (h2:((g.k=13\/g.k=14)/\g.i≠0)\/(g.k≠13/\g.b≠0)):bitE g bits=7:=by unfold bitE;rw [if_neg h,if_pos h2]
theorem bitE0 {g:Gt} {bits:Int} (h:¬ (g.i<0\/g.i>bits\/(g.k=13/\(g.b<0\/g.b>=bits)))) (h2:¬ (((g.k=13\/g.k=14)/\g.i≠0)\/(g.k≠13/\g.b≠0))):bitE g bits=0:=by unfold bitE;rw [if_neg h,if_neg h2]
theorem ar_le {k:Int} (h:arI k≠0):k<=14:=by
 refine Classical.byContradiction fun hn=>h (ari0 (by omega))
end Go.Tz
namespace Go.Tz
open Go Go.AL Go.Proofs
variable {G:Nat->Option (List D)}
theorem all_out (w:Int) (ws:List Int):(ws.all fun n=>!decide (n<0\/n>=w)) = !outB w ws:=by
 unfold outB;rw [List.not_any_eq_all_not]
theorem chk207:chkFn Tryz.f207=true:=by kernel_rfl
theorem gate207 (g:Gt) (w bits:Int) (gd:D) (hn:g.ws.length<=1000):PC Pr G 207 [.agg [iD w,iD bits,gd,.nilf],g.d] (iD (gchk g w bits)):=by
 obtain ⟨k,ws,u,b,f⟩:=g
 have hn:ws.length<=1000:=hn
 have h159:=ar159 (G:=G) k
 have hev:=every255 (G:=G) ws u 254 [] [.rop [iD w,iD bits,gd,.nilf] 0] (fun n=>!decide (n<0\/n>=w)) hn fun n _=>wire254 n w bits gd
 rw [all_out] at hev
 refine pc_walk pok Tryz.func207 chk207 ?_
 conv=>whnf
 repeat' first|((first|refine LookP.mk _ rfl ?_|refine pc_use h159 ?_|refine pc_head h159 ?_);conv=>whnf)|(refine pc_lendcB hev rfl ?_)|(refine HpP.force ?_;conv=>whnf)|(intro t ht;cases t <;> conv=>whnf)
 ·refine fin ?_
  rename_i hA hL
  have hA:arI k≠0:=by simpa using hA
  have hL:(ws.length:Int)=arI k:=by simpa using hL
  have:gchk ⟨k,ws,u,b,f⟩ w bits=1:=by unfold gchk;rw [if_neg hA,if_neg (by simpa using hL),if_pos (by simpa using ht)]
  rw [this]
 ·rename_i hA hL
  have hA:arI k≠0:=by simpa using hA
  have hL:(ws.length:Int)=arI k:=by simpa using hL
  have hO:outB w ws=false:=by simpa using ht
  refine for_use pok (fun i=>⟨[(2,.ptr 0 4 0 0),(3,.ptr 1 4 0 0),(30,.d (intsD ws u)),(31,.d (iD (ws.map fun k=>[iD k]).length)),(32,.d (iD i))],[(0,some (.arr 4 [[.d (iD w),.d (iD bits),.d gd,.d .nilf]])),(1,some (.arr 4 [[.d (iD k),.d (intsD ws u),.d (iD b),.d (iD f)]]))],2⟩) (ws.length) (fun i=>∀ j,j<i->dupAt ws j=false) (by omega) ?_ (by kernel_rfl) ?_ ?_
  ·refine keep_env (by first|exact Nat.zero_le _|exact Nat.le_of_ble_eq_true rfl) ?_ ?_ trivial
   ·repeat' first|exact trivial|refine ⟨⟨by first|rfl|assumption,rfl⟩,?_⟩
   ·repeat' first|exact trivial|refine ⟨⟨ltB rfl,_,rfl,by first|rfl|assumption,by first|exact below1 rfl|exact below_dblk _ _ _|exact below_arr rfl⟩,?_⟩
  ·intro i A_i h_i I_i N_i
   have e_i:iadd .i64 (i:Int) 1=((i+1:Nat):Int):=iadd_nat (by first|omega|(simp at *;omega))
   have hm:∀ t,PC Pr G 25 [.sl (List.take ((i:Int).toNat-0) (List.drop 0 (ws.map fun k=>[iD k]))) t,iD ws[i]] (.bool (dupAt ws i)):=by
    intro t
    rw [Nat.sub_zero,List.drop_zero,Int.toNat_natCast,<- List.map_take,dupAt_lt h_i]
    exact has25 (G:=G) (ws.take i) t ws[i] (by simp;omega)
   conv=>whnf
   repeat (refine LookP.mk _ rfl ?_;conv=>whnf)
   intro t ht
   cases t
   ·exfalso;first|(simp at ht;done)|(simp at ht;omega)
   conv=>whnf
   repeat' first|((first|refine LookP.mk _ (by first|rfl|exact get_i h_i) ?_|refine And.intro (by first|exact ⟨Nat.zero_le _,by simp;omega,by simp⟩|assumption|exact ⟨by kernel_rfl,rfl⟩|decide|omega) ?_|fail);conv=>whnf)|(refine pc_useB ((hm _)) ?_)|(intro t ht;cases t <;> conv=>whnf)
   ·refine N_i _ ?_ ?_
    ·(intro j hj;rcases Nat.lt_or_ge j i with q|q;exact I_i j q;rw [show j=i by omega];exact ht)
    ·refine keep_env (by first|exact Nat.zero_le _|exact Nat.le_of_ble_eq_true rfl) ?_ ?_ trivial
     ·repeat' first|exact trivial|refine ⟨⟨by first|rfl|assumption|exact congrArg (fun n=>AV.d (iD n)) e_i,rfl⟩,?_⟩
     ·repeat' first|exact trivial|refine ⟨⟨ltB rfl,_,rfl,by first|rfl|assumption,by first|exact below1 rfl|exact below_dblk _ _ _|exact below_arr rfl⟩,?_⟩
   ·refine fin ?_
    have:gchk ⟨k,ws,u,b,f⟩ w bits=5:=by unfold gchk;rw [if_neg hA,if_neg (by simpa using hL),if_neg (by rw [hO];simp),if_pos (dupB_of h_i ht)]
    rw [this]
  ·intro A_last I_last
   have hD:=dupB_no I_last
   have hg:gchk ⟨k,ws,u,b,f⟩ w bits=bitE ⟨k,ws,u,b,f⟩ bits:=by unfold gchk;rw [if_neg hA,if_neg (by simpa using hL),if_neg (by rw [hO];simp),if_neg (by rw [hD];simp)]
   rw [hg]
   have hk:=ar_le hA
   conv=>whnf
   repeat (refine LookP.mk _ rfl ?_;conv=>whnf)
   intro t ht
   cases t
   rotate_left
   ·exfalso;first|(simp at ht;done)|(simp at ht;omega)
   conv=>whnf
   repeat' first|(refine LookP.mk _ rfl ?_;conv=>whnf)|(intro t ht;cases t <;> conv=>whnf)
   all_goals refine fin ?_
   all_goals refine fiI ?_
   all_goals simp at *
   all_goals first|exact (bitE1 (by dsimp only;omega)).symm|exact (bitE7 (by dsimp only;omega) (by dsimp only;omega)).symm|exact (bitE0 (by dsimp only;omega) (by dsimp only;omega)).symm
 ·refine fin ?_
  rename_i hA
  have hA:arI k≠0:=by simpa using hA
  have:gchk ⟨k,ws,u,b,f⟩ w bits=2:=by unfold gchk;rw [if_neg hA,if_pos (by simpa using ht)]
  rw [this]
 ·refine fin ?_
  have:gchk ⟨k,ws,u,b,f⟩ w bits=3:=by unfold gchk;rw [if_pos (by simpa using ht)]
  rw [this]
theorem find_atG {α:Type} {l:List α} {p:α->Bool} {i:Nat} (h:i<l.length) (hz:∀ q,q∈l.take i->p q=false) (hp:p l[i]=true):l.find? p=some l[i]:=by
 rw [List.find?_eq_some_iff_getElem]
 refine ⟨hp,i,h,rfl,fun j hj=>?_⟩
 rw [hz _ (List.mem_take_iff_getElem.2 ⟨j,by omega,rfl⟩)];rfl
def cchk (w bits:Int) (l:List Gt):Int:=if w<1\/w>12\/bits<0\/bits>8 then 3 else if l.length>120 then 2 else match l.find? (fun g=>decide (gchk g w bits≠0)) with
 | some g=>gchk g w bits
 | none=>0
theorem cchk3 {w bits:Int} {l:List Gt} (h:w<1\/w>12\/bits<0\/bits>8):cchk w bits l=3:=by unfold cchk;rw [if_pos h]
theorem cchk2 {w bits:Int} {l:List Gt} (h:¬ (w<1\/w>12\/bits<0\/bits>8)) (h2:l.length>120):cchk w bits l=2:=by unfold cchk;rw [if_neg h,if_pos h2]
theorem cchk_at {w bits:Int} {l:List Gt} (h:¬ (w<1\/w>12\/bits<0\/bits>8)) (h2:¬ l.length>120) {i:Nat} (hi:i<l.length) (h3:∀ g,g∈l.take i->gchk g w bits=0) (h4:gchk l[i] w bits≠0):cchk w bits l=gchk l[i] w bits:=by
 unfold cchk
 rw [if_neg h,if_neg h2,find_atG (p:=fun g=>decide (gchk g w bits≠0)) hi (fun q hq=>by simp [h3 q hq]) (by simpa using h4)]
theorem cchk0 {w bits:Int} {l:List Gt} (h:¬ (w<1\/w>12\/bits<0\/bits>8)) (h2:¬ l.length>120) (h3:∀ g,g∈l->gchk g w bits=0):cchk w bits l=0:=by
 unfold cchk
 rw [if_neg h,if_neg h2,List.find?_eq_none.2 (by intro q hq;simp [h3 q hq])]
theorem cchk_ok {w bits:Int} {l:List Gt} (h:cchk w bits l=0):(1<=w/\w<=12)/\(0<=bits/\bits<=8)/\l.length<=120 /\ ∀ g,g∈l->gchk g w bits=0:=by
 by_cases h1:w<1\/w>12\/bits<0\/bits>8
 ·rw [cchk3 h1] at h;cases h
 ·by_cases h2:l.length>120
  ·rw [cchk2 h1 h2] at h;cases h
  ·refine ⟨by omega,by omega,by omega,fun g hg=>?_⟩
   unfold cchk at h
   rw [if_neg h1,if_neg h2] at h
   cases e:l.find? (fun g=>decide (gchk g w bits≠0)) with
   | none =>
    have:=List.find?_eq_none.1 e g hg
    simpa using this
   | some x =>
    have h5:=List.find?_some e
    rw [e] at h
    simp only [ne_eq,decide_not,Bool.not_eq_eq_eq_not,Bool.not_true,decide_eq_false_iff_not] at h5
    exact absurd h h5
theorem chk129:chkFn Tryz.f129=true:=by kernel_rfl
theorem check129 (w bits:Int) (l:List Gt) (t:Bool) (hn:l.length<=1000) (hws:∀ g,g∈l->g.ws.length<=1000):PC Pr G 129 [circD w bits l t] (iD (cchk w bits l)):=by
 refine pc_walk pok Tryz.func129 chk129 ?_
 conv=>whnf
 repeat' first|(refine LookP.mk _ rfl ?_;conv=>whnf)|(intro t ht;cases t <;> conv=>whnf)
 ·have hR:¬ (w<1\/w>12\/bits<0\/bits>8):=by simp at *;omega
  have hL:¬ l.length>120:=by simp at ht;omega
  refine for_use pok (fun i=>⟨[(3,.d (.fn 207 [.agg [iD w,iD bits,gatesD l t,.nilf]] [])),(35,.d (gatesD l t)),(36,.d (iD (l.map Gt.l).length)),(37,.d (iD i))],[],0⟩) (l.length) (fun i=>∀ g,g∈l.take i->gchk g w bits=0) (by simp) ?_ (by kernel_rfl) ?_ ?_
  ·refine keep_env (by first|exact Nat.zero_le _|exact Nat.le_of_ble_eq_true rfl) ?_ ?_ trivial
   ·repeat' first|exact trivial|refine ⟨⟨by first|rfl|assumption,rfl⟩,?_⟩
   ·repeat' first|exact trivial|refine ⟨⟨ltB rfl,_,rfl,by first|rfl|assumption,by first|exact below1 rfl|exact below_dblk _ _ _|exact below_arr rfl⟩,?_⟩
  ·intro i A_i h_i I_i N_i
   have e_i:iadd .i64 (i:Int) 1=((i+1:Nat):Int):=iadd_nat (by first|omega|(simp at *;omega))
   have hc:=gate207 (G:=G) l[i] w bits (gatesD l t) (hws _ (List.getElem_mem h_i))
   have hst:gchk l[i] w bits=0->∀ g,g∈l.take (i+1)->gchk g w bits=0:=fun h g hg=>by
    rw [take_snoc h_i,List.mem_append,List.mem_singleton] at hg
    rcases hg with q|q
    ·exact I_i g q
    ·rw [q];exact h
   have hat:=cchk_at hR hL h_i I_i
   generalize gchk l[i] w bits=e at hc hst hat
   conv=>whnf
   repeat (refine LookP.mk _ rfl ?_;conv=>whnf)
   intro t ht
   cases t
   ·exfalso;first|(simp at ht;done)|(simp at ht;omega)
   conv=>whnf
   repeat' first|((first|refine LookP.mk _ (by first|rfl|exact get_g h_i) ?_|refine ShlP.mk _ (by first|(simp only [List.set,over,List.take,List.drop,List.append_eq,List.nil_append,List.cons_append,List.length];rfl)|rfl) ?_|refine And.intro (by first|assumption|exact ⟨by kernel_rfl,rfl⟩|decide|omega) ?_|refine pc_use hc ?_|refine HpP.force ?_);conv=>whnf)|(intro t ht;cases t <;> conv=>whnf)
   ·refine N_i _ ?_ ?_
    ·exact hst (by simpa using ht)
    ·refine keep_env (by first|exact Nat.zero_le _|exact Nat.le_of_ble_eq_true rfl) ?_ ?_ trivial
     ·repeat' first|exact trivial|refine ⟨⟨by first|rfl|assumption|exact congrArg (fun n=>AV.d (iD n)) e_i,rfl⟩,?_⟩
     ·repeat' first|exact trivial|refine ⟨⟨ltB rfl,_,rfl,by first|rfl|assumption,by first|exact below1 rfl|exact below_dblk _ _ _|exact below_arr rfl⟩,?_⟩
   ·refine fin ?_
    rw [hat (by simpa using ht)]
  ·intro A_last I_last
   rw [List.take_length] at I_last
   conv=>whnf
   repeat (refine LookP.mk _ rfl ?_;conv=>whnf)
   intro t ht
   cases t
   rotate_left
   ·exfalso;first|(simp at ht;done)|(simp at ht;omega)
   conv=>whnf
   skip
   refine fin ?_
   rw [cchk0 hR hL I_last]
 all_goals refine fin ?_
 all_goals refine fiI ?_
 all_goals simp at *
 all_goals first|exact (cchk3 (by omega)).symm|exact (cchk2 (by omega) (by omega)).symm
end Go.Tz
namespace Go.Tz
open Go Go.AL Go.Proofs Go.Ma
variable {G:Nat->Option (List D)}
def Gt.own (g:Gt):Gt:={ g with u:=false }
theorem asD_agg3 {H:AHeap} {v1 v2 v3:AV} {d1 d2 d3:D} (h1:AsD H v1 d1) (h2:AsD H v2 d2) (h3:AsD H v3 d3):AsD H (.agg [v1,v2,v3]) (.agg [d1,d2,d3]):=by
 refine .agg _ _ rfl fun j v d hv hd=>?_
 match j,hv,hd with
 | 0,hv,hd=>simp at hv hd;subst hv hd;exact h1
 | 1,hv,hd=>simp at hv hd;subst hv hd;exact h2
 | 2,hv,hd=>simp at hv hd;subst hv hd;exact h3
 | j+3,hv,_=>simp at hv
end Go.Tz
namespace Go.Tz
open Go Go.AL Go.Proofs Go.Ma
variable {G:Nat->Option (List D)}
def minS (q:Ps):Ps:=⟨q.w,q.x,q.z,(iadd .i64 q.p 2).tmod 4⟩
theorem chk258:chkFn Tryz.f258=true:=by kernel_rfl
theorem minus258 (q:Ps):PC Pr G 258 [q.d] (minS q).d:=by
 refine pc_walk pok Tryz.func258 chk258 ?_
 conv=>whnf
 repeat' first|((first|refine LookP.mk _ rfl ?_|refine ShlP.mk _ (by first|(simp only [List.set,over,List.take,List.drop,List.append_eq,List.nil_append,List.cons_append,List.length];rfl)|rfl) ?_|refine And.intro (by first|assumption|exact ⟨by kernel_rfl,rfl⟩|decide|omega) ?_|refine HpP.force ?_);conv=>whnf)
 exact fin rfl
theorem chk214:chkFn Tryz.f214=true:=by kernel_rfl
def im1 (w a k:Nat):Ps × Ps:=match k with
 | 1=>(oneS w a 1,minS (oneS w a 3))
 | 2=>(minS (oneS w a 1),minS (oneS w a 3))
 | 3=>(minS (oneS w a 1),oneS w a 3)
 | 4=>(oneS w a 3,oneS w a 1)
 | 5=>(oneS w a 2,oneS w a 3)
 | _=>(minS (oneS w a 2),oneS w a 3)
def im2 (w n c k:Nat) (z:Bool):Ps × Ps:=match k with
 | 9=>match z with
  | true=>(timS (oneS w n 1) (oneS w c 1),oneS w n 3)
  | false=>(oneS w n 1,timS (oneS w c 3) (oneS w n 3))
 | 10=>(timS (oneS w n 1) (oneS w c 3),oneS w n 3)
 | _=>(oneS w c 1,oneS w c 3)
theorem one_w (w n l:Int):(oneS w n l).w=w:=rfl
theorem beqT1 {α:Type} [BEq α] [ReflBEq α] {a:α} {k:Bool->Prop} (h:k true):∀ t,(a==a)=t->k t:=fun t e=>by
 have e2:true=t:=(beq_self_eq_true a).symm.trans e
 exact e2 ▸ h
theorem beqF1 {a b:Int} {k:Bool->Prop} (hne:decide (a=b)=false) (h:k false):∀ t,(a==b)=t->k t:=fun t e=>by
 have hne:a≠b:=of_decide_eq_false hne
 have e2:false=t:=(beq_false_of_ne hne).symm.trans e
 exact e2 ▸ h
theorem images1 {w a k:Nat} {K:Int} (hK:K=k) (h1:1<=k) (h2:k<=6) (u:Bool) (b i:Int):PC Pr G 214 [iD w,(Gt.mk K [(a:Int)] u b i).d,iD 0] (.tup [(im1 w a k).1.d,(im1 w a k).2.d]):=by
 have g1:=one212 (G:=G) w a 1 (Int.natCast_nonneg _)
 have g2:=one212 (G:=G) w a 2 (Int.natCast_nonneg _)
 have g3:=one212 (G:=G) w a 3 (Int.natCast_nonneg _)
 have hk:k=1\/k=2\/k=3\/k=4\/k=5\/k=6:=by omega
 rcases hk with rfl|rfl|rfl|rfl|rfl|rfl
 all_goals first|obtain rfl:K=1:=hK|obtain rfl:K=2:=hK|obtain rfl:K=3:=hK|obtain rfl:K=4:=hK|obtain rfl:K=5:=hK|obtain rfl:K=6:=hK
 all_goals
  simp only [im1]
  generalize oneS w a 1=q1 at g1 ⊢
  generalize oneS w a 2=q2 at g2 ⊢
  generalize oneS w a 3=q3 at g3 ⊢
  have m1:=minus258 (G:=G) q1
  have m2:=minus258 (G:=G) q2
  have m3:=minus258 (G:=G) q3
  refine pc_walk pok Tryz.func214 chk214 ?_
  conv=>whnf
  repeat' first|((first|refine LookP.mk _ rfl ?_|refine ShlP.mk _ (by first|(simp only [List.set,over,List.take,List.drop,List.append_eq,List.nil_append,List.cons_append,List.length];rfl)|rfl) ?_|refine And.intro (by first|exact of_decide_eq_true (by kernel_rfl)|assumption|exact ⟨by kernel_rfl,rfl⟩|decide|omega) ?_|refine beqT1 ?_|refine beqF1 rfl ?_|refine pc_use g1 ?_|refine pc_use g2 ?_|refine pc_use g3 ?_|refine pc_head m1 ?_|refine pc_head m2 ?_|refine pc_head m3 ?_|refine HpP.force ?_);conv=>whnf)
  all_goals first|(exfalso;simp at ht;done)|exact fin rfl
theorem images2 {w n c k:Nat} (hw:1<=w/\w<=12) {K:Int} (hK:K=k) (h1:9<=k) (h2:k<=11) (z:Bool) (u:Bool) (b i:Int):PC Pr G 214 [iD w,(Gt.mk K [if z then (n:Int) else c,if z then (c:Int) else n] u b i).d,iD (if z then 0 else 1)] (.tup [(im2 w n c k z).1.d,(im2 w n c k z).2.d]):=by
 have g1:=one212 (G:=G) w n 1 (Int.natCast_nonneg _)
 have g2:=one212 (G:=G) w n 2 (Int.natCast_nonneg _)
 have g3:=one212 (G:=G) w n 3 (Int.natCast_nonneg _)
 have c1:=one212 (G:=G) w c 1 (Int.natCast_nonneg _)
 have c3:=one212 (G:=G) w c 3 (Int.natCast_nonneg _)
 have w1:=one_w w n 1
 have w2:=one_w w c 3
 have hk:k=9\/k=10\/k=11:=by omega
 rcases hk with rfl|rfl|rfl
 all_goals first|obtain rfl:K=9:=hK|obtain rfl:K=10:=hK|obtain rfl:K=11:=hK
 all_goals cases z
 all_goals
  simp only [im2]
  generalize oneS w n 1=q1 at g1 w1 ⊢
  generalize oneS w n 2=q2 at g2 ⊢
  generalize oneS w n 3=q3 at g3 ⊢
  generalize oneS w c 1=r1 at c1 ⊢
  generalize oneS w c 3=r3 at c3 w2 ⊢
  refine pc_walk pok Tryz.func214 chk214 ?_
  conv=>whnf
  repeat' first|((first|refine LookP.mk _ rfl ?_|refine ShlP.mk _ (by first|(simp only [List.set,over,List.take,List.drop,List.append_eq,List.nil_append,List.cons_append,List.length];rfl)|rfl) ?_|refine And.intro (by first|exact of_decide_eq_true (by kernel_rfl)|assumption|exact ⟨by kernel_rfl,rfl⟩|decide|omega) ?_|refine beqT1 ?_|refine beqF1 rfl ?_|refine pc_use g1 ?_|refine pc_use g2 ?_|refine pc_use g3 ?_|refine pc_use c1 ?_|refine pc_head c1 ?_|refine pc_use c3 ?_|refine pc_head c3 ?_|refine pc_head (tim142 q1 [r1] true ⟨by omega,by omega⟩ (by simp)) ?_|refine pc_head (tim142 q1 [r3] true ⟨by omega,by omega⟩ (by simp)) ?_|refine pc_head (tim142 r3 [q3] true ⟨by omega,by omega⟩ (by simp)) ?_|refine HpP.force ?_);conv=>whnf)
  all_goals first|(exfalso;simp at ht;done)|exact fin rfl|skip
end Go.Tz
namespace Go.Tz
open Go Go.AL Go.Proofs Go.Ma
variable {G:Nat->Option (List D)}
def addP (c:Int) (q:Ps):Ps:=⟨q.w,q.x,q.z,(iadd .i64 q.p c).tmod 4⟩
theorem addP_nf {w:Nat} {q:Ps} (c:Nat) (hc:c<=100) (h:Vl w q):nf (addP c q)=esh c (nf q)/\Vl w (addP c q):=by
 obtain ⟨X,Z,P,rfl,h1,h2,h3⟩:=h
 have e:addP c (mk w X Z P)=mk w X Z ((P+c) % 4):=by
  unfold addP mk
  dsimp only
  rw [iadd_nat (by omega)]
  rfl
 rw [e]
 refine ⟨?_,⟨X,Z,_,rfl,h1,h2,Nat.mod_lt _ (by decide)⟩⟩
 rw [nf_mk,nf_mk]
 refine e_ext ?_ rfl
 simp only [esh];omega
theorem min_nf {w:Nat} {q:Ps} (h:Vl w q):nf (minS q)=esh 2 (nf q)/\Vl w (minS q):=addP_nf 2 (by decide) h
theorem tim_nf {w:Nat} (hw:w<=12) {q r:Ps} (hq:Vl w q) (hr:Vl w r):nf (timS q r)=emul (nf q) (nf r)/\Vl w (timS q r):=by
 rw [tim_mul hw hq hr]
 exact ⟨nf_mul hw hq hr,mul_vl hw hq hr⟩
theorem one_nf1 {w n:Nat} (hw:w<=12) (hn:n<w):nf (oneS w n 1)=eL n true false/\Vl w (oneS w n 1):=⟨nf_letter (l:=1) (by omega) (by decide),one_vl (l:=1) hn hw⟩
theorem one_nf2 {w n:Nat} (hw:w<=12) (hn:n<w):nf (oneS w n 2)=eL n true true/\Vl w (oneS w n 2):=⟨nf_letter (l:=2) (by omega) (by decide),one_vl (l:=2) hn hw⟩
theorem one_nf3 {w n:Nat} (hw:w<=12) (hn:n<w):nf (oneS w n 3)=eL n false true/\Vl w (oneS w n 3):=⟨nf_letter (l:=3) (by omega) (by decide),one_vl (l:=3) hn hw⟩
theorem im1_nf {w a k b:Nat} (hw:w<=12) (h1:1<=k) (h2:k<=6) (ha:a<w):(nf (im1 w a k).1=gE k a b (eL a true false)/\Vl w (im1 w a k).1)/\nf (im1 w a k).2=gE k a b (eL a false true)/\Vl w (im1 w a k).2:=by
 have hk:k=1\/k=2\/k=3\/k=4\/k=5\/k=6:=by omega
 obtain ⟨a1,a2⟩:=one_nf1 hw ha
 obtain ⟨b1,b2⟩:=one_nf2 hw ha
 obtain ⟨c1,c2⟩:=one_nf3 hw ha
 obtain ⟨d1,d2⟩:=min_nf a2
 obtain ⟨e1,e2⟩:=min_nf b2
 obtain ⟨f1,f2⟩:=min_nf c2
 have h0:∀ x z,esh 0 (eL a x z)=eL a x z:=fun x z=>esh_4 rfl (eL_lt _ _ _)
 rw [gE_tab1 h1 h2 (by omega),gE_tab1 h1 h2 (by omega)]
 rcases hk with rfl|rfl|rfl|rfl|rfl|rfl
 ·exact ⟨⟨a1.trans (h0 _ _).symm,a2⟩,f1.trans (by rw [c1];rfl),f2⟩
 ·exact ⟨⟨d1.trans (by rw [a1];rfl),d2⟩,f1.trans (by rw [c1];rfl),f2⟩
 ·exact ⟨⟨d1.trans (by rw [a1];rfl),d2⟩,c1.trans (h0 _ _).symm,c2⟩
 ·exact ⟨⟨c1.trans (h0 _ _).symm,c2⟩,a1.trans (h0 _ _).symm,a2⟩
 ·exact ⟨⟨b1.trans (h0 _ _).symm,b2⟩,c1.trans (h0 _ _).symm,c2⟩
 ·exact ⟨⟨e1.trans (by rw [b1];rfl),e2⟩,c1.trans (h0 _ _).symm,c2⟩
theorem im2_nf {w a b k:Nat} (hw:w<=12) (h1:9<=k) (h2:k<=11) (ha:a<w) (hb:b<w) (hab:a≠b) :
  ((nf (im2 w a b k true).1=gE k a b (eL a true false)/\Vl w (im2 w a b k true).1)/\nf (im2 w a b k true).2=gE k a b (eL a false true)/\Vl w (im2 w a b k true).2) ∧
  (nf (im2 w b a k false).1=gE k a b (eL b true false)/\Vl w (im2 w b a k false).1)/\nf (im2 w b a k false).2=gE k a b (eL b false true)/\Vl w (im2 w b a k false).2:=by
 have hk:k=9\/k=10\/k=11:=by omega
 obtain ⟨a1,a2⟩:=one_nf1 hw ha
 obtain ⟨c1,c2⟩:=one_nf3 hw ha
 obtain ⟨a1',a2'⟩:=one_nf1 hw hb
 obtain ⟨c1',c2'⟩:=one_nf3 hw hb
 obtain ⟨t1,t2,t3,t4,t5,t6,t7,t8,t9,t10,t11,t12⟩:=gE_tab2 (a:=a) (b:=b) (by omega) (by omega) hab
 rcases hk with rfl|rfl|rfl
 ·obtain ⟨d1,d2⟩:=tim_nf hw a2 a2'
  obtain ⟨e1,e2⟩:=tim_nf hw c2 c2'
  rw [t1,t2,t3,t4]
  exact ⟨⟨⟨d1.trans (by rw [a1,a1']),d2⟩,c1,c2⟩,⟨a1',a2'⟩,e1.trans (by rw [c1,c1']),e2⟩
 ·obtain ⟨d1,d2⟩:=tim_nf hw a2 c2'
  obtain ⟨e1,e2⟩:=tim_nf hw a2' c2
  rw [t5,t6,t7,t8]
  exact ⟨⟨⟨d1.trans (by rw [a1,c1']),d2⟩,c1,c2⟩,⟨e1.trans (by rw [a1',c1]),e2⟩,c1',c2'⟩
 ·rw [t9,t10,t11,t12]
  exact ⟨⟨⟨a1',a2'⟩,c1',c2'⟩,⟨a1,a2⟩,c1,c2⟩
def wsOf (k a b:Nat):List Int:=if k<=6 then [(a:Int)] else [(a:Int),(b:Int)]
def imgS (w k a b n l:Nat):Ps:=dec w (gE k a b (eL n (decide (l=1)||decide (l=2)) (decide (l=2)||decide (l=3))))
theorem eL_hi {w n j:Nat} (hw:w<=12) (hn:n<w) (x z:Bool) (hj:(w<=j/\j<12)\/12+w<=j):(eL n x z).2.testBit j=false:=by
 simp only [eL,Nat.testBit_xor,tb_cd,Nat.testBit_two_pow]
 rw [decide_eq_false (show ¬ n=j by omega),decide_eq_false (show ¬ 12+n=j by omega)];simp
theorem img_vl {w k a b n l:Nat} (hw:w<=12) (h:gR w k a b) (hn:n<w):Vl w (imgS w k a b n l) :=
 dec_vl hw fun j hj=>gL_bits (gR_ok hw h) (w:=w) (by unfold gR at h;omega) (by unfold gR at h;omega) hj (eL_hi hw hn _ _ hj)
theorem img_eq {w k a b n l:Nat} (hw:w<=12) (h:gR w k a b) (hn:n<w) {r:Ps} (hr:Vl w r) (e:nf r=gE k a b (eL n (decide (l=1)||decide (l=2)) (decide (l=2)||decide (l=3)))):r=imgS w k a b n l :=
 nf_inj hw hr (img_vl hw h hn) (by rw [e];exact (nf_dec w (gE_lt _ _ _ _)).symm)
theorem img_by {w k a b n:Nat} (hw:w<=12) (h:gR w k a b) (hn:n<w) {px pz:Ps} (hx:nf px=gE k a b (eL n true false)/\Vl w px) (hz:nf pz=gE k a b (eL n false true)/\Vl w pz) :
  px=imgS w k a b n 1/\pz=imgS w k a b n 3/\addP 1 (timS px pz)=imgS w k a b n 2:=by
 refine ⟨img_eq hw h hn hx.2 hx.1,img_eq hw h hn hz.2 hz.1,?_⟩
 obtain ⟨t1,t2⟩:=tim_nf hw hx.2 hz.2
 obtain ⟨s1,s2⟩:=addP_nf 1 (by decide) t2
 refine img_eq hw h hn s2 (s1.trans ?_)
 rw [t1,hx.1,hz.1,<- gE_mul (gR_ok hw h),<- gE_esh]
 have:=eL_mul (n:=n) (by omega) true true
 show gE k a b _=gE k a b (eL n true true)
 rw [this];rfl
theorem img_out {w k a b n l:Nat} (hw:w<=12) (h:gR w k a b) (hn:n<w) (hl:l<=3) (hna:n≠a) (hnb:9<=k->n≠b):oneS w n l=imgS w k a b n l:=by
 refine img_eq hw h hn (one_vl hn hw) ?_
 rw [nf_letter (by omega) hl,gE_other (gR_ok hw h) (by omega) hna hnb]
theorem chk213:chkFn Tryz.f213=true:=by kernel_rfl
theorem tim142s (q r:Ps) (hw:0<=q.w/\q.w<=24):PC Pr G 142 [q.d,rowsD [r] true] (timS q r).d:=tim142 q [r] true hw (by simp)
theorem does213w {w n l:Nat} {q:Ps} {K:Int} {ws:List Int} {u:Bool} {b i:Int} {j:Int} {px pz:Ps} (hw:1<=w/\w<=12) (hq:q.w=w) (hl:l=1\/l=2\/l=3) (hws:ws.length<=1000) (hj:idxI (fun k=>decide ((n:Int)=k) ) ws=j) (hj0:0<=j) (hpx:Vl w px)
  (hi:PC Pr G 214 [iD w,(Gt.mk K ws u b i).d,iD j] (.tup [px.d,pz.d])):PC Pr G 213 [iD n,iD l,.rop (Gt.mk K ws u b i).l 0,.rop q.l 0] (if l=1 then px else if l=3 then pz else addP 1 (timS px pz)).d:=by
 obtain ⟨qw,qx,qz,qp⟩:=q
 obtain rfl:qw=w:=hq
 have h99:=idx99 (G:=G) ws u (n:Int) (by omega)
 rw [hj] at h99
 have htm:=tim142s (G:=G) px pz (by rw [vl_w hpx];omega)
 generalize timS px pz=m at htm ⊢
 rcases hl with rfl|rfl|rfl
 all_goals
  refine pc_walk pok Tryz.func213 chk213 ?_
  conv=>whnf
  repeat' first|((first|refine LookP.mk _ rfl ?_|refine ShlP.mk _ (by first|(simp only [List.set,over,List.take,List.drop,List.append_eq,List.nil_append,List.cons_append,List.length];rfl)|rfl) ?_|refine And.intro (by first|assumption|exact ⟨by kernel_rfl,rfl⟩|decide|omega) ?_|refine beqT1 ?_|refine beqF1 rfl ?_|refine pc_use h99 ?_|refine pc_use hi ?_|refine pc_givec (htm) rfl ?_|refine HpP.force ?_);conv=>whnf)|(intro t ht;cases t <;> conv=>whnf)
  all_goals first|exact fin rfl|(exfalso;simp at ht;omega)|skip
end Go.Tz
namespace Go.Tz
open Go Go.AL Go.Proofs Go.Ma
variable {G:Nat->Option (List D)}
theorem does213o {w n l:Nat} {q:Ps} {K:Int} {ws:List Int} {u:Bool} {b i:Int} (hq:q.w=w) (hws:ws.length<=1000) (hj:idxI (fun k=>decide ((n:Int)=k)) ws = -1) :
  PC Pr G 213 [iD n,iD l,.rop (Gt.mk K ws u b i).l 0,.rop q.l 0] (oneS w n l).d:=by
 obtain ⟨qw,qx,qz,qp⟩:=q
 obtain rfl:qw=w:=hq
 have h99:=idx99 (G:=G) ws u (n:Int) (by omega)
 rw [hj] at h99
 have h1:=one212 (G:=G) w n l (Int.natCast_nonneg _)
 generalize oneS w n l=m at h1 ⊢
 refine pc_walk pok Tryz.func213 chk213 ?_
 conv=>whnf
 repeat' first|((first|refine LookP.mk _ rfl ?_|refine ShlP.mk _ (by first|(simp only [List.set,over,List.take,List.drop,List.append_eq,List.nil_append,List.cons_append,List.length];rfl)|rfl) ?_|refine pc_use h99 ?_|refine pc_use h1 ?_|refine HpP.force ?_);conv=>whnf)|(intro t ht;cases t <;> conv=>whnf)
 all_goals first|exact fin rfl|(exfalso;simp at ht;done)
theorem idx_one (n a:Nat):idxI (fun k=>decide ((n:Int)=k)) [(a:Int)]=if n=a then 0 else -1:=by
 unfold idxI
 by_cases h:n=a
 ·simp [h]
 ·have:¬ (n:Int)=a:=by omega
  simp [h,this]
theorem idx_two (n a b:Nat):idxI (fun k=>decide ((n:Int)=k)) [(a:Int),(b:Int)]=if n=a then 0 else if n=b then 1 else -1:=by
 unfold idxI
 by_cases h:n=a
 ·simp [h,List.findIdx?_cons]
 ·have:¬ (n:Int)=a:=by omega
  by_cases h2:n=b
  ·simp [h2,List.findIdx?_cons] at h this ⊢
   simp [h,this]
  ·have h3:¬ (n:Int)=b:=by omega
   simp [h,h2,this,h3,List.findIdx?_cons]
theorem does213 {w k a b n l:Nat} {q:Ps} {K:Int} (hK:K=k) {u:Bool} {bb i:Int} (hw:1<=w/\w<=12) (hg:gR w k a b) (hq:q.w=w) (hn:n<w) (hl:l=1\/l=2\/l=3) :
  PC Pr G 213 [iD n,iD l,.rop (Gt.mk K (wsOf k a b) u bb i).l 0,.rop q.l 0] (imgS w k a b n l).d:=by
 have key:∀ {px pz:Ps} {ws:List Int} {j:Int},ws.length<=1000->idxI (fun k=>decide ((n:Int)=k)) ws=j->0<=j->(nf px=gE k a b (eL n true false)/\Vl w px)->(nf pz=gE k a b (eL n false true)/\Vl w pz) ->
   PC Pr G 214 [iD w,(Gt.mk K ws u bb i).d,iD j] (.tup [px.d,pz.d])->PC Pr G 213 [iD n,iD l,.rop (Gt.mk K ws u bb i).l 0,.rop q.l 0] (imgS w k a b n l).d:=by
  intro px pz ws j h1 h2 h3 h4 h5 h6
  have h:=does213w (u:=u) (b:=bb) (i:=i) hw hq hl h1 h2 h3 h4.2 h6
  obtain ⟨e1,e2,e3⟩:=img_by hw.2 hg hn h4 h5
  rcases hl with rfl|rfl|rfl
  ·rw [if_pos rfl,e1] at h;exact h
  ·rw [if_neg (by decide),if_neg (by decide),e3] at h;exact h
  ·rw [if_neg (by decide),if_pos rfl,e2] at h;exact h
 have out:∀ {ws:List Int},ws.length<=1000->idxI (fun k=>decide ((n:Int)=k)) ws = -1->n≠a->(9<=k->n≠b)->PC Pr G 213 [iD n,iD l,.rop (Gt.mk K ws u bb i).l 0,.rop q.l 0] (imgS w k a b n l).d:=by
  intro ws h1 h2 h3 h4
  have h:=does213o (G:=G) (w:=w) (n:=n) (l:=l) (K:=K) (u:=u) (b:=bb) (i:=i) hq h1 h2
  rw [img_out hw.2 hg hn (by omega) h3 h4] at h
  exact h
 rcases hg with ⟨k1,k2,ha⟩|⟨k1,k2,ha,hb,hab⟩
 ·have e:wsOf k a b=[(a:Int)]:=if_pos k2
  rw [e]
  by_cases h:n=a
  ·subst h
   obtain ⟨i1,i2⟩:=im1_nf (b:=b) hw.2 k1 k2 ha
   exact key (by simp) (by rw [idx_one,if_pos rfl]) (Int.le_refl _) i1 i2 (images1 hK k1 k2 u bb i)
  ·exact out (by simp) (by rw [idx_one,if_neg h]) h (by omega)
 ·have e:wsOf k a b=[(a:Int),(b:Int)]:=if_neg (by omega)
  rw [e]
  obtain ⟨⟨i1,i2⟩,i3,i4⟩:=im2_nf hw.2 k1 k2 ha hb hab
  by_cases h:n=a
  ·subst h
   exact key (by simp) (by rw [idx_two,if_pos rfl]) (Int.le_refl _) i1 i2 (images2 hw hK k1 k2 true u bb i)
  ·by_cases h2:n=b
   ·subst h2
    exact key (j:=1) (by simp) (by rw [idx_two,if_neg h,if_pos rfl]) (by decide) i3 i4 (images2 hw hK k1 k2 false u bb i)
   ·exact out (by simp) (by rw [idx_two,if_neg h,if_neg h2]) h fun _=>h2
end Go.Tz
namespace Go.Tz
open Go Go.AL Go.Proofs Go.Ma
variable {G:Nat->Option (List D)}
def outS (w k a b X Z P n:Nat):Ps:=dec w (gE k a b (nf (ptS w X Z P n)))
theorem pt_vl {w X Z P n:Nat} (hX:X<2^w) (hZ:Z<2^w) (hP:P<4):Vl w (ptS w X Z P n) :=
 ⟨_,_,_,rfl,Nat.lt_of_le_of_lt (Nat.mod_le _ _) hX,Nat.lt_of_le_of_lt (Nat.mod_le _ _) hZ,hP⟩
theorem out_vl {w k a b X Z P n:Nat} (hw:w<=12) (h:gR w k a b) (hX:X<2^w) (hZ:Z<2^w) (hP:P<4):Vl w (outS w k a b X Z P n):=thr_vl hw h (pt_vl hX hZ hP)
theorem nf_out (w k a b X Z P n:Nat):nf (outS w k a b X Z P n)=gE k a b (nf (ptS w X Z P n)):=nf_dec w (gE_lt _ _ _ _)
theorem out_0 {w k a b X Z P:Nat} (hw:w<=12) (h:gR w k a b) (hX:X<2^w) (hZ:Z<2^w) (hP:P<4):(⟨w,0,0,P⟩:Ps)=outS w k a b X Z P 0:=by
 have e:(⟨w,0,0,P⟩:Ps)=ptS w X Z P 0:=by
  unfold ptS mk
  rw [Nat.pow_zero,Nat.mod_one,Nat.mod_one];rfl
 rw [e]
 exact nf_inj hw (pt_vl hX hZ hP) (out_vl hw h hX hZ hP) (by rw [nf_out];exact pt_0 (gR_ok hw h))
theorem out_end {w k a b X Z P:Nat} (hX:X<2^w) (hZ:Z<2^w):outS w k a b X Z P w=thrS w k a b (mk w X Z P):=by
 unfold outS thrS
 rw [pt_all hX hZ]
theorem out_skip {w k a b X Z P n:Nat} (hw:w<=12) (h:gR w k a b) (hn:n<w) (hx:X.testBit n=false) (hz:Z.testBit n=false):outS w k a b X Z P (n+1)=outS w k a b X Z P n:=by
 unfold outS
 rw [pt_skip (gR_ok hw h) (by omega) hx hz rfl]
theorem out_step {w k a b X Z P n l:Nat} (hw:w<=12) (h:gR w k a b) (hn:n<w) (hX:X<2^w) (hZ:Z<2^w) (hP:P<4) (hx:X.testBit n=(decide (l=1)||decide (l=2))) (hz:Z.testBit n=(decide (l=2)||decide (l=3))) :
  timS (outS w k a b X Z P n) (imgS w k a b n l)=outS w k a b X Z P (n+1):=by
 obtain ⟨t1,t2⟩:=tim_nf hw (out_vl (n:=n) hw h hX hZ hP) (img_vl (l:=l) hw h hn)
 refine nf_inj hw t2 (out_vl hw h hX hZ hP) (t1.trans ?_)
 rw [nf_out,nf_out]
 have e:nf (imgS w k a b n l)=gE k a b (eL n (X.testBit n) (Z.testBit n)):=by rw [hx,hz];exact nf_dec w (gE_lt _ _ _ _)
 rw [e]
 exact pt_step (gR_ok hw h) (by omega) rfl
theorem chk145:chkFn Tryz.f145=true:=by kernel_rfl
theorem chk215:chkFn Tryz.f215=true:=by kernel_rfl
theorem chk259:chkFn Tryz.f259=true:=by kernel_rfl
theorem through145 {w k a b:Nat} {q:Ps} {K:Int} (hK:K=k) {u:Bool} {bb i:Int} (hw:1<=w/\w<=12) (hg:gR w k a b) (hq:Vl w q):PC Pr G 145 [q.d,(Gt.mk K (wsOf k a b) u bb i).d] (thrS w k a b q).d:=by
 obtain ⟨X,Z,P,rfl,hX,hZ,hP⟩:=hq
 have hpw:(2:Nat)^w<=2^12:=Nat.pow_le_pow_right (by decide) hw.2
 rw [<- out_end hX hZ]
 have hd:∀ n l:Nat,n<w->(l=1\/l=2\/l=3)->PC Pr G 213 [iD n,iD l,.rop (Gt.mk K (wsOf k a b) u bb i).l 0,.rop (mk w X Z P).l 0] (imgS w k a b n l).d:=fun n l hn hl=>does213 hK hw hg rfl hn hl
 have hL:∀ n:Nat,n<w->letterI (X:Int) (Z:Int) n=if X.testBit n&&Z.testBit n then 2 else if X.testBit n then 1 else if Z.testBit n then 3 else 0:=fun n hn=>letter_nat (by omega) (by omega) (by omega)
 have hlt:∀ (n:Nat) (d:D),PC Pr G 157 [.agg [iD w,iD X,iD Z,iD P,d],iD n] (iD (letterI X Z n)):=fun n d=>letter157 (mk w X Z P) d n (Int.natCast_nonneg _)
 have h0:=out_0 hw.2 hg hX hZ hP
 have hO:=fun n=>out_vl (n:=n) hw.2 hg hX hZ hP
 have hS:=fun n (hn:n<w) (l:Nat) (hx:X.testBit n=(decide (l=1)||decide (l=2))) (hz:Z.testBit n=(decide (l=2)||decide (l=3)))=>out_step (l:=l) hw.2 hg hn hX hZ hP hx hz
 have hK0:=fun n (hn:n<w) (hx:X.testBit n=false) (hz:Z.testBit n=false)=>out_skip (P:=P) hw.2 hg hn hx hz
 generalize wsOf k a b=ws at hd ⊢
 generalize outS w k a b X Z P=out at h0 hO hS hK0 ⊢
 generalize imgS w k a b=img at hd hS
 refine pc_walk pok Tryz.func145 chk145 ?_
 conv=>whnf
 repeat' first|((first|refine LookP.mk _ rfl ?_|refine ShlP.mk _ (by first|(simp only [List.set,over,List.take,List.drop,List.append_eq,List.nil_append,List.cons_append,List.length];rfl)|rfl) ?_|refine HpP.force ?_);conv=>whnf)
 refine call_walk pok Tryz.func215 chk215 ?_
 conv=>whnf
 skip
 refine call_walk pok Tryz.func259 chk259 ?_
 conv=>whnf
 repeat' first|(refine LookP.mk _ rfl ?_;conv=>whnf)
 refine for_use pok (fun n=>⟨[(0,.yld 7),(1,.ptr 5 5 0 0),(6,.d (iD w)),(7,.d (iD n))],[(0,some (.arr 4 [[.d (iD w),.d (iD X),.d (iD Z),.d (iD P)]])),(1,some (.arr 4 [[.d (iD K),.d (intsD ws u),.d (iD bb),.d (iD i)]])),(2,some (.arr 4 [[.d (iD 0),.d (iD 0),.d (iD 0),.d (iD 0)]])),(3,some (.arr 5 [[.d (iD w),.d (iD X),.d (iD Z),.d (iD P),.fn 213 [] [.ptr 1 4 0 0,.ptr 0 4 0 0]]])),(4,some (.arr 4 [(out n).l.map AV.d])),(5,some (.arr 5 [[.d (iD w),.d (iD X),.d (iD Z),.d (iD P),.fn 213 [] [.ptr 1 4 0 0,.ptr 0 4 0 0]]])),(6,some (.raw (.deferred (some [])))),(7,some (.lp [(18,.fn 259 [] [.ptr 5 5 0 0]),(17,.agg [.d (iD w),.d (iD X),.d (iD Z),.d (iD P),.fn 213 [] [.ptr 1 4 0 0,.ptr 0 4 0 0]]),(6,.ptr 4 4 0 0),(16,.d (.agg [iD w,iD 0,iD 0,iD P])),(15,.d (iD P)),(14,.ptr 0 4 0 3),(13,.d (iD w)),(12,.ptr 0 4 0 0),(11,.ptr 3 5 0 4),(10,.fn 213 [] [.ptr 1 4 0 0,.ptr 0 4 0 0]),(5,.ptr 3 5 0 0),(9,.d (.agg [iD w,iD X,iD Z,iD P,.nilf])),(8,.d (.agg [iD w,iD X,iD Z,iD P])),(4,.ptr 2 4 0 0),(3,.ptr 1 4 0 0),(2,.ptr 0 4 0 0),(0,.d (.agg [iD w,iD X,iD Z,iD P])),(1,.d (.agg [iD K,intsD ws u,iD bb,iD i]))] Tryz.f145.ntmps #[19] (rgA Tryz.f145) (rgB Tryz.f145) .ready none 6))],8⟩) (w) (fun _=>True) (trivial) ?_ (by kernel_rfl) ?_ ?_
 ·refine keep_env (by first|exact Nat.zero_le _|exact Nat.le_of_ble_eq_true rfl) ?_ ?_ trivial
  ·repeat' first|exact trivial|refine ⟨⟨by first|rfl|assumption,rfl⟩,?_⟩
  ·repeat' first|exact trivial|refine ⟨⟨ltB rfl,_,rfl,by first|rfl|assumption|(rw [<- h0];rfl),by first|exact below1 rfl|exact below_dblk _ _ _|exact below_arr rfl|exact trivial|exact ⟨rfl,Nat.le_of_ble_eq_true rfl⟩⟩,?_⟩
 ·intro n A_n h_n I_n N_n
  have e_n:iadd .i64 (n:Int) 1=((n+1:Nat):Int):=iadd_nat (by first|omega|(simp at *;omega))
  have hB:chkCode Tryz.f145.ntmps (rgB Tryz.f145)=true:=by kernel_rfl
  have hOn:=hO n
  have hOw:=vl_w hOn
  have hl:=hlt n
  have hLn:=hL n h_n
  have hSn:=hS n h_n
  have hKn:=hK0 n h_n
  rw [hLn] at hl
  cases hx:X.testBit n <;> cases hz:Z.testBit n
  ·have hl:∀ d,PC Pr G 157 [.agg [iD w,iD X,iD Z,iD P,d],iD n] (iD 0):=fun d=>by have:=hl d;rw [hx,hz] at this;exact this
   have hnx:=hKn hx hz
   conv=>whnf
   repeat (refine LookP.mk _ rfl ?_;conv=>whnf)
   intro t ht
   cases t
   ·exfalso;first|(simp at ht;done)|(simp at ht;omega)
   conv=>whnf
   repeat' first|((first|refine LookP.mk _ rfl ?_|refine pc_lendc (hl (.fn 213 [] [.rop [iD K,intsD ws u,iD bb,iD i] 0,.rop [iD w,iD X,iD Z,iD P] 0])) rfl rfl ?_);conv=>whnf)|(intro t ht;cases t <;> conv=>whnf)
   ·refine N_n _ ?_ ?_
    ·first|trivial|assumption|omega
    ·refine keep_env (by first|exact Nat.zero_le _|exact Nat.le_of_ble_eq_true rfl) ?_ ?_ trivial
     ·repeat' first|exact trivial|refine ⟨⟨by first|rfl|assumption|exact congrArg (fun n=>AV.d (iD n)) e_n,rfl⟩,?_⟩
     ·repeat' first|exact trivial|refine ⟨⟨ltB rfl,_,rfl,by first|rfl|assumption|(rw [hnx];rfl),by first|exact below1 rfl|exact below_dblk _ _ _|exact below_arr rfl|exact trivial|exact ⟨rfl,Nat.le_of_ble_eq_true rfl⟩⟩,?_⟩
   ·exfalso;simp at ht
  ·have hl:∀ d,PC Pr G 157 [.agg [iD w,iD X,iD Z,iD P,d],iD n] (iD 3):=fun d=>by have:=hl d;rw [hx,hz] at this;exact this
   have hdn:=hd n 3 h_n (by decide)
   have ht2:=tim142s (G:=G) (out n) (img n 3) (by rw [hOw];omega)
   have hnx:=hSn 3 hx hz
   rw [hnx] at ht2
   generalize img n 3=d at hdn ht2
   generalize hon:out n=o at hOn hOw hnx ht2 ⊢
   obtain ⟨ow,ox,oz,op⟩:=o
   obtain rfl:ow=w:=hOw
   conv=>whnf
   repeat (refine LookP.mk _ rfl ?_;conv=>whnf)
   intro t ht
   cases t
   ·exfalso;first|(simp at ht;done)|(simp at ht;omega)
   conv=>whnf
   repeat' first|((first|refine LookP.mk _ rfl ?_|refine pc_lendc (hl (.fn 213 [] [.rop [iD K,intsD ws u,iD bb,iD i] 0,.rop [iD w,iD X,iD Z,iD P] 0])) rfl rfl ?_);conv=>whnf)|(intro t ht;cases t <;> conv=>whnf)
   all_goals first|(exfalso;simp at ht;done)|skip
   refine round_walk pok ?_
   conv=>whnf
   repeat' first|((first|refine LookP.mk _ rfl ?_|refine ShlP.mk _ (by first|(simp only [List.set,over,List.take,List.drop,List.append_eq,List.nil_append,List.cons_append,List.length];rfl)|rfl) ?_|rw [hB]|refine pc_head (hl _) ?_|refine pc_head hdn ?_|refine pc_head ht2 ?_|refine HpP.force ?_);conv=>whnf)
   refine N_n _ ?_ ?_
   ·first|trivial|assumption|omega
   ·refine keep_env (by first|exact Nat.zero_le _|exact Nat.le_of_ble_eq_true rfl) ?_ ?_ trivial
    ·repeat' first|exact trivial|refine ⟨⟨by first|rfl|assumption|exact congrArg (fun n=>AV.d (iD n)) e_n,rfl⟩,?_⟩
    ·repeat' first|exact trivial|refine ⟨⟨ltB rfl,_,rfl,by first|rfl|assumption,by first|exact below1 rfl|exact below_dblk _ _ _|exact below_arr rfl|exact trivial|exact ⟨rfl,Nat.le_of_ble_eq_true rfl⟩⟩,?_⟩
  ·have hl:∀ d,PC Pr G 157 [.agg [iD w,iD X,iD Z,iD P,d],iD n] (iD 1):=fun d=>by have:=hl d;rw [hx,hz] at this;exact this
   have hdn:=hd n 1 h_n (by decide)
   have ht2:=tim142s (G:=G) (out n) (img n 1) (by rw [hOw];omega)
   have hnx:=hSn 1 hx hz
   rw [hnx] at ht2
   generalize img n 1=d at hdn ht2
   generalize hon:out n=o at hOn hOw hnx ht2 ⊢
   obtain ⟨ow,ox,oz,op⟩:=o
   obtain rfl:ow=w:=hOw
   conv=>whnf
   repeat (refine LookP.mk _ rfl ?_;conv=>whnf)
   intro t ht
   cases t
   ·exfalso;first|(simp at ht;done)|(simp at ht;omega)
   conv=>whnf
   repeat' first|((first|refine LookP.mk _ rfl ?_|refine pc_lendc (hl (.fn 213 [] [.rop [iD K,intsD ws u,iD bb,iD i] 0,.rop [iD w,iD X,iD Z,iD P] 0])) rfl rfl ?_);conv=>whnf)|(intro t ht;cases t <;> conv=>whnf)
   all_goals first|(exfalso;simp at ht;done)|skip
   refine round_walk pok ?_
   conv=>whnf
   repeat' first|((first|refine LookP.mk _ rfl ?_|refine ShlP.mk _ (by first|(simp only [List.set,over,List.take,List.drop,List.append_eq,List.nil_append,List.cons_append,List.length];rfl)|rfl) ?_|rw [hB]|refine pc_head (hl _) ?_|refine pc_head hdn ?_|refine pc_head ht2 ?_|refine HpP.force ?_);conv=>whnf)
   refine N_n _ ?_ ?_
   ·first|trivial|assumption|omega
   ·refine keep_env (by first|exact Nat.zero_le _|exact Nat.le_of_ble_eq_true rfl) ?_ ?_ trivial
    ·repeat' first|exact trivial|refine ⟨⟨by first|rfl|assumption|exact congrArg (fun n=>AV.d (iD n)) e_n,rfl⟩,?_⟩
    ·repeat' first|exact trivial|refine ⟨⟨ltB rfl,_,rfl,by first|rfl|assumption,by first|exact below1 rfl|exact below_dblk _ _ _|exact below_arr rfl|exact trivial|exact ⟨rfl,Nat.le_of_ble_eq_true rfl⟩⟩,?_⟩
  ·have hl:∀ d,PC Pr G 157 [.agg [iD w,iD X,iD Z,iD P,d],iD n] (iD 2):=fun d=>by have:=hl d;rw [hx,hz] at this;exact this
   have hdn:=hd n 2 h_n (by decide)
   have ht2:=tim142s (G:=G) (out n) (img n 2) (by rw [hOw];omega)
   have hnx:=hSn 2 hx hz
   rw [hnx] at ht2
   generalize img n 2=d at hdn ht2
   generalize hon:out n=o at hOn hOw hnx ht2 ⊢
   obtain ⟨ow,ox,oz,op⟩:=o
   obtain rfl:ow=w:=hOw
   conv=>whnf
   repeat (refine LookP.mk _ rfl ?_;conv=>whnf)
   intro t ht
   cases t
   ·exfalso;first|(simp at ht;done)|(simp at ht;omega)
   conv=>whnf
   repeat' first|((first|refine LookP.mk _ rfl ?_|refine pc_lendc (hl (.fn 213 [] [.rop [iD K,intsD ws u,iD bb,iD i] 0,.rop [iD w,iD X,iD Z,iD P] 0])) rfl rfl ?_);conv=>whnf)|(intro t ht;cases t <;> conv=>whnf)
   all_goals first|(exfalso;simp at ht;done)|skip
   refine round_walk pok ?_
   conv=>whnf
   repeat' first|((first|refine LookP.mk _ rfl ?_|refine ShlP.mk _ (by first|(simp only [List.set,over,List.take,List.drop,List.append_eq,List.nil_append,List.cons_append,List.length];rfl)|rfl) ?_|rw [hB]|refine pc_head (hl _) ?_|refine pc_head hdn ?_|refine pc_head ht2 ?_|refine HpP.force ?_);conv=>whnf)
   refine N_n _ ?_ ?_
   ·first|trivial|assumption|omega
   ·refine keep_env (by first|exact Nat.zero_le _|exact Nat.le_of_ble_eq_true rfl) ?_ ?_ trivial
    ·repeat' first|exact trivial|refine ⟨⟨by first|rfl|assumption|exact congrArg (fun n=>AV.d (iD n)) e_n,rfl⟩,?_⟩
    ·repeat' first|exact trivial|refine ⟨⟨ltB rfl,_,rfl,by first|rfl|assumption,by first|exact below1 rfl|exact below_dblk _ _ _|exact below_arr rfl|exact trivial|exact ⟨rfl,Nat.le_of_ble_eq_true rfl⟩⟩,?_⟩
 ·intro A_last I_last
  have hoe:=vl_w (hO w)
  generalize out w=o at hoe ⊢
  conv=>whnf
  repeat (refine LookP.mk _ rfl ?_;conv=>whnf)
  intro t ht
  cases t
  rotate_left
  ·exfalso;first|(simp at ht;done)|(simp at ht;omega)
  conv=>whnf
  repeat' first|((first|refine LookP.mk _ rfl ?_|refine ShlP.mk _ (by first|(simp only [List.set,over,List.take,List.drop,List.append_eq,List.nil_append,List.cons_append,List.length];rfl)|rfl) ?_|refine HpP.force ?_);conv=>whnf)
  exact fin rfl
end Go.Tz
namespace Go.Tz
open Go Go.AL Go.Proofs Go.Ma
variable {G:Nat->Option (List D)}
theorem asD_own {H:AHeap} {nm sz N:Nat} {t:Bool} {es:List (List D)} (hg:H.get nm=some (dblk sz es)) (hN:N=es.length):AsD H (.sl nm sz 0 N N t) (.sl es t):=by
 subst hN
 have:=asD_sl_map (H:=H) (lo:=0) (len:=es.length) (room:=es.length) (t:=t) hg (by simp)
 simpa using this
theorem give_get {nm sz:Nat} {es:List (List D)} {H:AHeap} (hg:H.get nm=some (dblk sz es)):∀ m b,AHeap.get [(nm,some (dblk sz es))] m=some b->m∈[nm]/\H.get m=some b:=fun m b h=>by
 by_cases em:m=nm
 ·subst em;rw [get_cons_same] at h;exact ⟨by simp,by rw [hg,<- h]⟩
 ·rw [get_cons_ne _ _ em] at h;cases h
theorem give_as {a:D} {nm sz N:Nat} {t:Bool} {es:List (List D)} (hN:N=es.length):∀ (i:Nat) (v:AV) (d:D),[AV.agg [.d a,.sl nm sz 0 N N t]][i]?=some v->[D.agg [a,.sl es t]][i]?=some d->AsD [(nm,some (dblk sz es))] v d:=fun i v d h1 h2=>by
 match i,h1,h2 with
 | 0,h1,h2 =>
  simp at h1 h2;subst h1 h2
  exact asD_agg2 (.d _) (asD_own (get_cons_same nm _ []) hN)
 | i+1,h1,_=>simp at h1
theorem po_giveS {f:FuncId} {a:D} {nm sz N:Nat} {t:Bool} {es:List (List D)} {v:AV} {M:AHeap} {n:Nat} {H:AHeap} {nx:Nat} {k:AV->AHeap->Nat->Prop} (h:PO Pr G f [.agg [a,.sl es t]] v M n) (hg:H.get nm=some (dblk sz es)) (hN:N=es.length)
  (hk:k (v.ren (· + nx)) (M.shift nx++dels [nm] H) (nx+n)):CallVC Pr G f [.agg [.d a,.sl nm sz 0 N N t]] H nx k:=by
 refine ⟨h.fn,acall_give (HL:=[(nm,some (dblk sz es))]) (L:=[nm]) (acall_data h.call ?_) rfl (give_get hg) (give_as hN)⟩
 rintro v' N' m ⟨rfl,rfl,rfl⟩
 exact hk
end Go.Tz
namespace Go.Tz
open Go Go.AL Go.Proofs Go.Ma
variable {G:Nat->Option (List D)}
def kindB (k:Int):Bool:=decide ((1<=k/\k<=6)\/(9<=k/\k<=11))
def cliffB (g:Gt):Bool:=decide (g.i=0)&&kindB g.k
theorem chk144:chkFn Tryz.f144=true:=by kernel_rfl
theorem cliff144 (g:Gt):PC Pr G 144 [g.d] (.bool (cliffB g)):=by
 obtain ⟨k,ws,u,b,f⟩:=g
 refine pc_walk pok Tryz.func144 chk144 ?_
 conv=>whnf
 repeat' first|(refine LookP.mk _ rfl ?_;conv=>whnf)|(intro t ht;cases t <;> conv=>whnf)
 all_goals
  refine fin ?_
  refine fiB ?_
  simp at *
  unfold cliffB kindB
  simp
  omega
theorem gchk_ok {g:Gt} {w:Int} {bits:Int} (h:gchk g w bits=0):arI g.k≠0/\(g.ws.length:Int)=arI g.k/\outB w g.ws=false/\dupB g.ws=false/\bitE g bits=0:=by
 unfold gchk at h
 split at h
 ·cases h
 ·split at h
  ·cases h
  ·split at h
   ·cases h
   ·split at h
    ·cases h
    ·rename_i h1 h2 h3 h4
     exact ⟨h1,by omega,by simpa using h3,by simpa using h4,h⟩
theorem bitE_ok {g:Gt} {bits:Int} (h:bitE g bits=0):(0<=g.i/\g.i<=bits)/\(g.k=13->0<=g.b/\g.b<bits)/\((g.k=13\/g.k=14)->g.i=0)/\(g.k≠13->g.b=0):=by
 unfold bitE at h
 split at h
 ·cases h
 ·split at h
  ·cases h
  ·rename_i h1 h2
   exact ⟨by omega,by omega,by omega,by omega⟩
def gK (g:Gt):Nat:=g.k.toNat
def gA (g:Gt):Nat:=(g.ws.getD 0 0).toNat
def gB (g:Gt):Nat:=(g.ws.getD 1 0).toNat
theorem len2 {α:Type}:∀ {l:List α},l.length=2->∃ a b,l=[a,b]
 | [a,b],_=>⟨a,b,rfl⟩
theorem gR_of {g:Gt} {w:Nat} {bits:Int} (h:gchk g w bits=0) (hk:kindB g.k=true):gR w (gK g) (gA g) (gB g)/\g.k=gK g/\g.ws=wsOf (gK g) (gA g) (gB g):=by
 obtain ⟨h1,h2,h3,h4,_⟩:=gchk_ok h
 obtain ⟨k,ws,u,b,f⟩:=g
 simp only [gK,gA,gB] at *
 have hk:=of_decide_eq_true hk
 have hin:∀ n,n∈ws->0<=n/\n<w:=fun n hn=>by
  have:=List.any_eq_false.1 h3 n hn
  simp at this;omega
 rcases hk with hk|hk
 ·rw [ari1 (by omega)] at h2
  obtain ⟨n,rfl⟩:=List.length_eq_one_iff.1 (show ws.length=1 by omega)
  have hn:=hin n (by simp)
  have e:(k.toNat<=6):=by omega
  refine ⟨.inl ⟨by omega,by omega,?_⟩,by omega,?_⟩
  ·simp;omega
  ·unfold wsOf
   rw [if_pos e]
   simp;omega
 ·rw [ari2 (by omega)] at h2
  obtain ⟨n,m,rfl⟩:=len2 (show ws.length=2 by omega)
  have hn:=hin n (by simp)
  have hm:=hin m (by simp)
  have hd:n≠m:=fun q=>by
   have:=List.any_eq_false.1 h4 1 (List.mem_range.2 (by simp))
   rw [dupAt_lt (by simp)] at this
   simp [q] at this
  have e:¬ (k.toNat<=6):=by omega
  refine ⟨.inr ⟨by omega,by omega,?_,?_,?_⟩,by omega,?_⟩
  ·simp;omega
  ·simp;omega
  ·simp;omega
  ·unfold wsOf
   rw [if_neg e]
   simp;omega
def thrG (w:Nat) (g:Gt) (q:Ps):Ps:=thrS w (gK g) (gA g) (gB g) q
theorem through145g {w:Nat} (hw:1<=w/\w<=12) {g:Gt} {bits:Int} (h:gchk g w bits=0) (hk:kindB g.k=true) {q:Ps} (hq:Vl w q):PC Pr G 145 [q.d,g.d] (thrG w g q).d:=by
 obtain ⟨h1,h2,h3⟩:=gR_of h hk
 have:=through145 (G:=G) (u:=g.u) (bb:=g.b) (i:=g.i) h2 hw h1 hq
 rw [<- h3] at this
 exact this
theorem cchk_one {w:Nat} (hw:1<=w/\w<=12) (g:Gt):cchk w 0 [g]=gchk g w 0:=by
 by_cases h:gchk g w 0=0
 ·rw [h]
  exact cchk0 (by omega) (by simp) (by simpa using h)
 ·exact cchk_at (l:=[g]) (i:=0) (by omega) (by simp) (by simp) (by simp) h
theorem chk69:chkFn Tryz.f69=true:=by kernel_rfl
def thrD (w:Nat) (g:Gt) (q:Ps):D:=if gchk g w 0≠0 then .tup [Ps.d ⟨0,0,0,0⟩,iD (gchk g w 0)] else if kindB g.k=true then .tup [(thrG w g q).d,iD 0] else .tup [Ps.d ⟨0,0,0,0⟩,iD 7]
theorem through69 {w:Nat} (hw:1<=w/\w<=12) (g:Gt) (hn:g.ws.length<=1000) {q:Ps} (hq:Vl w q):PC Pr G 69 [q.d,g.d] (thrD w g q):=by
 have h1:=check111 (G:=G) q
 rw [pck_vl hw hq] at h1
 have hqw:=vl_w hq
 have h2:∀ t,PC Pr G 129 [circD q.w 0 [g] t] (iD (gchk g w 0)):=fun t=>by
  have:=check129 (G:=G) w 0 [g] t (by simp) (by simpa using hn)
  rw [cchk_one hw] at this
  rw [hqw];exact this
 have h3:=cliff144 (G:=G) g
 have h4:=fun h k=>through145g (G:=G) hw (g:=g) (bits:=0) h k hq
 have hi0:gchk g w 0=0->g.i=0:=fun h=>by
  have:=(bitE_ok (gchk_ok h).2.2.2.2).1;omega
 unfold thrD
 generalize thrG w g q=r at h4 ⊢
 obtain ⟨k,ws,u,b,f⟩:=g
 by_cases he:gchk ⟨k,ws,u,b,f⟩ w 0=0
 ·have hf:=hi0 he
  simp only at hf
  subst hf
  rw [if_neg (fun h=>h he)]
  rw [he] at h2
  have e3:cliffB ⟨k,ws,u,b,0⟩=kindB k:=by unfold cliffB;simp
  rw [e3] at h3
  by_cases hk:kindB k=true
  ·have h5:=h4 he hk
   rw [if_pos hk]
   rw [hk] at h3
   refine pc_walk pok Tryz.func69 chk69 ?_
   conv=>whnf
   repeat' first|((first|refine LookP.mk _ rfl ?_|refine ShlP.mk _ (by first|(simp only [List.set,over,List.take,List.drop,List.append_eq,List.nil_append,List.cons_append,List.length];rfl)|rfl) ?_|refine pc_use h1 ?_|refine pc_givec (h2 true) rfl ?_|refine pc_use h3 ?_|refine pc_use h5 ?_|refine HpP.force ?_);conv=>whnf)|(intro t ht;cases t <;> conv=>whnf)
   all_goals first|exact fin rfl|(exfalso;simp at ht;done)
  ·rw [if_neg hk]
   have hk:kindB k=false:=by simpa using hk
   rw [hk] at h3
   refine pc_walk pok Tryz.func69 chk69 ?_
   conv=>whnf
   repeat' first|((first|refine LookP.mk _ rfl ?_|refine ShlP.mk _ (by first|(simp only [List.set,over,List.take,List.drop,List.append_eq,List.nil_append,List.cons_append,List.length];rfl)|rfl) ?_|refine pc_use h1 ?_|refine pc_givec (h2 true) rfl ?_|refine pc_use h3 ?_|refine HpP.force ?_);conv=>whnf)|(intro t ht;cases t <;> conv=>whnf)
   all_goals first|exact fin rfl|(exfalso;simp at ht;done)
 ·rw [if_pos he]
  generalize gchk ⟨k,ws,u,b,f⟩ w 0=e at h2 he ⊢
  refine pc_walk pok Tryz.func69 chk69 ?_
  conv=>whnf
  repeat' first|((first|refine LookP.mk _ rfl ?_|refine ShlP.mk _ (by first|(simp only [List.set,over,List.take,List.drop,List.append_eq,List.nil_append,List.cons_append,List.length];rfl)|rfl) ?_|refine pc_use h1 ?_|refine pc_givec (h2 true) rfl ?_|refine HpP.force ?_);conv=>whnf)|(intro t ht;cases t <;> conv=>whnf)
  all_goals first|exact fin rfl|(exfalso;simp at ht;first|done|exact he ht)
theorem chk126:chkFn Tryz.f126=true:=by kernel_rfl
theorem clifford126 (w bits:Int) (l:List Gt) (t:Bool) (hn:l.length<=1000) (hws:∀ g,g∈l->g.ws.length<=1000):PC Pr G 126 [circD w bits l t] (if cchk w bits l=0 then .tup [.bool (l.all cliffB),iD 0] else .tup [.bool false,iD (cchk w bits l)]):=by
 have h1:=check129 (G:=G) w bits l t hn hws
 have h2:=every206 (G:=G) l t 144 [] [] cliffB hn fun g _=>cliff144 g
 generalize (l.all cliffB)=r at h2 ⊢
 generalize cchk w bits l=e at h1 ⊢
 by_cases he:e=0
 ·subst he
  rw [if_pos rfl]
  refine pc_walk pok Tryz.func126 chk126 ?_
  conv=>whnf
  repeat' first|((first|refine LookP.mk _ rfl ?_|refine pc_use h1 ?_|refine pc_use h2 ?_);conv=>whnf)|(intro t ht;cases t <;> conv=>whnf)
  all_goals first|exact fin rfl|(exfalso;simp at ht;done)
 ·rw [if_neg he]
  refine pc_walk pok Tryz.func126 chk126 ?_
  conv=>whnf
  repeat' first|((first|refine LookP.mk _ rfl ?_|refine pc_use h1 ?_);conv=>whnf)|(intro t ht;cases t <;> conv=>whnf)
  all_goals first|exact fin rfl|(exfalso;simp at ht;first|done|exact he ht)
end Go.Tz
namespace Go.Tz
open Go Go.AL Go.Proofs Go.Ma
variable {G:Nat->Option (List D)}
def appG (w:Nat) (g:Gt) (l:List Ps):List Ps:=redRows (l.map (thrG w g)) (2*w)
theorem thrG_vl {w:Nat} (hw:w<=12) {g:Gt} {bits:Int} (hg:gchk g w bits=0) (hk:kindB g.k=true) {q:Ps} (hq:Vl w q):Vl w (thrG w g q):=thr_vl hw (gR_of hg hk).1 hq
theorem thrG_all {w:Nat} (hw:w<=12) {g:Gt} {bits:Int} (hg:gchk g w bits=0) (hk:kindB g.k=true) {l:List Ps} (hv:∀ q,q∈l->Vl w q):∀ q,q∈l.map (thrG w g)->Vl w q:=fun q hq=>by
 obtain ⟨r,hr,rfl⟩:=List.mem_map.1 hq
 exact thrG_vl hw hg hk (hv r hr)
theorem appG_len (w:Nat) (g:Gt) (l:List Ps):(appG w g l).length=l.length:=by simp [appG,redRows_len]
theorem appG_vl {w:Nat} (hw:w<=12) {g:Gt} {bits:Int} (hg:gchk g w bits=0) (hk:kindB g.k=true) {l:List Ps} (hv:∀ q,q∈l->Vl w q):∀ q,q∈appG w g l->Vl w q:=red_all_vl hw (thrG_all hw hg hk hv) _
theorem appG_sok {w:Nat} {g:Gt} {bits:Int} (hg:gchk g w bits=0) (hk:kindB g.k=true) {l:List Ps} (h:SOk w l):SOk w (appG w g l):=app_sok (gR_of hg hk).1 h
theorem chk125:chkFn Tryz.f125=true:=by kernel_rfl
theorem applied125 {w:Nat} (hw:1<=w/\w<=12) {k b i:Int} {ws:List Int} {u:Bool} (hg:gchk ⟨k,ws,u,b,0⟩ w 0=0) (hk:kindB k=true) (l:List Ps) (t:Bool) (hn:l.length<=1000) (hv:∀ q,q∈l->Vl w q) :
  PO Pr G 125 [stD w l t,(Gt.mk k ws u b i).d] (.agg [.d (iD w),.sl 0 4 0 l.length l.length true]) [(0,some (dblk 4 ((appG w ⟨k,ws,u,b,0⟩ l).map Ps.l)))] 1:=by
 have hwl:ws.length<=1000:=by
  have h:=(gchk_ok hg).2.1
  simp only at h
  have:arI k<=3:=by unfold arI;split <;> (try split) <;> (try split) <;> omega
  omega
 have hgv:=thrG_all hw.2 hg hk hv
 have hc:=canon105o (G:=G) hw (l.map (thrG w ⟨k,ws,u,b,0⟩)) false (by simpa using hn) hgv
 have ht:∀ q,Vl w q->PC Pr G 69 [q.d,(Gt.mk k ws u b 0).d] (.tup [(thrG w ⟨k,ws,u,b,0⟩ q).d,iD 0]):=fun q hq=>by
  have:=through69 (G:=G) hw ⟨k,ws,u,b,0⟩ hwl hq
  unfold thrD at this
  rw [if_neg (fun h=>h hg),if_pos hk] at this
  exact this
 show PO Pr G 125 _ _ [(0,some (dblk 4 ((redRows (l.map (thrG w ⟨k,ws,u,b,0⟩)) (2*w)).map Ps.l)))] 1
 generalize thrG w ⟨k,ws,u,b,0⟩=F at hc ht ⊢
 have hlen:(l.map F).length=l.length:=by simp
 rw [hlen] at hc
 generalize redRows (l.map F) (2*w)=R at hc ⊢
 refine ⟨isFn_of Tryz.func125 chk125,acall_sub (K:=fun v H _=>v = .agg [.d (iD w),.sl 5 4 0 l.length l.length true]/\H.get 5=some (dblk 4 (R.map Ps.l))) (fn_walk pok Tryz.func125 chk125 ?_) ?_⟩
 ·conv=>whnf
  repeat' first|((first|refine LookP.mk _ rfl ?_|refine ShlP.mk _ (by first|(simp only [List.set,over,List.take,List.drop,List.append_eq,List.nil_append,List.cons_append,List.length];rfl)|rfl) ?_|refine HpP.force ?_);conv=>whnf)
  refine for_use pok (fun j=>⟨[(3,.ptr 1 4 0 0),(4,.ptr 2 2 0 0),(5,.ptr 3 2 0 0),(15,.d (rowsD l t)),(16,.d (iD (l.map Ps.l).length)),(17,.d (iD j))],[(1,some (.arr 4 [[.d (iD k),.d (intsD ws u),.d (iD b),.d (iD 0)]])),(2,some (.arr 2 [[.d (iD 0),.d (.sl [] true)]])),(3,some (.arr 2 [[.d (iD w),.sl 4 4 0 j j false]])),(4,some (dblk 4 (((l.take j).map F).map Ps.l)))],5⟩) (l.length) (fun _=>True) (trivial) ?_ (by kernel_rfl) ?_ ?_
  ·refine Sub.trans (sub_nilH2 (nm:=3) (S:=4) (Nat.zero_le _) rfl) ?_
   refine keep_env (by first|exact Nat.zero_le _|exact Nat.le_of_ble_eq_true rfl) ?_ ?_ trivial
   ·repeat' first|exact trivial|refine ⟨⟨by first|rfl|assumption,rfl⟩,?_⟩
   ·repeat' first|exact trivial|refine ⟨⟨ltB rfl,_,rfl,by first|rfl|assumption,by first|exact below1 rfl|exact below_dblk _ _ _|exact below_arr rfl⟩,?_⟩
  ·intro j A_j h_j I_j N_j
   have e_j:iadd .i64 (j:Int) 1=((j+1:Nat):Int):=iadd_nat (by first|omega|(simp at *;omega))
   have hj:=ht l[j] (hv _ (List.getElem_mem h_j))
   have hsn:((l.take (j+1)).map F).map Ps.l=((l.take j).map F).map Ps.l++[(F l[j]).l]:=by rw [take_snoc h_j,List.map_append,List.map_append];rfl
   have hml:(((l.take j).map F).map Ps.l).length=j:=by rw [List.length_map,List.length_map,List.length_take];omega
   generalize ((l.take j).map F).map Ps.l=M at hsn hml
   generalize F l[j]=r at hj hsn
   conv=>whnf
   repeat (refine LookP.mk _ rfl ?_;conv=>whnf)
   intro t ht
   cases t
   ·exfalso;first|(simp at ht;done)|(simp at ht;omega)
   conv=>whnf
   repeat' first|((first|refine LookP.mk _ (by first|rfl|exact get_l h_j) ?_|refine ShlP.mk _ (by first|(simp only [List.set,over,List.take,List.drop,List.append_eq,List.nil_append,List.cons_append,List.length];rfl)|rfl) ?_|(refine And.intro (by first|exact Nat.le_refl _|exact ⟨by rw [List.length_map];exact hml,by decide,by show (2*(j+1)+192)*32<=281474976710656;omega⟩|assumption|exact ⟨by kernel_rfl,rfl⟩|decide|omega) ?_)|refine pc_use hj ?_|rw [nbeq]|refine HpP.force ?_);conv=>whnf)
   refine N_j _ ?_ ?_
   ·first|trivial|assumption|omega
   ·first|refine ren_env [(4,8)] ?_ ?_ ?_ trivial|refine ren_envB [(4,8)] rfl rfl ?_ ?_ ?_ trivial
    ·repeat' first|exact trivial|refine ⟨⟨by first|rfl|assumption|exact congrArg (fun n=>AV.d (iD n)) e_j,rfl⟩,?_⟩
    ·repeat' first|exact trivial|refine ⟨⟨ltB rfl,_,rfl,by first|rfl|assumption|exact get_ren rfl (by first|rfl|assumption|exact get_ren rfl (by rw [hsn];exact congrArg some (dblk_snoc rfl)))|exact get_ren rfl (by rw [hsn];exact congrArg some (dblk_snoc rfl)),by first|exact below1 rfl|exact below_dblk _ _ _|exact below_arr rfl⟩,?_⟩
    ·repeat' first|exact trivial|(refine And.intro ?_ ?_)|(exact fun _=>rfl)|(exact fun h=>absurd h (Nat.ne_of_beq_eq_false rfl))
  ·intro A_last I_last
   have hT:l.take l.length=l:=List.take_of_length_le (Nat.le_refl _)
   rw [hT]
   conv=>whnf
   repeat (refine LookP.mk _ rfl ?_;conv=>whnf)
   intro t ht
   cases t
   rotate_left
   ·exfalso;first|(simp at ht;done)|(simp at ht;omega)
   conv=>whnf
   repeat' first|((first|refine LookP.mk _ rfl ?_|refine ShlP.mk _ (by first|(simp only [List.set,over,List.take,List.drop,List.append_eq,List.nil_append,List.cons_append,List.length];rfl)|rfl) ?_|refine po_giveS hc rfl (by simp) ?_|refine HpP.force ?_);conv=>whnf)
   refine fin ⟨rfl,?_⟩
   show some (Blk.ren _ (dblk 4 _))=_
   rw [ren_dblk]
 ·rintro v H n ⟨rfl,h2⟩
  refine ⟨_,_,1,?_,rfl,rfl,rfl⟩
  first|refine ren_env [(0,5)] ?_ ?_ ?_ trivial|refine ren_envB [(0,5)] rfl rfl ?_ ?_ ?_ trivial
  ·repeat' first|exact trivial|refine ⟨⟨by first|rfl|assumption,rfl⟩,?_⟩
  ·repeat' first|exact trivial|refine ⟨⟨ltB rfl,_,rfl,by first|rfl|assumption|exact get_ren rfl (by first|rfl|assumption|exact get_ren rfl h2)|exact get_ren rfl h2,by first|exact below1 rfl|exact below_dblk _ _ _|exact below_arr rfl⟩,?_⟩
  ·repeat' first|exact trivial|(refine And.intro ?_ ?_)|(exact fun _=>rfl)|(exact fun h=>absurd h (Nat.ne_of_beq_eq_false rfl))
end Go.Tz
namespace Go.Tz
open Go Go.AL Go.Proofs Go.Ma
variable {G:Nat->Option (List D)}
theorem give_as2 {a e:D} {nm sz N:Nat} {t:Bool} {es:List (List D)} (hN:N=es.length):∀ (i:Nat) (v:AV) (d:D),[AV.agg [.d a,.sl nm sz 0 N N t],.d e][i]?=some v->[D.agg [a,.sl es t],e][i]?=some d->AsD [(nm,some (dblk sz es))] v d:=fun i v d h1 h2=>by
 match i,h1,h2 with
 | 0,h1,h2 =>
  simp at h1 h2;subst h1 h2
  exact asD_agg2 (.d _) (asD_own (get_cons_same nm _ []) hN)
 | 1,h1,h2=>simp at h1 h2;subst h1 h2;exact .d _
 | i+2,h1,_=>simp at h1
theorem po_giveS2 {f:FuncId} {a e:D} {nm sz N:Nat} {t:Bool} {es:List (List D)} {v:AV} {M:AHeap} {n:Nat} {H:AHeap} {nx:Nat} {k:AV->AHeap->Nat->Prop} (h:PO Pr G f [.agg [a,.sl es t],e] v M n) (hg:H.get nm=some (dblk sz es)) (hN:N=es.length)
  (hk:k (v.ren (· + nx)) (M.shift nx++dels [nm] H) (nx+n)):CallVC Pr G f [.agg [.d a,.sl nm sz 0 N N t],.d e] H nx k:=by
 refine ⟨h.fn,acall_give (HL:=[(nm,some (dblk sz es))]) (L:=[nm]) (acall_data h.call ?_) rfl (give_get hg) (give_as2 hN)⟩
 rintro v' N' m ⟨rfl,rfl,rfl⟩
 exact hk
def ofS (w:Nat) (gs:List Gt):List Ps:=gs.foldl (fun l g=>appG w g l) (zeroS w)
theorem ofS_snoc {w:Nat} {gs:List Gt} {i:Nat} (h:i<gs.length):ofS w (gs.take (i+1))=appG w gs[i] (ofS w (gs.take i)):=by
 unfold ofS;rw [take_snoc h,List.foldl_append];rfl
theorem zeroS_len (w:Nat):(zeroS w).length=w:=by simp [zeroS]
theorem zeroS_vl (w:Nat):∀ q,q∈zeroS w->Vl w q:=fun q hq=>by
 obtain ⟨i,hi,rfl⟩:=List.mem_map.1 hq
 exact ⟨0,2^i,0,rfl,Nat.two_pow_pos w,Nat.pow_lt_pow_right (by decide) (List.mem_range.1 hi),by decide⟩
theorem ofS_len (w:Nat):∀ (gs:List Gt) (l:List Ps),(gs.foldl (fun l g=>appG w g l) l).length=l.length
 | [],_=>rfl
 | g::gs,l=>by rw [List.foldl_cons,ofS_len w gs,appG_len]
theorem ofS_vl {w:Nat} (hw:w<=12) {bits:Int}:∀ (gs:List Gt) (l:List Ps),(∀ g,g∈gs->gchk g w bits=0/\kindB g.k=true)->(∀ q,q∈l->Vl w q)->∀ q,q∈gs.foldl (fun l g=>appG w g l) l->Vl w q
 | [],_,_,hv=>hv
 | g::gs,l,hg,hv=>ofS_vl hw gs (appG w g l) (fun x hx=>hg x (List.mem_cons_of_mem _ hx)) (appG_vl hw (hg g (by simp)).1 (hg g (by simp)).2 hv)
end Go.Tz
namespace Go.Tz
open Go Go.AL Go.Proofs Go.Ma
variable {G:Nat->Option (List D)}
theorem gchk_bits {k b i:Int} {ws:List Int} {u:Bool} {w bits:Int} (hk:kindB k=true) (h:gchk ⟨k,ws,u,b,i⟩ w bits=0):gchk ⟨k,ws,u,b,0⟩ w 0=0:=by
 obtain ⟨h1,h2,h3,h4,h5⟩:=gchk_ok h
 obtain ⟨b1,b2,b3,b4⟩:=bitE_ok h5
 have hk:=of_decide_eq_true hk
 simp only at *
 unfold gchk
 simp only
 rw [if_neg h1,if_neg (by simpa using h2),if_neg (by rw [h3];simp),if_neg (by rw [h4];simp)]
 exact bitE0 (by simp only;omega) (by simp only;omega)
def ofE (w b:Int) (l:List Gt):Int:=if cchk w b l≠0 then cchk w b l else if l.all cliffB=true then 0 else 7
theorem ofE_ok {w b:Int} {l:List Gt} (h:ofE w b l=0):cchk w b l=0/\l.all cliffB=true:=by
 unfold ofE at h
 split at h
 ·contradiction
 ·rename_i h1
  split at h
  ·rename_i h2;exact ⟨by simpa using h1,h2⟩
  ·cases h
theorem gates_ok {w:Nat} {b:Int} {l:List Gt} (h:ofE w b l=0):(1<=w/\w<=12) /\ ∀ g,g∈l->gchk g w b=0/\kindB g.k=true:=by
 obtain ⟨h1,h2⟩:=ofE_ok h
 obtain ⟨a1,_,_,a4⟩:=cchk_ok h1
 refine ⟨by omega,fun g hg=>⟨a4 g hg,?_⟩⟩
 have:=List.all_eq_true.1 h2 g hg
 unfold cliffB at this
 simp at this
 exact this.2
def tfB:Nat->Bool
 | 0=>false
 | _+1=>true
theorem chk49:chkFn Tryz.f49=true:=by kernel_rfl
theorem of49 {w:Nat} {b:Int} {l:List Gt} (h:ofE w b l=0) (t:Bool) (hn:l.length<=1000) (hws:∀ g,g∈l->g.ws.length<=1000):PO Pr GG 49 [circD w b l t] (ownV w w (tfB l.length)) [(0,some (dblk 4 ((ofS w l).map Ps.l)))] 1:=by
 obtain ⟨hw,hgs⟩:=gates_ok h
 obtain ⟨h1,h2⟩:=ofE_ok h
 have c1:=clifford126 (G:=GG) w b l t hn hws
 rw [if_pos h1,h2] at c1
 have c3:=zero110p hw
 refine ⟨isFn_of Tryz.func49 chk49,acall_sub (K:=fun v H _=>v = .tup [.agg [.d (iD w),.sl 2 4 0 w w (tfB l.length)],.d (iD 0)]/\H.get 2=some (dblk 4 ((ofS w l).map Ps.l))) (fn_walk pok Tryz.func49 chk49 ?_) ?_⟩
 ·conv=>whnf
  repeat' first|((first|refine LookP.mk _ rfl ?_|refine ShlP.mk _ (by first|(simp only [List.set,over,List.take,List.drop,List.append_eq,List.nil_append,List.cons_append,List.length];rfl)|rfl) ?_|refine pc_use c1 ?_|refine po_use c3 ?_|refine HpP.force ?_);conv=>whnf)|(intro t ht;cases t <;> conv=>whnf)
  ·refine for_use pok (fun i=>⟨[(2,.ptr 1 2 0 0),(6,.ptr 3 2 0 0),(25,.d (gatesD l t)),(26,.d (iD (l.map Gt.l).length)),(27,.d (iD i))],[(1,some (.arr 2 [[.d (iD 0),.d (.sl [] true)]])),(2,some (dblk 4 ((ofS w (l.take i)).map Ps.l))),(3,some (.arr 2 [[.d (iD w),.sl 2 4 0 w w (tfB i)]]))],4⟩) (l.length) (fun _=>True) (trivial) ?_ (by kernel_rfl) ?_ ?_
   ·refine keep_env (by first|exact Nat.zero_le _|exact Nat.le_of_ble_eq_true rfl) ?_ ?_ trivial
    ·repeat' first|exact trivial|refine ⟨⟨by first|rfl|assumption,rfl⟩,?_⟩
    ·repeat' first|exact trivial|refine ⟨⟨ltB rfl,_,rfl,by first|rfl|assumption|exact (show some (Blk.ren _ (dblk 4 ((zeroS w).map Ps.l)))=some (dblk 4 ((zeroS w).map Ps.l)) from by rw [ren_dblk]),by first|exact below1 rfl|exact below_dblk _ _ _|exact below_arr rfl⟩,?_⟩
   ·intro i A_i h_i I_i N_i
    have e_i:iadd .i64 (i:Int) 1=((i+1:Nat):Int):=iadd_nat (by first|omega|(simp at *;omega))
    obtain ⟨g1,g2⟩:=hgs _ (List.getElem_mem h_i)
    have hlen:(ofS w (l.take i)).length=w:=by unfold ofS;rw [ofS_len,zeroS_len]
    have hvl:∀ q,q∈ofS w (l.take i)->Vl w q:=ofS_vl hw.2 _ _ (fun g hg=>hgs g (List.mem_of_mem_take hg)) (zeroS_vl w)
    have hsn:=ofS_snoc (w:=w) h_i
    have hgl:(l.map Gt.l)[(i:Int).toNat]?=some (l[i]).l:=get_g h_i
    generalize l[i]=g at g1 g2 hsn hgl
    obtain ⟨gk,gws,gu,gb,gi⟩:=g
    have ha:=applied125 (G:=GG) hw (i:=gi) (gchk_bits g2 g1) g2 (ofS w (l.take i)) (tfB i) (by omega) hvl
    have e:appG w ⟨gk,gws,gu,gb,0⟩ (ofS w (l.take i))=ofS w (l.take (i+1)):=hsn.symm
    rw [e,hlen] at ha
    generalize ofS w (l.take i)=m at ha hlen ⊢
    have hml:w=(m.map Ps.l).length:=by rw [List.length_map,hlen]
    conv=>whnf
    repeat (refine LookP.mk _ rfl ?_;conv=>whnf)
    intro t ht
    cases t
    ·exfalso;first|(simp at ht;done)|(simp at ht;omega)
    conv=>whnf
    repeat' first|((first|refine LookP.mk _ (by first|rfl|exact hgl) ?_|refine ShlP.mk _ (by first|(simp only [List.set,over,List.take,List.drop,List.append_eq,List.nil_append,List.cons_append,List.length];rfl)|rfl) ?_|refine And.intro (by first|assumption|exact ⟨by kernel_rfl,rfl⟩|decide|omega) ?_|refine po_giveS2 ha rfl hml ?_|refine HpP.force ?_);conv=>whnf)
    refine N_i _ ?_ ?_
    ·first|trivial|assumption|omega
    ·first|refine ren_env [(2,5)] ?_ ?_ ?_ trivial|refine ren_envB [(2,5)] rfl rfl ?_ ?_ ?_ trivial
     ·repeat' first|exact trivial|refine ⟨⟨by first|rfl|assumption|exact congrArg (fun n=>AV.d (iD n)) e_i,rfl⟩,?_⟩
     ·repeat' first|exact trivial|refine ⟨⟨ltB rfl,_,rfl,by first|rfl|assumption|exact get_ren rfl (by first|rfl|assumption|exact get_ren rfl (show some (Blk.ren _ (dblk 4 _))=_ from by rw [ren_dblk]))|exact get_ren rfl (show some (Blk.ren _ (dblk 4 _))=_ from by rw [ren_dblk]),by first|exact below1 rfl|exact below_dblk _ _ _|exact below_arr rfl⟩,?_⟩
     ·repeat' first|exact trivial|(refine And.intro ?_ ?_)|(exact fun _=>rfl)|(exact fun h=>absurd h (Nat.ne_of_beq_eq_false rfl))
   ·intro A_last I_last
    rw [List.take_length]
    conv=>whnf
    repeat (refine LookP.mk _ rfl ?_;conv=>whnf)
    intro t ht
    cases t
    rotate_left
    ·exfalso;first|(simp at ht;done)|(simp at ht;omega)
    conv=>whnf
    repeat' first|((first|refine LookP.mk _ rfl ?_|refine ShlP.mk _ (by first|(simp only [List.set,over,List.take,List.drop,List.append_eq,List.nil_append,List.cons_append,List.length];rfl)|rfl) ?_|refine HpP.force ?_);conv=>whnf)
    exact fin ⟨rfl,rfl⟩
  all_goals (exfalso;simp at ht;done)
 ·rintro v H n ⟨rfl,h2⟩
  refine ⟨_,_,1,?_,rfl,rfl,rfl⟩
  first|refine ren_env [(0,2)] ?_ ?_ ?_ trivial|refine ren_envB [(0,2)] rfl rfl ?_ ?_ ?_ trivial
  ·repeat' first|exact trivial|refine ⟨⟨by first|rfl|assumption,rfl⟩,?_⟩
  ·repeat' first|exact trivial|refine ⟨⟨ltB rfl,_,rfl,by first|rfl|assumption|exact get_ren rfl (by first|rfl|assumption|exact get_ren rfl h2)|exact get_ren rfl h2,by first|exact below1 rfl|exact below_dblk _ _ _|exact below_arr rfl⟩,?_⟩
  ·repeat' first|exact trivial|(refine And.intro ?_ ?_)|(exact fun _=>rfl)|(exact fun h=>absurd h (Nat.ne_of_beq_eq_false rfl))
end Go.Tz
namespace Go.Tz
open Go Go.AL Go.Proofs Go.Ma
variable {G:Nat->Option (List D)}
def apE (w:Int) (l:List Ps) (g:Gt):Int:=if chkS w l≠0 then chkS w l else if gchk g w 0≠0 then gchk g w 0 else if kindB g.k=true then 0 else 7
theorem apE_ok {w:Int} {l:List Ps} {g:Gt} (h:apE w l g=0):∃ W:Nat,w=W/\SOk W l/\gchk g W 0=0/\kindB g.k=true:=by
 unfold apE at h
 split at h
 ·contradiction
 ·rename_i h1
  obtain ⟨W,rfl,hs⟩:=chk_ok (show chkS w l=0 by simpa using h1)
  split at h
  ·contradiction
  ·rename_i h2
   split at h
   ·rename_i h3;exact ⟨W,rfl,hs,by simpa using h2,h3⟩
   ·cases h
theorem chk47:chkFn Tryz.f47=true:=by kernel_rfl
theorem sok_len {w:Nat} {l:List Ps} (h:SOk w l):l.length<=1000:=by have:=h.len;have:=h.hi;omega
theorem apply47 {w:Nat} {l:List Ps} {g:Gt} (h:apE w l g=0) (t:Bool) (hn:g.ws.length<=1000):PO Pr GG 47 [stD w l t,g.d] (ownV w l.length true) [(0,some (dblk 4 ((appG w g l).map Ps.l)))] 1:=by
 obtain ⟨W,hW,hs,hg,hk⟩:=apE_ok h
 obtain rfl:W=w:=by omega
 have hw:1<=W/\W<=12:=⟨hs.lo,hs.hi⟩
 have hlen:=hs.len
 have c1:=check36 W l t (sok_len hs)
 rw [ok_chk hs] at c1
 have h0:0<l.length:=by omega
 have c2:=through69 (G:=GG) hw g hn (hs.vl _ (List.getElem_mem h0))
 unfold thrD at c2
 rw [if_neg (fun q=>q hg),if_pos hk] at c2
 have hgl:(l.map Ps.l)[(0:Int).toNat]?=some (l[0]).l:=get_l h0
 obtain ⟨k,ws,u,b,i⟩:=g
 have c3:=applied125 (G:=GG) hw (i:=i) (gchk_bits hk hg) hk l t (sok_len hs) hs.vl
 have e:appG W ⟨k,ws,u,b,0⟩ l=appG W ⟨k,ws,u,b,i⟩ l:=rfl
 rw [e] at c3
 generalize appG W ⟨k,ws,u,b,i⟩ l=R at c3 ⊢
 generalize thrG W ⟨k,ws,u,b,i⟩ l[0]=r at c2
 generalize l[0]=q0 at c2 hgl
 generalize hN:l.length=N at c3 ⊢
 refine ⟨isFn_of Tryz.func47 chk47,acall_sub (K:=fun v H _=>∃ m,v = .tup [.agg [.d (iD W),.sl m 4 0 N N true],.d (iD 0)]/\H.get m=some (dblk 4 (R.map Ps.l))/\m=4) (fn_walk pok Tryz.func47 chk47 ?_) ?_⟩
 ·conv=>whnf
  repeat' first|((first|refine LookP.mk _ (by first|rfl|exact hgl) ?_|refine ShlP.mk _ (by first|(simp only [List.set,over,List.take,List.drop,List.append_eq,List.nil_append,List.cons_append,List.length];rfl)|rfl) ?_|refine And.intro (by first|assumption|exact ⟨by kernel_rfl,rfl⟩|decide|omega) ?_|refine pc_use c1 ?_|refine pc_head c2 ?_|refine po_use c3 ?_|refine HpP.force ?_);conv=>whnf)|(intro t ht;cases t <;> conv=>whnf)
  ·refine fin ⟨_,rfl,?_,rfl⟩
   show some (Blk.ren _ (dblk 4 _))=_
   rw [ren_dblk]
  all_goals (exfalso;simp at ht;done)
 ·rintro v H n ⟨m,rfl,h2,rfl⟩
  refine ⟨_,_,1,?_,rfl,rfl,rfl⟩
  first|refine ren_env [(0,4)] ?_ ?_ ?_ trivial|refine ren_envB [(0,4)] rfl rfl ?_ ?_ ?_ trivial
  ·repeat' first|exact trivial|refine ⟨⟨by first|rfl|assumption,rfl⟩,?_⟩
  ·repeat' first|exact trivial|refine ⟨⟨ltB rfl,_,rfl,by first|rfl|assumption|exact get_ren rfl (by first|rfl|assumption|exact get_ren rfl h2)|exact get_ren rfl h2,by first|exact below1 rfl|exact below_dblk _ _ _|exact below_arr rfl⟩,?_⟩
  ·repeat' first|exact trivial|(refine And.intro ?_ ?_)|(exact fun _=>rfl)|(exact fun h=>absurd h (Nat.ne_of_beq_eq_false rfl))
end Go.Tz
namespace Go.Tz
open Go Go.AL Go.Proofs Go.Ma
abbrev wkF (w nm:Nat) (F:FuncId):Blk:=.arr 3 [[.d (iD w),.sl nm 4 0 w w true,.fn F [.ptr 2 3 0 0] []]]
def rangesOf:Code->List (Code × Code)
 | .seq c d=>rangesOf c++rangesOf d
 | .cond _ c d=>rangesOf c++rangesOf d
 | .block _ c=>rangesOf c
 | .scope c=>rangesOf c
 | .rangeFunc _ _ a b=>[(a,b)]
 | _=>[]
noncomputable def rgI (f:Func) (i:Nat):Code × Code:=match f.body with
 | some c=>(rangesOf c).getD i (.skip,.skip)
 | none=>(.skip,.skip)
def prS (p:Ps) (rf:Nat->Ps) (a0 m j:Nat):Ps:=if j<m/\j≠a0/\comV p (rf j)=false then mulS (rf j) (rf a0) else rf j
section
variable {p:Ps} {rf:Nat->Ps} {a0 m:Nat}
theorem prS_0 {j:Nat}:prS p rf a0 0 j=rf j:=by unfold prS;rw [if_neg (by omega)]
theorem prS_at:prS p rf a0 m m=rf m:=by unfold prS;rw [if_neg (by omega)]
theorem prS_a0:prS p rf a0 m a0=rf a0:=by unfold prS;rw [if_neg fun h=>h.2.1 rfl]
theorem prS_new (h1:m≠a0) (h2:comV p (rf m)=false):prS p rf a0 (m+1) m=mulS (rf m) (rf a0):=by unfold prS;rw [if_pos ⟨by omega,h1,h2⟩]
theorem prS_step (j:Nat):(if j=m then Ps.l (prS p rf a0 (m+1) m) else Ps.l (prS p rf a0 m j))=Ps.l (prS p rf a0 (m+1) j):=by
 by_cases h:j=m
 ·rw [if_pos h,h]
 ·rw [if_neg h]
  unfold prS
  have e:(j<m+1/\j≠a0/\comV p (rf j)=false) ↔ (j<m/\j≠a0/\comV p (rf j)=false):=by constructor <;> (rintro ⟨a,b,c⟩;exact ⟨by omega,b,c⟩)
  simp only [e]
theorem prS_same (h:comV p (rf m)=true\/m=a0):prS p rf a0 (m+1)=prS p rf a0 m:=by
 funext j
 unfold prS
 by_cases hj:j=m
 ·subst hj
  rw [if_neg,if_neg (by omega)]
  rintro ⟨_,h2,h3⟩
  rcases h with h|h
  ·rw [h] at h3;cases h3
  ·exact h2 h
 ·have e:(j<m+1/\j≠a0/\comV p (rf j)=false) ↔ (j<m/\j≠a0/\comV p (rf j)=false):=by constructor <;> (rintro ⟨a,b,c⟩;exact ⟨by omega,b,c⟩)
  simp only [e]
end
theorem bneT {a:Int} {k:Bool->Prop} (h:k false):∀ t,(a != a)=t->k t:=fun t e=>by
 have e2:false=t:=(show (a != a)=false by simp).symm.trans e
 exact e2 ▸ h
theorem bneF {a b:Int} (hne:a≠b) {k:Bool->Prop} (h:k true):∀ t,(a != b)=t->k t:=fun t e=>by
 have e2:true=t:=(show (a != b)=true by simpa using hne).symm.trans e
 exact e2 ▸ h
theorem chk136:chkFn Tryz.f136=true:=by kernel_rfl
theorem measure136c {w n o:Nat} (hw:1<=w/\w<=12) (hn:n<w) (ho:o<=1) (F:FuncId) {rf:Nat->Ps} {a0:Nat} {R:List Nat} (hpv:Vl w (zP w n o)) (hvl:∀ j,j<w->Vl w (rf j)) (hA:antL (zP w n o) rf w=a0::R)
  (hx2:PC Pr GG 107 [.agg [iD w,.sl ((List.range w).map fun j=>Ps.l (rf j)) true],(zP w n o).d] (iD 0)) :
  ACall Pr GG 136 [.ptr 2 3 0 0,.d (iD n),.d (iD o)] [(2,some (wkF w 3 F)),(3,some (dblk 4 ((List.range w).map fun j=>Ps.l (rf j))))] 12 fun v H n'=>v = .d (.tup [iD 1,iD 0])/\H.get 2=some (wkF w 12 F)/\H.get 12=some (dblk 4 ((redRows (rowsL w (prjF rf (zP w n o) a0 R)) (2*w)).map Ps.l))/\n'=13:=by
 have hsh:ishl .i64 1 (n:Int)=((2^n:Nat):Int):=pow_nat (by omega)
 have him:imul .i64 2 (o:Int)=((2*o:Nat):Int):=imul_nat (a:=2) (by omega)
 have hPv:=prjF_vl hw.2 hvl hpv (ant_spec hA).1 (R:=R)
 have hcan:=canon105o (G:=GG) hw (rowsL w (prjF rf (zP w n o) a0 R)) true (by simp;omega) (fun q hq=>by
  obtain ⟨j,hj,rfl⟩:=List.mem_map.1 hq
  exact hPv j (List.mem_range.1 hj))
 obtain ⟨sp1,sp2,sp3,sp4⟩:=ant_spec hA
 have hno:(∀ j,j<w->comV (zP w n o) (rf j)=true)->False:=fun h=>by
  have:=h a0 sp1
  rw [sp2] at this;cases this
 have hcan2:PO Pr GG 105 [.agg [iD w,.sl ((List.range w).map fun j=>Ps.l (prjF rf (zP w n o) a0 R j)) true]] (.agg [.d (iD w),.sl 0 4 0 w w true]) [(0,some (dblk 4 ((redRows (rowsL w (prjF rf (zP w n o) a0 R)) (2*w)).map Ps.l)))] 1:=by
  have eR:(rowsL w (prjF rf (zP w n o) a0 R)).map Ps.l=(List.range w).map fun j=>Ps.l (prjF rf (zP w n o) a0 R j):=by unfold rowsL;rw [List.map_map];rfl
  have eL:(rowsL w (prjF rf (zP w n o) a0 R)).length=w:=by simp
  rw [<- eR]
  rw [eL] at hcan
  exact hcan
 clear hcan
 have hRm:∀ j,j∈R ↔ j<w/\j≠a0/\comV (zP w n o) (rf j)=false:=fun j=>by
  have hm:j∈a0::R ↔ j<w/\comV (zP w n o) (rf j)=false:=by
   rw [<- hA];unfold antL;rw [List.mem_filter,List.mem_range];simp
  have hnd:(a0::R).Nodup:=by rw [<- hA];exact (List.nodup_range).filter _
  have haR:a0 ∉ R:=(List.nodup_cons.1 hnd).1
  constructor
  ·intro h
   have:=hm.1 (List.mem_cons_of_mem _ h)
   exact ⟨this.1,fun q=>haR (q ▸ h),this.2⟩
  ·rintro ⟨h1,h2,h3⟩
   rcases List.mem_cons.1 (hm.2 ⟨h1,h3⟩) with q|q
   ·exact absurd q h2
   ·exact q
 have hB0:chkCode Tryz.f136.ntmps (rgI Tryz.f136 0).2=true:=by kernel_rfl
 have hB1:chkCode Tryz.f136.ntmps (rgI Tryz.f136 1).2=true:=by kernel_rfl
 refine acall_sub (fn_walk pok Tryz.func136 chk136 (K:=fun v H m=>v = .d (.tup [iD 1,iD 0])/\H.get 2=some (wkF w 24 F)/\H.get 24=some (dblk 4 ((redRows (rowsL w (prjF rf (zP w n o) a0 R)) (2*w)).map Ps.l))) ?_) ?_
 ·conv=>whnf
  repeat' first|((first|refine LookP.mk _ (by first|rfl|exact lendW rfl (by simp)) ?_|refine ShlP.mk _ (by first|(simp only [List.set,over,List.take,List.drop,List.append_eq,List.nil_append,List.cons_append,List.length];rfl)|rfl) ?_|refine And.intro (by first|assumption|exact ⟨by kernel_rfl,rfl⟩|decide|omega) ?_|rw [hsh]|rw [him]|refine spine_rd (l:=[3]) (rd_call rfl rfl (show _=some (dblk 4 ((List.range w).map fun j=>Ps.l (rf j))) from rfl)) ?_|refine pc_head hx2 ?_|refine beqF1 rfl ?_|refine HpP.force ?_);conv=>whnf)
  refine call_walk pok Tryz.func195 chk195 ?_
  conv=>whnf
  skip
  refine call_walk pok Tryz.func247 chk247 ?_
  conv=>whnf
  repeat' first|(refine LookP.mk _ rfl ?_;conv=>whnf)
  refine for_use pok (fun i=>⟨[(0,.yld 18),(4,.d (.fn 114 [.agg [iD w,iD 0,iD ((2^n:Nat):Int),iD ((2*o:Nat):Int)]] [])),(14,.sl 3 4 0 w w true),(15,.d (iD w)),(16,.d (iD i))],[(2,some (wkF w 3 F)),(3,some (dblk 4 ((List.range w).map fun j=>Ps.l (rf j)))),(12,some (.arr 1 [[.ptr 2 3 0 0]])),(13,some (.arr 4 [[.d (iD w),.d (iD 0),.d (iD ((2^n:Nat):Int)),.d (iD ((2*o:Nat):Int))]])),(14,some (.arr 1 [[.d (iD (-1))]])),(15,some (.arr 1 [[.ptr 2 3 0 0]])),(16,some (.arr 4 [[.d (iD w),.d (iD 0),.d (iD ((2^n:Nat):Int)),.d (iD ((2*o:Nat):Int))]])),(17,some (.raw (.deferred (some [])))),(18,some (.lp [(34,.fn 247 [] [.ptr 16 4 0 0,.ptr 15 1 0 0]),(33,.d (.agg [iD w,iD 0,iD ((2^n:Nat):Int),iD ((2*o:Nat):Int)])),(32,.ptr 2 3 0 0),(9,.ptr 14 1 0 0),(30,.d (.bool false)),(31,.d (.bool false)),(28,.d (.bool false)),(29,.d (.bool false)),(27,.d (iD 0)),(26,.d (.agg [iD w,iD 0,iD ((2^n:Nat):Int),iD ((2*o:Nat):Int)])),(25,.agg [.d (iD w),.sl 3 4 0 w w true]),(24,.ptr 2 3 0 0),(23,.ptr 2 3 0 0),(22,.ptr 2 3 0 0),(8,.ptr 13 4 0 0),(21,.d (.agg [iD w,iD 0,iD ((2^n:Nat):Int),iD ((2*o:Nat):Int)])),(20,.d (iD ((2*o:Nat):Int))),(19,.d (iD o)),(18,.d (iD ((2^n:Nat):Int))),(17,.d (iD n)),(16,.d (iD w)),(15,.ptr 2 3 0 0),(14,.ptr 2 3 0 0),(13,.ptr 2 3 0 0),(12,.ptr 2 3 0 0),(7,.d (iD 0)),(6,.d (iD 0)),(3,.ptr 12 1 0 0),(0,.ptr 2 3 0 0),(1,.d (iD n)),(2,.d (iD o))] Tryz.f136.ntmps #[35] (rgI Tryz.f136 0).1 (rgI Tryz.f136 0).2 .ready none 17))],19⟩) (w) (fun i=>∀ j,j<i->comV (zP w n o) (rf j)=true) (by omega) ?_ (by kernel_rfl) ?_ ?_
  ·refine keep_env (by first|exact Nat.zero_le _|exact Nat.le_of_ble_eq_true rfl) ?_ ?_ trivial
   ·repeat' first|exact trivial|refine ⟨⟨by first|rfl|assumption,rfl⟩,?_⟩
   ·repeat' first|exact trivial|refine ⟨⟨ltB rfl,_,rfl,by first|rfl|assumption,by first|exact below1 rfl|exact below_dblk _ _ _|exact below_arr rfl|exact trivial|exact ⟨rfl,Nat.le_of_ble_eq_true rfl⟩⟩,?_⟩
  ·intro i A_i h_i I_i N_i
   have e_i:iadd .i64 (i:Int) 1=((i+1:Nat):Int):=iadd_nat (by first|omega|(simp at *;omega))
   have hc:=with114 (G:=GG) hw hpv (hvl i h_i)
   cases hb:comV (zP w n o) (rf i) with
   | true =>
    rw [hb] at hc
    conv=>whnf
    repeat (refine LookP.mk _ rfl ?_;conv=>whnf)
    intro t ht
    cases t
    ·exfalso;first|(simp at ht;done)|(simp at ht;omega)
    conv=>whnf
    repeat' first|((first|refine LookP.mk _ (by first|rfl|exact get_rw h_i) ?_|refine ShlP.mk _ (by first|(simp only [List.set,over,List.take,List.drop,List.append_eq,List.nil_append,List.cons_append,List.length];rfl)|rfl) ?_|refine And.intro (by first|assumption|exact ⟨by kernel_rfl,rfl⟩|decide|omega) ?_|refine pc_use hc ?_|refine HpP.force ?_);conv=>whnf)
    refine N_i _ ?_ ?_
    ·(intro j hj;rcases Nat.lt_or_ge j i with h|h;exact I_i j h;rw [show j=i by omega];exact hb)
    ·refine keep_env (by first|exact Nat.zero_le _|exact Nat.le_of_ble_eq_true rfl) ?_ ?_ trivial
     ·repeat' first|exact trivial|refine ⟨⟨by first|rfl|assumption|exact congrArg (fun n=>AV.d (iD n)) e_i,rfl⟩,?_⟩
     ·repeat' first|exact trivial|refine ⟨⟨ltB rfl,_,rfl,by first|rfl|assumption,by first|exact below1 rfl|exact below_dblk _ _ _|exact below_arr rfl|exact trivial|exact ⟨rfl,Nat.le_of_ble_eq_true rfl⟩⟩,?_⟩
   | false =>
    rw [hb] at hc
    have hia:i=a0:=by
     rcases Nat.lt_trichotomy i a0 with q|q|q
     ·have:=sp3 i q
      rw [hb] at this;cases this
     ·exact q
     ·have:=I_i a0 q
      rw [sp2] at this;cases this
    conv=>whnf
    repeat (refine LookP.mk _ rfl ?_;conv=>whnf)
    intro t ht
    cases t
    ·exfalso;first|(simp at ht;done)|(simp at ht;omega)
    conv=>whnf
    repeat' first|((first|refine LookP.mk _ (by first|rfl|exact get_rw h_i) ?_|refine ShlP.mk _ (by first|(simp only [List.set,over,List.take,List.drop,List.append_eq,List.nil_append,List.cons_append,List.length];rfl)|rfl) ?_|refine And.intro (by first|assumption|exact ⟨by kernel_rfl,rfl⟩|decide|omega) ?_|refine pc_use hc ?_|refine HpP.force ?_);conv=>whnf)
    refine round_walk pok ?_
    conv=>whnf
    repeat' first|((first|refine LookP.mk _ rfl ?_|refine ShlP.mk _ (by first|(simp only [List.set,over,List.take,List.drop,List.append_eq,List.nil_append,List.cons_append,List.length];rfl)|rfl) ?_|refine HpP.force ?_);conv=>whnf)
    refine call_walk pok Tryz.func195 chk195 ?_
    conv=>whnf
    skip
    refine call_walk pok Tryz.func247 chk247 ?_
    conv=>whnf
    repeat' first|(refine LookP.mk _ rfl ?_;conv=>whnf)
    refine for_use pok (fun m=>⟨[(0,.yld 23),(4,.d (.fn 114 [.agg [iD w,iD 0,iD ((2^n:Nat):Int),iD ((2*o:Nat):Int)]] [])),(14,.sl 3 4 0 w w true),(15,.d (iD w)),(16,.d (iD m))],[(2,some (wkF w 3 F)),(3,some (dblk 4 ((List.range w).map fun j=>Ps.l (prS (zP w n o) rf a0 m j)))),(12,some (.arr 1 [[.ptr 2 3 0 0]])),(13,some (.arr 4 [[.d (iD w),.d (iD 0),.d (iD ((2^n:Nat):Int)),.d (iD ((2*o:Nat):Int))]])),(14,some (.arr 1 [[.d (iD a0)]])),(17,some (.raw (.deferred (some [])))),(20,some (.arr 1 [[.ptr 2 3 0 0]])),(21,some (.arr 4 [[.d (iD w),.d (iD 0),.d (iD ((2^n:Nat):Int)),.d (iD ((2*o:Nat):Int))]])),(22,some (.raw (.deferred (some [])))),(23,some (.lp [(39,.fn 247 [] [.ptr 21 4 0 0,.ptr 20 1 0 0]),(38,.d (.agg [iD w,iD 0,iD ((2^n:Nat):Int),iD ((2*o:Nat):Int)])),(37,.ptr 2 3 0 0),(34,.fn 247 [] [.ptr 16 4 0 0,.ptr 15 1 0 0]),(33,.d (.agg [iD w,iD 0,iD ((2^n:Nat):Int),iD ((2*o:Nat):Int)])),(32,.ptr 2 3 0 0),(9,.ptr 14 1 0 0),(30,.d (.bool false)),(31,.d (.bool false)),(28,.d (.bool false)),(29,.d (.bool false)),(27,.d (iD 0)),(26,.d (.agg [iD w,iD 0,iD ((2^n:Nat):Int),iD ((2*o:Nat):Int)])),(25,.agg [.d (iD w),.sl 3 4 0 w w true]),(24,.ptr 2 3 0 0),(23,.ptr 2 3 0 0),(22,.ptr 2 3 0 0),(8,.ptr 13 4 0 0),(21,.d (.agg [iD w,iD 0,iD ((2^n:Nat):Int),iD ((2*o:Nat):Int)])),(20,.d (iD ((2*o:Nat):Int))),(19,.d (iD o)),(18,.d (iD ((2^n:Nat):Int))),(17,.d (iD n)),(16,.d (iD w)),(15,.ptr 2 3 0 0),(14,.ptr 2 3 0 0),(13,.ptr 2 3 0 0),(12,.ptr 2 3 0 0),(7,.d (iD 0)),(6,.d (iD 0)),(3,.ptr 12 1 0 0),(0,.ptr 2 3 0 0),(1,.d (iD n)),(2,.d (iD o))] Tryz.f136.ntmps #[40] (rgI Tryz.f136 1).1 (rgI Tryz.f136 1).2 .ready none 22))],24⟩) (w) (fun _=>True) (trivial) ?_ (by kernel_rfl) ?_ ?_
    ·refine keep_env (by first|exact Nat.zero_le _|exact Nat.le_of_ble_eq_true rfl) ?_ ?_ trivial
     ·repeat' first|exact trivial|refine ⟨⟨by first|rfl|assumption,rfl⟩,?_⟩
     ·repeat' first|exact trivial|refine ⟨⟨ltB rfl,_,rfl,by first|rfl|assumption|exact congrArg some (psB_congr fun j=>by rw [prS_0])|(rw [hia];rfl),by first|exact below1 rfl|exact below_dblk _ _ _|exact below_arr rfl|exact trivial|exact ⟨rfl,Nat.le_of_ble_eq_true rfl⟩⟩,?_⟩
    ·intro m A_m h_m I_m N_m
     have e_m:iadd .i64 (m:Int) 1=((m+1:Nat):Int):=iadd_nat (by first|omega|(simp at *;omega))
     have hcm:=with114 (G:=GG) hw hpv (hvl m h_m)
     have hst:∀ j,(if j=m then Ps.l (prS (zP w n o) rf a0 (m+1) m) else Ps.l (prS (zP w n o) rf a0 m j))=Ps.l (prS (zP w n o) rf a0 (m+1) j):=fun j=>prS_step j
     have hgm:(fun j=>Ps.l (prS (zP w n o) rf a0 m j)) m=Ps.l (rf m):=by dsimp only;rw [prS_at]
     cases hbm:comV (zP w n o) (rf m) with
     | true =>
      rw [hbm] at hcm
      have hsame:∀ j,Ps.l (prS (zP w n o) rf a0 m j)=Ps.l (prS (zP w n o) rf a0 (m+1) j):=fun j=>by rw [prS_same (.inl hbm)]
      generalize prS (zP w n o) rf a0 m=g at hgm hsame hst
      conv=>whnf
      repeat (refine LookP.mk _ rfl ?_;conv=>whnf)
      intro t ht
      cases t
      ·exfalso;first|(simp at ht;done)|(simp at ht;omega)
      conv=>whnf
      repeat' first|((first|refine LookP.mk _ (by first|rfl|exact get_rwE h_m hgm) ?_|refine ShlP.mk _ (by first|(simp only [List.set,over,List.take,List.drop,List.append_eq,List.nil_append,List.cons_append,List.length];rfl)|rfl) ?_|refine And.intro (by first|assumption|exact ⟨by kernel_rfl,rfl⟩|decide|omega) ?_|refine pc_use hcm ?_|refine HpP.force ?_);conv=>whnf)
      refine N_m _ ?_ ?_
      ·first|trivial|assumption|omega
      ·refine keep_env (by first|exact Nat.zero_le _|exact Nat.le_of_ble_eq_true rfl) ?_ ?_ trivial
       ·repeat' first|exact trivial|refine ⟨⟨by first|rfl|assumption|exact congrArg (fun n=>AV.d (iD n)) e_m,rfl⟩,?_⟩
       ·repeat' first|exact trivial|refine ⟨⟨ltB rfl,_,rfl,by first|rfl|assumption|exact congrArg some (psB_congr hsame),by first|exact below1 rfl|exact below_dblk _ _ _|exact below_arr rfl|exact trivial|exact ⟨rfl,Nat.le_of_ble_eq_true rfl⟩⟩,?_⟩
     | false =>
      rw [hbm] at hcm
      by_cases hma:m=a0
      ·have hsame:∀ j,Ps.l (prS (zP w n o) rf a0 m j)=Ps.l (prS (zP w n o) rf a0 (m+1) j):=fun j=>by rw [prS_same (.inr hma)]
       generalize prS (zP w n o) rf a0 m=g at hgm hsame hst
       generalize prS (zP w n o) rf a0 (m+1)=g' at hsame hst N_m
       subst hma
       conv=>whnf
       repeat (refine LookP.mk _ rfl ?_;conv=>whnf)
       intro t ht
       cases t
       ·exfalso;first|(simp at ht;done)|(simp at ht;omega)
       conv=>whnf
       repeat' first|((first|refine LookP.mk _ (by first|rfl|exact get_rwE h_m hgm) ?_|refine ShlP.mk _ (by first|(simp only [List.set,over,List.take,List.drop,List.append_eq,List.nil_append,List.cons_append,List.length];rfl)|rfl) ?_|refine And.intro (by first|assumption|exact ⟨by kernel_rfl,rfl⟩|decide|omega) ?_|refine pc_use hcm ?_|refine HpP.force ?_);conv=>whnf)
       refine round_walk pok ?_
       conv=>whnf
       repeat' first|((first|refine LookP.mk _ rfl ?_|rw [hB1]|refine bneT ?_);conv=>whnf)
       refine N_m _ ?_ ?_
       ·first|trivial|assumption|omega
       ·refine keep_env (by first|exact Nat.zero_le _|exact Nat.le_of_ble_eq_true rfl) ?_ ?_ trivial
        ·repeat' first|exact trivial|refine ⟨⟨by first|rfl|assumption|exact congrArg (fun n=>AV.d (iD n)) e_m,rfl⟩,?_⟩
        ·repeat' first|exact trivial|refine ⟨⟨ltB rfl,_,rfl,by first|rfl|assumption|exact congrArg some (psB_congr hsame),by first|exact below1 rfl|exact below_dblk _ _ _|exact below_arr rfl|exact trivial|exact ⟨rfl,Nat.le_of_ble_eq_true rfl⟩⟩,?_⟩
      ·have hma':(m:Int)≠a0:=by omega
       have hta:=times183v (G:=GG) hw (rf m) [rf a0] true (by simp) (hvl m h_m) (by intro r hr;rw [List.mem_singleton.1 hr];exact hvl a0 sp1)
       have hme2:([rf a0].foldl mulS (rf m))=prS (zP w n o) rf a0 (m+1) m:=(prS_new hma hbm).symm
       rw [hme2] at hta
       have hga:prS (zP w n o) rf a0 m a0=rf a0:=prS_a0
       generalize prS (zP w n o) rf a0 m=g at hgm hst hga
       generalize hg1:prS (zP w n o) rf a0 (m+1)=g' at hst hta N_m
       generalize hr':g' m=r' at hta hst
       have hst2:∀ j,(if j=m then [iD r'.w,iD r'.x,iD r'.z,iD r'.p] else Ps.l (g j))=Ps.l (g' j):=hst
       have hgA:(fun j=>Ps.l (g j)) a0=Ps.l (rf a0):=by dsimp only;rw [hga]
       conv=>whnf
       repeat (refine LookP.mk _ rfl ?_;conv=>whnf)
       intro t ht
       cases t
       ·exfalso;first|(simp at ht;done)|(simp at ht;omega)
       conv=>whnf
       repeat' first|((first|refine LookP.mk _ (by first|rfl|exact get_rwE h_m hgm) ?_|refine ShlP.mk _ (by first|(simp only [List.set,over,List.take,List.drop,List.append_eq,List.nil_append,List.cons_append,List.length];rfl)|rfl) ?_|refine And.intro (by first|assumption|exact ⟨by kernel_rfl,rfl⟩|decide|omega) ?_|refine pc_use hcm ?_|refine HpP.force ?_);conv=>whnf)
       refine round_walk pok ?_
       conv=>whnf
       repeat' first|((first|refine LookP.mk _ (by first|rfl|exact get_rwE h_m hgm|exact get_rwE sp1 hgA) ?_|refine ShlP.mk _ (by first|exact set_rw (x:=[_,_,_,_]) h_m|(simp only [List.set,over,List.take,List.drop,List.append_eq,List.nil_append,List.cons_append,List.length];rfl)|rfl) ?_|refine And.intro (by first|exact ⟨Int.natCast_nonneg _,by omega⟩|assumption|exact ⟨by kernel_rfl,rfl⟩|decide|omega) ?_|rw [hB1]|refine bneF hma' ?_|refine pc_head hta ?_|refine HpP.force ?_);conv=>whnf)
       refine N_m _ ?_ ?_
       ·first|trivial|assumption|omega
       ·refine keep_env (by first|exact Nat.zero_le _|exact Nat.le_of_ble_eq_true rfl) ?_ ?_ trivial
        ·repeat' first|exact trivial|refine ⟨⟨by first|rfl|assumption|exact congrArg (fun n=>AV.d (iD n)) e_m,rfl⟩,?_⟩
        ·repeat' first|exact trivial|refine ⟨⟨ltB rfl,_,rfl,by first|rfl|assumption|exact congrArg some (psB_congr hst2),by first|exact below1 rfl|exact below_dblk _ _ _|exact below_arr rfl|exact trivial|exact ⟨rfl,Nat.le_of_ble_eq_true rfl⟩⟩,?_⟩
    ·intro A_last I_last
     have hfin:∀ j,(if j=a0 then [iD w,iD 0,iD ((2^n:Nat):Int),iD ((2*o:Nat):Int)] else Ps.l (prS (zP w n o) rf a0 w j))=Ps.l (prjF rf (zP w n o) a0 R j):=fun j=>by
      unfold prjF prjR prS
      by_cases h:j=a0
      ·rw [if_pos h,if_pos h];rfl
      ·rw [if_neg h,if_neg h]
       by_cases hr:j∈R
       ·rw [if_pos hr,if_pos ((hRm j).1 hr)]
       ·rw [if_neg hr,if_neg fun q=>hr ((hRm j).2 q)]
     have hgA:(fun j=>Ps.l (prS (zP w n o) rf a0 w j)) a0=Ps.l (rf a0):=by dsimp only;rw [prS_a0]
     generalize prS (zP w n o) rf a0 w=g at hfin hgA
     generalize prjF rf (zP w n o) a0 R=g' at hfin hcan2 ⊢
     conv=>whnf
     repeat (refine LookP.mk _ rfl ?_;conv=>whnf)
     intro t ht
     cases t
     rotate_left
     ·exfalso;first|(simp at ht;done)|(simp at ht;omega)
     conv=>whnf
     repeat' first|((first|refine LookP.mk _ (by first|rfl|exact get_rwE sp1 hgA|exact lendA (congrArg some (psB_congr hfin)) (by simp)) ?_|refine ShlP.mk _ (by first|exact set_rw (x:=[_,_,_,_]) sp1|(simp only [List.set,over,List.take,List.drop,List.append_eq,List.nil_append,List.cons_append,List.length];rfl)|rfl) ?_|refine And.intro (by first|exact ⟨Int.natCast_nonneg _,by omega⟩|assumption|exact ⟨by kernel_rfl,rfl⟩|decide|omega) ?_|refine spine_rd (l:=[3]) (rd_call rfl rfl (show _=some (dblk 4 ((List.range w).map fun j=>Ps.l (g' j))) from congrArg some (psB_congr hfin))) ?_|refine po_head hcan2 ?_|rw [flOf_rows]|refine ShhP.mk _ rfl ?_|refine HpP.force ?_);conv=>whnf)
     refine fin ⟨rfl,rfl,?_⟩
     show some (Blk.ren _ (dblk 4 _))=_
     rw [ren_dblk]
  ·intro A_last I_last
   exact (hno I_last).elim
 ·rintro v H m ⟨rfl,h2,h3⟩
  refine ⟨.d (.tup [iD 1,iD 0]),[(2,some (wkF w 12 F)),(12,some (dblk 4 ((redRows (rowsL w (prjF rf (zP w n o) a0 R)) (2*w)).map Ps.l)))],13,?_,rfl,rfl,rfl,rfl⟩
  first|refine ren_env [(2,2),(12,24)] ?_ ?_ ?_ trivial|refine ren_envB [(2,2),(12,24)] rfl rfl ?_ ?_ ?_ trivial
  ·repeat' first|exact trivial|refine ⟨⟨by first|rfl|assumption,rfl⟩,?_⟩
  ·repeat' first|exact trivial|refine ⟨⟨ltB rfl,_,rfl,by first|rfl|assumption|exact get_ren rfl (by first|rfl|assumption|exact h2|exact get_ren rfl h3|exact get_ren rfl h2)|exact h2|exact get_ren rfl h3|exact get_ren rfl h2,by first|exact below1 rfl|exact below_dblk _ _ _|exact below_arr rfl⟩,?_⟩
  ·repeat' first|exact trivial|(refine And.intro ?_ ?_)|(exact fun _=>rfl)|(exact fun h=>absurd h (Nat.ne_of_beq_eq_false rfl))
end Go.Tz
namespace Go.Tz
open Go Go.AL Go.Proofs Go.Ma
abbrev mK (w:Nat) (F:FuncId) (v:AV) (nm:Nat) (R:List Ps):AV->AHeap->Nat->Prop:=fun v' H n'=>v'=v/\H.get 2=some (wkF w nm F)/\H.get nm=some (dblk 4 (R.map Ps.l))/\n'=13
abbrev mA (w:Nat) (F:FuncId) (L:List Ps):AHeap:=[(2,some (wkF w 3 F)),(3,some (dblk 4 (L.map Ps.l)))]
abbrev rV (n e:Int):AV:=.d (.tup [iD n,iD e])
theorem measure136s {w n o:Nat} {L:List Ps} (hs:SOk w L) (hn:n<w) (ho:o<=1) (F:FuncId) {e r:Int} (he:expP L (zP w n o)=e) (h:(e=1/\r=0)\/(e = -1/\r=6)) :
  ACall Pr GG 136 [.ptr 2 3 0 0,.d (iD n),.d (iD o)] (mA w F L) 12 (mK w F (rV 0 r) 3 L):=by
 have hlen:=hs.len
 have hhi:=hs.hi
 have hpv:=zP_vl hn ho
 have hx:=expected107 hs true hpv
 rw [he] at hx
 have hsh:ishl .i64 1 (n:Int)=((2^n:Nat):Int):=pow_nat (by omega)
 have him:imul .i64 2 (o:Int)=((2*o:Nat):Int):=imul_nat (a:=2) (by omega)
 have hx2:PC Pr GG 107 [.agg [iD w,.sl (L.map Ps.l) true],(zP w n o).d] (iD e):=hx
 clear he hx
 rcases h with ⟨rfl,rfl⟩|⟨rfl,rfl⟩
 ·refine acall_sub (fn_walk pok Tryz.func136 chk136 (K:=fun v H m=>v=rV 0 0/\H.get 2=some (wkF w 3 F)/\H.get 3=some (dblk 4 (L.map Ps.l))) ?_) ?_
  ·conv=>whnf
   repeat' first|((first|refine LookP.mk _ (by first|rfl|exact lendW rfl (by rw [List.length_map,hlen])) ?_|refine ShlP.mk _ (by first|(simp only [List.set,over,List.take,List.drop,List.append_eq,List.nil_append,List.cons_append,List.length];rfl)|rfl) ?_|refine And.intro (by first|assumption|exact ⟨by kernel_rfl,rfl⟩|decide|omega) ?_|rw [hsh]|rw [him]|refine spine_rd (l:=[3]) (rd_call rfl rfl (show _=some (dblk 4 (L.map Ps.l)) from rfl)) ?_|refine pc_head hx2 ?_|refine beqT1 ?_|refine HpP.force ?_);conv=>whnf)
   exact fin ⟨rfl,rfl,rfl⟩
  ·rintro v H m ⟨rfl,h2,h3⟩
   refine ⟨rV 0 0,mA w F L,13,?_,rfl,rfl,rfl,rfl⟩
   first|refine ren_env [(2,2),(3,3)] ?_ ?_ ?_ trivial|refine ren_envB [(2,2),(3,3)] rfl rfl ?_ ?_ ?_ trivial
   ·repeat' first|exact trivial|refine ⟨⟨by first|rfl|assumption,rfl⟩,?_⟩
   ·repeat' first|exact trivial|refine ⟨⟨ltB rfl,_,rfl,by first|rfl|assumption|exact get_ren rfl (by first|rfl|assumption|exact get_ren rfl h3|exact get_ren rfl h2)|exact get_ren rfl h3|exact get_ren rfl h2,by first|exact below1 rfl|exact below_dblk _ _ _|exact below_arr rfl⟩,?_⟩
   ·repeat' first|exact trivial|(refine And.intro ?_ ?_)|(exact fun _=>rfl)|(exact fun h=>absurd h (Nat.ne_of_beq_eq_false rfl))
 ·refine acall_sub (fn_walk pok Tryz.func136 chk136 (K:=fun v H m=>v=rV 0 6/\H.get 2=some (wkF w 3 F)/\H.get 3=some (dblk 4 (L.map Ps.l))) ?_) ?_
  ·conv=>whnf
   repeat' first|((first|refine LookP.mk _ (by first|rfl|exact lendW rfl (by rw [List.length_map,hlen])) ?_|refine ShlP.mk _ (by first|(simp only [List.set,over,List.take,List.drop,List.append_eq,List.nil_append,List.cons_append,List.length];rfl)|rfl) ?_|refine And.intro (by first|assumption|exact ⟨by kernel_rfl,rfl⟩|decide|omega) ?_|rw [hsh]|rw [him]|refine spine_rd (l:=[3]) (rd_call rfl rfl (show _=some (dblk 4 (L.map Ps.l)) from rfl)) ?_|refine pc_head hx2 ?_|refine beqT1 ?_|refine beqF1 rfl ?_|refine HpP.force ?_);conv=>whnf)
   exact fin ⟨rfl,rfl,rfl⟩
  ·rintro v H m ⟨rfl,h2,h3⟩
   refine ⟨rV 0 6,mA w F L,13,?_,rfl,rfl,rfl,rfl⟩
   first|refine ren_env [(2,2),(3,3)] ?_ ?_ ?_ trivial|refine ren_envB [(2,2),(3,3)] rfl rfl ?_ ?_ ?_ trivial
   ·repeat' first|exact trivial|refine ⟨⟨by first|rfl|assumption,rfl⟩,?_⟩
   ·repeat' first|exact trivial|refine ⟨⟨ltB rfl,_,rfl,by first|rfl|assumption|exact get_ren rfl (by first|rfl|assumption|exact get_ren rfl h3|exact get_ren rfl h2)|exact get_ren rfl h3|exact get_ren rfl h2,by first|exact below1 rfl|exact below_dblk _ _ _|exact below_arr rfl⟩,?_⟩
   ·repeat' first|exact trivial|(refine And.intro ?_ ?_)|(exact fun _=>rfl)|(exact fun h=>absurd h (Nat.ne_of_beq_eq_false rfl))
theorem measure136f {w n o:Nat} {L:List Ps} (hs:SOk w L) (hn:n<w) (ho:o<=1) (F:FuncId) {a0:Nat} {R:List Nat} (he:expP L (zP w n o)=0) (hA:antL (zP w n o) (fun j=>L.getD j Ps.z0) w=a0::R) :
  ACall Pr GG 136 [.ptr 2 3 0 0,.d (iD n),.d (iD o)] (mA w F L) 12 (mK w F (rV 1 0) 12 (redRows (rowsL w (prjF (fun j=>L.getD j Ps.z0) (zP w n o) a0 R)) (2*w))):=by
 have hlen:=hs.len
 have hpv:=zP_vl hn ho
 have hx:=expected107 hs true hpv
 rw [he] at hx
 have hvl:∀ j,j<w->Vl w (L.getD j Ps.z0):=fun j hj=>by
  rw [List.getD_eq_getElem?_getD,List.getElem?_eq_getElem (by rw [hlen];exact hj),Option.getD_some]
  exact hs.vl _ (List.getElem_mem _)
 have hLm:L.map Ps.l=(List.range w).map fun j=>Ps.l ((fun j=>L.getD j Ps.z0) j):=by
  have:=rowsL_get L hlen
  conv=>lhs;rw [<- this]
  unfold rowsL;rw [List.map_map];rfl
 have hx2:PC Pr GG 107 [.agg [iD w,.sl (L.map Ps.l) true],(zP w n o).d] (iD 0):=hx
 unfold mA
 rw [hLm] at hx2 ⊢
 exact measure136c ⟨hs.lo,hs.hi⟩ hn ho F hpv hvl hA hx2
structure WC (f:FuncId) (args:List AV) (w:Nat) (F:FuncId) (L:List Ps) (v:AV) (nm:Nat) (R:List Ps):Prop where
 fn:IsFn Pr f
 call:ACall Pr GG f args (mA w F L) 12 (mK w F v nm R)
theorem work_call {f:FuncId} {args:List AV} {w nm nx:Nat} {F:FuncId} {L R:List Ps} {v:AV} {H:AHeap} {k:AV->AHeap->Nat->Prop} (h:WC f args w F L v nm R) (hn:nx<=12)
  (h2:H.get 2=some (wkF w 3 F)) (h3:H.get 3=some (dblk 4 (L.map Ps.l))) (hk:k v ((2,some (wkF w nm F))::(nm,some (dblk 4 (R.map Ps.l)))::AHeap.del H 3) 13):CallVC Pr GG f args H nx k:=by
 refine ⟨h.fn,acall_frame h.call hn (fun m b hg=>?_) ?_⟩
 ·rw [get_consI,get_consI] at hg
  by_cases e2:m=2
  ·rw [if_pos e2] at hg;rw [e2,h2,hg]
  ·rw [if_neg e2] at hg
   by_cases e3:m=3
   ·rw [if_pos e3] at hg;rw [e3,h3,hg]
   ·rw [if_neg e3] at hg;cases hg
 ·rintro v' H1 n' ⟨rfl,g2,g3,rfl⟩
  refine ⟨_,fun m b hg=>?_,hk⟩
  rw [get_consI,get_consI] at hg
  by_cases e2:m=2
  ·rw [if_pos e2] at hg;exact .inl (by rw [e2,g2,hg])
  ·rw [if_neg e2] at hg
   by_cases e3:m=nm
   ·rw [if_pos e3] at hg;exact .inl (by rw [e3,g3,hg])
   ·rw [if_neg e3,get_del] at hg
    by_cases e4:m=3
    ·rw [if_pos e4] at hg;cases hg
    ·rw [if_neg e4] at hg
     refine .inr ⟨?_,hg⟩
     rw [get_consI,get_consI,if_neg e2,if_neg e4];rfl
end Go.Tz
namespace Go.Tz
open Go Go.AL Go.Proofs Go.Ma
abbrev wA (n o:Nat):List AV:=[.ptr 2 3 0 0,.d (iD n),.d (iD o)]
theorem meas {w n o:Nat} {l r:List Ps} (h:SOk w l) (h':SOk w r) (hg:SameG (r.map nf) (l.map nf)) (hn:n<w) (ho:o<=1) (F:FuncId) :
  (expR w l (zP w n o)=1/\WC 136 (wA n o) w F r (rV 0 0) 3 r)\/(expR w l (zP w n o) = -1/\WC 136 (wA n o) w F r (rV 0 6) 3 r) ∨
  (expR w l (zP w n o)=0/\SOk w (prjL (zP w n o) l)/\WC 136 (wA n o) w F r (rV 1 0) 12 (redRows (prjL (zP w n o) l) (2*w))):=by
 have hpv:=zP_vl hn ho
 have hok:=zP_ok h.hi hn ho
 obtain ⟨e1,e2⟩:=mea_gen h h' hg hpv hok
 have hf:=isFn_of Tryz.func136 chk136
 rcases expOk_cases (expR_ok h hpv hok) with ⟨a,_⟩|⟨a,_⟩|⟨a,_⟩
 ·exact .inl ⟨a,hf,measure136s h' hn ho F (e1.trans a) (.inl ⟨rfl,rfl⟩)⟩
 ·exact .inr (.inl ⟨a,hf,measure136s h' hn ho F (e1.trans a) (.inr ⟨rfl,rfl⟩)⟩)
 ·obtain ⟨b,a0,R,hA,_,hR⟩:=e2 a
  refine .inr (.inr ⟨a,b,hf,?_⟩)
  rw [<- hR]
  exact measure136f h' hn ho F (e1.trans a) hA
end Go.Tz
namespace Go.Tz
open Go Go.AL Go.Proofs Go.Ma
def findReg (k:Nat):Code->Option (Array Oper)
 | .region id ops _=>if id=k then some ops else none
 | .seq c d=>(findReg k c).orElse fun _=>findReg k d
 | .cond _ c d=>(findReg k c).orElse fun _=>findReg k d
 | .block _ c=>findReg k c
 | .loop c=>findReg k c
 | .scope c=>findReg k c
 | _=>none
variable {ks:List (Nat × AV)} {hs:List (Nat × Blk)} {w nm:Nat} {f:FuncId} {A R:List Ps} {n o:Nat} {ug:Bool} {ch x:Int}
end Go.Tz
namespace Go.Tz
open Go Go.AL Go.Proofs Go.Ma
def xv (v:Nat):Nat:=v % 4096
def phE (e:E) (b:Nat):Nat:=(e.1+2*(bt e.2 b).toNat) % 4
theorem parF_congr {u v:Nat}:∀ k,(∀ i,i<k->u.testBit i=v.testBit i)->parF k u=parF k v
 | 0,_=>rfl
 | k+1,h=>by
  simp only [parF]
  rw [parF_congr k fun i hi=>h i (by omega),h k (by omega)]
theorem bt_xv (a b:Nat):bt a (xv b)=bt a b:=by
 unfold bt
 refine parF_congr 12 fun i hi=>?_
 rw [Nat.testBit_and,Nat.testBit_and,xv,show 4096=2^12 from rfl,Nat.testBit_mod_two_pow]
 simp [hi]
theorem xv_xor (a b:Nat):xv (a^^^b)=xv a^^^xv b:=by
 unfold xv
 rw [show 4096=2^12 from rfl,Nat.xor_mod_two_pow]
theorem phE_lt (e:E) (b:Nat):phE e b<4:=Nat.mod_lt _ (by decide)
theorem phE_mul (e f:E) (b:Nat):phE (emul e f) b=(phE f b+phE e (b^^^xv f.2)) % 4:=by
 unfold phE emul
 simp only [bt_xorl,bt_xorr,bt_xv]
 cases bt e.2 f.2 <;> cases bt e.2 b <;> cases bt f.2 b <;> simp <;> omega
theorem phE_one (b:Nat):phE e1 b=0:=by simp [phE,e1,bt_0l]
def Sup (L:List E) (k:Nat):Prop:=∀ g,Gen L g->xv g.2=0->phE g k=0
theorem sup_uniq {L:List E} (hL:Good L) {k:Nat} (h:Sup L k) {f g:E} (hf:Gen L f) (hg:Gen L g) (e:xv f.2=xv g.2):phE f k=phE g k:=by
 have hx:xv (emul f g).2=0:=by
  show xv (f.2^^^g.2)=0
  rw [xv_xor,e,Nat.xor_self]
 have h0:=h _ (gen_mul' hL hf hg) hx
 have e2:emul g (emul f g)=f:=by
  rw [emul_comm (gen_gcom hL hf hg),<- emul_assoc,emul_self (gen_ok hL hg),one_emul f (gen_ok hL hf).1]
 have:=phE_mul g (emul f g) k
 rw [e2,h0,hx,Nat.xor_zero] at this
 have h4:=phE_lt g k
 rw [this];omega
theorem gen_spx {L:List E} {g:E} (h:Gen L g):spB (L.map fun a=>xv a.2) (xv g.2)=true:=by
 induction h with
 | one=>exact sp_zero _
 | mul a f ha _ ih =>
  show spB _ (xv (a.2^^^f.2))=true
  rw [xv_xor]
  exact sp_xor _ _ _ (sp_mem _ _ (List.mem_map.2 ⟨a,ha,rfl⟩)) ih
theorem spx_gen {L:List E} {v:Nat}:∀ (M:List E),(∀ a,a∈M->a∈L)->spB (M.map fun a=>xv a.2) v=true->∃ g,Gen L g/\xv g.2=v
 | [],_,h=>⟨e1,.one,by simp only [List.map_nil,spB,beq_iff_eq] at h;rw [h];rfl⟩
 | a::M,hm,h=>by
  simp only [List.map_cons,spB,Bool.or_eq_true] at h
  rcases h with h|h
  ·exact spx_gen M (fun b hb=>hm b (List.mem_cons_of_mem _ hb)) h
  ·obtain ⟨g,h1,h2⟩:=spx_gen (v:=v^^^xv a.2) M (fun b hb=>hm b (List.mem_cons_of_mem _ hb)) h
   refine ⟨emul a g,.mul a g (hm a (by simp)) h1,?_⟩
   show xv (a.2^^^g.2)=v
   rw [xv_xor,h2,Nat.xor_comm v,<- Nat.xor_assoc,Nat.xor_self,Nat.zero_xor]
structure Amp (L:List E) (w lst m:Nat) (val:Nat->Option Nat):Prop where
 sup:Sup L lst
 lt:lst<2^w
 min:∀ k,k<2^w->Sup L k->lst<=k
 has:∀ b p,b<2^w->val b=some p->∃ g,Gen L g/\lst^^^xv g.2=b/\phE g lst=p
 no:∀ b,b<2^w->val b=none->∀ g,Gen L g->lst^^^xv g.2≠b
 rank:∃ A:List Nat,(∀ a,a∈A->a<2^12)/\Ind A/\A.length=m /\ ∀ v,spB A v=true ↔ ∃ g,Gen L g/\xv g.2=v
end Go.Tz
namespace Go.Tz
open Go Go.AL Go.Proofs Go.Ma
abbrev xB (q:Ps) (n:Nat):Bool:=q.x.toNat.testBit n
theorem xv_nf {w:Nat} (hw:w<=12) {q:Ps} (h:Vl w q):xv (nf q).2=q.x.toNat/\q.x.toNat<2^w/\q.x=(q.x.toNat:Int):=by
 obtain ⟨X,Z,P,rfl,h1,_,_⟩:=h
 have h2:X<4096:=Nat.lt_of_lt_of_le h1 (Nat.pow_le_pow_right (by decide) hw)
 rw [nf_mk]
 refine ⟨?_,?_,?_⟩
 ·show (X+4096*Z) % 4096=(X:Int).toNat
  rw [Int.toNat_natCast];omega
 ·show (X:Int).toNat<_
  rwa [Int.toNat_natCast]
 ·show (X:Int)=((X:Int).toNat:Int)
  rw [Int.toNat_natCast]
theorem x_mul {w:Nat} (hw:w<=12) {q r:Ps} (hq:Vl w q) (hr:Vl w r):(mulS q r).x.toNat=q.x.toNat^^^r.x.toNat:=by
 rw [<- (xv_nf hw (mul_vl hw hq hr)).1,<- (xv_nf hw hq).1,<- (xv_nf hw hr).1,nf_mul hw hq hr,<- xv_xor];rfl
def clrX (f:Ps) (n:Nat) (q:Ps):Ps:=if xB q n=true then mulS q f else q
theorem clrX_vl {w n:Nat} (hw:w<=12) {f q:Ps} (hf:Vl w f) (hq:Vl w q):Vl w (clrX f n q):=by
 unfold clrX
 split
 ·exact mul_vl hw hq hf
 ·exact hq
theorem clrX_bit {w n m:Nat} (hw:w<=12) {f q:Ps} (hf:Vl w f) (hq:Vl w q):xB (clrX f n q) m=(xB q m != (xB q n&&xB f m)):=by
 unfold clrX
 split
 ·rename_i h
  unfold xB at h ⊢
  rw [x_mul hw hq hf,Nat.testBit_xor,h];simp
 ·rename_i h
  have h:xB q n=false:=by simpa using h
  rw [h];simp
theorem clear_same {w:Nat} (hw:w<=12) {M M':List Ps} {f:Ps} (hv:∀ q,q∈M->Vl w q) (hG:Good (M.map nf)) (hf:f∈M) (hf':f∈M') (h1:∀ q,q∈M'->q∈M \/ ∃ r,r∈M/\q=mulS r f) (h2:∀ q,q∈M->q∈M'\/mulS q f∈M'):SameG (M.map nf) (M'.map nf)/\Good (M'.map nf):=by
 have g:∀ q,q∈M->Gen (M.map nf) (nf q):=fun q hq=>gen_mem' hG (List.mem_map.2 ⟨q,hq,rfl⟩)
 have a1:∀ a,a∈M'.map nf->Gen (M.map nf) a:=fun a ha=>by
  obtain ⟨q,hq,rfl⟩:=List.mem_map.1 ha
  rcases h1 q hq with h|⟨r,hr,rfl⟩
  ·exact g q h
  ·rw [nf_mul hw (hv r hr) (hv f hf)];exact gen_mul' hG (g r hr) (g f hf)
 have hG':Good (M'.map nf):=good_of hG a1
 have g':∀ q,q∈M'->Gen (M'.map nf) (nf q):=fun q hq=>gen_mem' hG' (List.mem_map.2 ⟨q,hq,rfl⟩)
 refine ⟨sameG_of hG a1 fun a ha=>?_,hG'⟩
 obtain ⟨q,hq,rfl⟩:=List.mem_map.1 ha
 rcases h2 q hq with h|h
 ·exact g' q h
 ·have h3:=gen_mul' hG' (g' _ h) (g' f hf')
  rw [nf_mul hw (hv q hq) (hv f hf),emul_assoc,emul_self (gen_ok hG (g f hf)),emul_one _ (nf_lt _)] at h3
  exact h3
structure Pt (w n:Nat) (L:List E) (A:List (Nat × Ps)) (B:List Ps):Prop where
 vl:∀ q,q∈A.map (·.2)++B->Vl w q
 good:Good ((A.map (·.2)++B).map nf)
 same:SameG L ((A.map (·.2)++B).map nf)
 lt:∀ a,a∈A->a.1<n
 bit:∀ a,a∈A->xB a.2 a.1=true
 piv:A.Pairwise fun a b=>xB b.2 a.1=false/\xB a.2 b.1=false
 rest:∀ b,b∈B->∀ m,m<n->xB b m=false
theorem ptq_skip {w n:Nat} {L:List E} {A:List (Nat × Ps)} {B:List Ps} (h:Pt w n L A B) (hz:∀ b,b∈B->xB b n=false):Pt w (n+1) L A B :=
 ⟨h.vl,h.good,h.same,fun a ha=>Nat.lt_succ_of_lt (h.lt a ha),h.bit,h.piv,fun b hb m hm=>by
  rcases Nat.lt_succ_iff_lt_or_eq.1 hm with q|q
  ·exact h.rest b hb m q
  ·rw [q];exact hz b hb⟩
theorem ptq_step {w n:Nat} (hw:w<=12) {L:List E} {A:List (Nat × Ps)} {B B':List Ps} {f:Ps} (h:Pt w n L A B) (hf:f∈B) (hb:xB f n=true) (h1:∀ q,q∈B'->∃ r,r∈B/\q=clrX f n r) (h2:∀ r,r∈B->r=f\/clrX f n r∈B') (h3:∀ q,q∈B'->xB q n=false) :
  Pt w (n+1) L (A.map (fun a=>(a.1,clrX f n a.2))++[(n,f)]) B':=by
 have hA:∀ a,a∈A->Vl w a.2:=fun a ha=>h.vl _ (List.mem_append.2 (.inl (List.mem_map.2 ⟨a,ha,rfl⟩)))
 have hB:∀ b,b∈B->Vl w b:=fun b hb=>h.vl _ (List.mem_append.2 (.inr hb))
 have hfv:=hB f hf
 have mA:∀ a,a∈A->a.2∈A.map (·.2)++B:=fun a ha=>List.mem_append.2 (.inl (List.mem_map.2 ⟨a,ha,rfl⟩))
 have hmem:∀ q,q∈(A.map (fun a=>(a.1,clrX f n a.2))++[(n,f)]).map (·.2)++B' ↔ (∃ a,a∈A/\q=clrX f n a.2)\/q=f\/q∈B':=by
  intro q
  simp only [List.mem_append,List.mem_map,List.mem_singleton]
  constructor
  ·rintro (⟨p,(⟨a,ha,rfl⟩|rfl),rfl⟩|hq)
   ·exact .inl ⟨a,ha,rfl⟩
   ·exact .inr (.inl rfl)
   ·exact .inr (.inr hq)
  ·rintro (⟨a,ha,rfl⟩|rfl|hq)
   ·exact .inl ⟨_,.inl ⟨a,ha,rfl⟩,rfl⟩
   ·exact .inl ⟨_,.inr rfl,rfl⟩
   ·exact .inr hq
 have hcl:∀ r,r∈A.map (·.2)++B->clrX f n r∈A.map (·.2)++B \/ ∃ q,q∈A.map (·.2)++B/\clrX f n r=mulS q f:=fun r hr=>by
  unfold clrX
  split
  ·exact .inr ⟨r,hr,rfl⟩
  ·exact .inl hr
 have hcs:=clear_same (M':=(A.map (fun a=>(a.1,clrX f n a.2))++[(n,f)]).map (·.2)++B') (f:=f) hw h.vl h.good (List.mem_append.2 (.inr hf)) ((hmem f).2 (.inr (.inl rfl)))
  (fun q hq=>by
   rcases (hmem q).1 hq with ⟨a,ha,rfl⟩|rfl|hq
   ·exact hcl _ (mA a ha)
   ·exact .inl (List.mem_append.2 (.inr hf))
   ·obtain ⟨r,hr,rfl⟩:=h1 q hq
    exact hcl r (List.mem_append.2 (.inr hr)))
  (fun q hq=>by
   have hin:q=f\/clrX f n q∈(A.map (fun a=>(a.1,clrX f n a.2))++[(n,f)]).map (·.2)++B':=by
    rcases List.mem_append.1 hq with hq|hq
    ·obtain ⟨a,ha,rfl⟩:=List.mem_map.1 hq
     exact .inr ((hmem _).2 (.inl ⟨a,ha,rfl⟩))
    ·rcases h2 q hq with e|e
     ·exact .inl e
     ·exact .inr ((hmem _).2 (.inr (.inr e)))
   rcases hin with rfl|hin
   ·exact .inl ((hmem _).2 (.inr (.inl rfl)))
   ·unfold clrX at hin
    split at hin
    ·exact .inr hin
    ·exact .inl hin)
 refine ⟨fun q hq=>?_,hcs.2,fun g=>(h.same g).trans (hcs.1 g),fun a ha=>?_,fun a ha=>?_,?_,fun b hb m hm=>?_⟩
 ·rcases (hmem q).1 hq with ⟨a,ha,rfl⟩|rfl|hq
  ·exact clrX_vl hw hfv (hA a ha)
  ·exact hfv
  ·obtain ⟨r,hr,rfl⟩:=h1 q hq
   exact clrX_vl hw hfv (hB r hr)
 ·rcases List.mem_append.1 ha with ha|ha
  ·obtain ⟨b,hb,rfl⟩:=List.mem_map.1 ha
   exact Nat.lt_succ_of_lt (h.lt b hb)
  ·rw [List.mem_singleton.1 ha];exact Nat.lt_succ_self n
 ·rcases List.mem_append.1 ha with ha|ha
  ·obtain ⟨b,hb',rfl⟩:=List.mem_map.1 ha
   show xB (clrX f n b.2) b.1=true
   rw [clrX_bit hw hfv (hA b hb'),h.bit b hb',h.rest f hf b.1 (h.lt b hb')];simp
  ·rw [List.mem_singleton.1 ha];exact hb
 ·refine List.pairwise_append.2 ⟨?_,List.pairwise_singleton _ _,fun a ha b hb'=>?_⟩
  ·refine List.pairwise_map.2 ?_
   refine (List.Pairwise.imp_of_mem (fun {a b} ha hb' hab=>?_) h.piv)
   refine ⟨?_,?_⟩
   ·show xB (clrX f n b.2) a.1=false
    rw [clrX_bit hw hfv (hA b hb'),hab.1,h.rest f hf a.1 (h.lt a ha)];simp
   ·show xB (clrX f n a.2) b.1=false
    rw [clrX_bit hw hfv (hA a ha),hab.2,h.rest f hf b.1 (h.lt b hb')];simp
  ·obtain ⟨c,hc,rfl⟩:=List.mem_map.1 ha
   rw [List.mem_singleton.1 hb']
   refine ⟨h.rest f hf c.1 (h.lt c hc),?_⟩
   show xB (clrX f n c.2) n=false
   rw [clrX_bit hw hfv (hA c hc),hb]
   cases xB c.2 n <;> rfl
 ·rcases Nat.lt_succ_iff_lt_or_eq.1 hm with q|q
  ·obtain ⟨r,hr,rfl⟩:=h1 b hb
   rw [clrX_bit hw hfv (hB r hr),h.rest r hr m q,h.rest f hf m q];simp
  ·rw [q];exact h3 b hb
theorem ptq_ind:∀ {A:List (Nat × Ps)},(∀ a,a∈A->xB a.2 a.1=true)->A.Pairwise (fun a b=>xB b.2 a.1=false/\xB a.2 b.1=false)->Ind (A.map fun a=>a.2.x.toNat)
 | [],_,_=>rfl
 | a::A,hb,hp=>by
  obtain ⟨h1,h2⟩:=List.pairwise_cons.1 hp
  rw [List.map_cons,ind_cons]
  refine ⟨ptq_ind (fun b hb'=>hb b (List.mem_cons_of_mem _ hb')) h2,?_⟩
  cases e:spB (A.map fun a=>a.2.x.toNat) a.2.x.toNat with
  | false=>rfl
  | true =>
   have h4:=sp_bit (j:=a.1) (A.map fun a=>a.2.x.toNat) (fun v hv=>by
    obtain ⟨b,hb',rfl⟩:=List.mem_map.1 hv
    exact (h1 b hb').1) _ e
   have h5:a.2.x.toNat.testBit a.1=true:=hb a (by simp)
   rw [h5] at h4;cases h4
structure PtE (w:Nat) (L:List E) (A:List (Nat × Ps)) (B:List Ps):Prop where
 pt:Pt w w L A B
 zero:∀ b,b∈B->b.x.toNat=0
 xs:((A.map (·.2)).map nf).map (fun a=>xv a.2)=A.map fun a=>a.2.x.toNat
 ind:Ind (A.map fun a=>a.2.x.toNat)
theorem ptq_end {w:Nat} (hw:w<=12) {L:List E} {A:List (Nat × Ps)} {B:List Ps} (h:Pt w w L A B):PtE w L A B:=by
 refine ⟨h,fun b hb=>?_,?_,ptq_ind h.bit h.piv⟩
 ·obtain ⟨_,h2,_⟩:=xv_nf hw (h.vl b (List.mem_append.2 (.inr hb)))
  refine Nat.eq_of_testBit_eq fun m=>?_
  rw [Nat.zero_testBit]
  rcases Nat.lt_or_ge m w with q|q
  ·exact h.rest b hb m q
  ·exact Nat.testBit_lt_two_pow (Nat.lt_of_lt_of_le h2 (Nat.pow_le_pow_right (by decide) q))
 ·rw [List.map_map,List.map_map]
  refine List.map_congr_left fun a ha=>?_
  exact (xv_nf hw (h.vl a.2 (List.mem_append.2 (.inl (List.mem_map.2 ⟨a,ha,rfl⟩))))).1
theorem pte_span {w:Nat} (hw:w<=12) {L:List E} {A:List (Nat × Ps)} {B:List Ps} (h:PtE w L A B) (v:Nat):spB (A.map fun a=>a.2.x.toNat) v=true ↔ ∃ g,Gen L g/\xv g.2=v:=by
 rw [<- h.xs]
 constructor
 ·intro hv
  obtain ⟨g,g1,g2⟩:=spx_gen (L:=(A.map (·.2)++B).map nf) ((A.map (·.2)).map nf) (fun a ha=>by rw [List.map_append];exact List.mem_append.2 (.inl ha)) hv
  exact ⟨g,(h.pt.same g).2 g1,g2⟩
 ·rintro ⟨g,g1,rfl⟩
  have h1:=gen_spx ((h.pt.same g).1 g1)
  refine sp_sub _ _ (fun v hv=>?_) _ h1
  obtain ⟨a,ha,rfl⟩:=List.mem_map.1 hv
  rw [List.map_append] at ha
  rcases List.mem_append.1 ha with ha|ha
  ·exact sp_mem _ _ (List.mem_map.2 ⟨a,ha,rfl⟩)
  ·obtain ⟨q,hq,rfl⟩:=List.mem_map.1 ha
   rw [(xv_nf hw (h.pt.vl q (List.mem_append.2 (.inr hq)))).1,h.zero q hq];exact sp_zero _
end Go.Tz
namespace Go.Tz
open Go Go.AL Go.Proofs Go.Ma
theorem xor_xor (a b:Nat):a^^^(a^^^b)=b:=by rw [<- Nat.xor_assoc,Nat.xor_self,Nat.zero_xor]
def wyS (s:Ps × Nat) (a:Nat × Ps):Ps × Nat:=if s.2.testBit a.1=true then (mulS s.1 a.2,s.2^^^a.2.x.toNat) else s
def wyF (w:Nat) (A:List (Nat × Ps)) (u:Nat):Ps × Nat:=A.foldl wyS (⟨w,0,0,0⟩,u)
structure Wy (w:Nat) (L:List E) (u:Nat) (A1:List (Nat × Ps)) (s:Ps × Nat):Prop where
 vl:Vl w s.1
 gen:Gen L (nf s.1)
 x:s.2=u^^^s.1.x.toNat
 z:∀ a,a∈A1->s.2.testBit a.1=false
theorem wy_run {w:Nat} (hw:w<=12) {L:List E} (hL:Good L) {u:Nat}:∀ (A2 A1:List (Nat × Ps)) (s:Ps × Nat),(∀ a,a∈A2->Vl w a.2/\Gen L (nf a.2)/\xB a.2 a.1=true)->(A1++A2).Pairwise (fun a b=>xB b.2 a.1=false/\xB a.2 b.1=false)->Wy w L u A1 s->Wy w L u (A1++A2) (A2.foldl wyS s)
 | [],A1,s,_,_,h=>by rw [List.append_nil];exact h
 | a::A2,A1,s,hA,hp,h=>by
  obtain ⟨a1,a2,a3⟩:=hA a (by simp)
  have e:A1++a::A2=(A1++[a])++A2:=by simp
  rw [e] at hp ⊢
  rw [List.foldl_cons]
  refine wy_run hw hL A2 (A1++[a]) _ (fun b hb=>hA b (List.mem_cons_of_mem _ hb)) hp ?_
  have hp1:=(List.pairwise_append.1 (List.pairwise_append.1 hp).1).2.2
  unfold wyS
  split
  ·rename_i hb
   refine ⟨mul_vl hw h.vl a1,?_,?_,fun b hb'=>?_⟩
   ·show Gen L (nf (mulS s.1 a.2))
    rw [nf_mul hw h.vl a1];exact gen_mul' hL h.gen a2
   ·show s.2^^^a.2.x.toNat=u^^^(mulS s.1 a.2).x.toNat
    rw [x_mul hw h.vl a1,h.x,Nat.xor_assoc]
   ·show (s.2^^^a.2.x.toNat).testBit b.1=false
    rw [Nat.testBit_xor]
    rcases List.mem_append.1 hb' with q|q
    ·have h1:a.2.x.toNat.testBit b.1=false:=(hp1 b q a (by simp)).1
     rw [h.z b q,h1];rfl
    ·rw [List.mem_singleton.1 q,hb]
     have h1:a.2.x.toNat.testBit a.1=true:=a3
     rw [h1];rfl
  ·rename_i hb
   refine ⟨h.vl,h.gen,h.x,fun b hb'=>?_⟩
   rcases List.mem_append.1 hb' with q|q
   ·exact h.z b q
   ·rw [List.mem_singleton.1 q];simpa using hb
theorem span_piv:∀ {A:List (Nat × Ps)} {v:Nat},(∀ a,a∈A->xB a.2 a.1=true)->A.Pairwise (fun a b=>xB b.2 a.1=false/\xB a.2 b.1=false)->spB (A.map fun a=>a.2.x.toNat) v=true->(∀ a,a∈A->v.testBit a.1=false)->v=0
 | [],v,_,_,h,_=>by simpa only [List.map_nil,spB,beq_iff_eq] using h
 | a::A,v,hb,hp,h,hz=>by
  obtain ⟨h1,h2⟩:=List.pairwise_cons.1 hp
  simp only [List.map_cons,spB,Bool.or_eq_true] at h
  rcases h with h|h
  ·exact span_piv (fun b hb'=>hb b (List.mem_cons_of_mem _ hb')) h2 h fun b hb'=>hz b (List.mem_cons_of_mem _ hb')
  ·exfalso
   have h4:=sp_bit (j:=a.1) (A.map fun a=>a.2.x.toNat) (fun v hv=>by
    obtain ⟨b,hb',rfl⟩:=List.mem_map.1 hv
    exact (h1 b hb').1) _ h
   have h5:a.2.x.toNat.testBit a.1=true:=hb a (by simp)
   rw [Nat.testBit_xor,hz a (by simp),h5] at h4
   cases h4
def valW (w:Nat) (A:List (Nat × Ps)) (lst b:Nat):Option Nat:=if (wyF w A (lst^^^b)).2=0 then some (phE (nf (wyF w A (lst^^^b)).1) lst) else none
theorem way_ok {w:Nat} (hw:w<=12) {L:List E} (hL:Good L) {A:List (Nat × Ps)} {B:List Ps} (h:PtE w L A B) (u:Nat):Wy w L u A (wyF w A u):=by
 have mA:∀ a,a∈A->a.2∈A.map (·.2)++B:=fun a ha=>List.mem_append.2 (.inl (List.mem_map.2 ⟨a,ha,rfl⟩))
 have:=wy_run (u:=u) hw hL A [] (⟨w,0,0,0⟩,u) (fun a ha=>⟨h.pt.vl _ (mA a ha),(h.pt.same _).2 (gen_mem' h.pt.good (List.mem_map.2 ⟨_,mA a ha,rfl⟩)),h.pt.bit a ha⟩) (by rw [List.nil_append];exact h.pt.piv)
  ⟨vl_one w,by rw [nf_one];exact .one,by show u=u^^^(0:Int).toNat;simp,fun a ha=>by cases ha⟩
 rw [List.nil_append] at this
 exact this
theorem amp_way {w:Nat} (hw:w<=12) {L:List E} (hL:Good L) {A:List (Nat × Ps)} {B:List Ps} (h:PtE w L A B) {lst:Nat} (h1:Sup L lst) (h2:lst<2^w) (h3:∀ k,k<2^w->Sup L k->lst<=k):Amp L w lst A.length (valW w A lst):=by
 refine ⟨h1,h2,h3,fun b p hb e=>?_,fun b hb e g hg hx=>?_,⟨A.map fun a=>a.2.x.toNat,fun v hv=>?_,h.ind,by rw [List.length_map],pte_span hw h⟩⟩
 ·have hy:=way_ok hw hL h (lst^^^b)
  unfold valW at e
  split at e
  ·rename_i h0
   refine ⟨nf (wyF w A (lst^^^b)).1,hy.gen,?_,Option.some.inj e⟩
   rw [(xv_nf hw hy.vl).1]
   have h4:=hy.x
   rw [h0] at h4
   have h5:=congrArg (fun n=>lst^^^b^^^n) h4
   simp only [xor_xor,Nat.xor_zero] at h5
   rw [<- h5,xor_xor]
  ·cases e
 ·have hy:=way_ok hw hL h (lst^^^b)
  unfold valW at e
  split at e
  ·cases e
  ·rename_i h0
   apply h0
   refine span_piv h.pt.bit h.pt.piv ?_ hy.z
   rw [hy.x,pte_span hw h]
   refine ⟨emul g (nf (wyF w A (lst^^^b)).1),gen_mul' hL hg hy.gen,?_⟩
   show xv (g.2^^^_)=_
   rw [xv_xor,(xv_nf hw hy.vl).1,<- hx,xor_xor]
 ·obtain ⟨a,ha,rfl⟩:=List.mem_map.1 hv
  exact Nat.lt_of_lt_of_le (xv_nf hw (h.pt.vl a.2 (List.mem_append.2 (.inl (List.mem_map.2 ⟨a,ha,rfl⟩))))).2.1 (Nat.pow_le_pow_right (by decide) hw)
end Go.Tz
