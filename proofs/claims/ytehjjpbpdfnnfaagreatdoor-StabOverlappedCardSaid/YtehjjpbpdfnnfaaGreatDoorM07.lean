import Derived.Test.YtehjjpbpdfnnfaaGreatDoorM06
namespace Go.Tz
open Go Go.AL Go.Proofs Go.Ma
theorem sup_same {L M:List E} (h:SameG L M) (k:Nat):Sup L k ↔ Sup M k:=⟨fun q g hg=>q g ((h g).2 hg),fun q g hg=>q g ((h g).1 hg)⟩
theorem nf_zP (w n o:Nat) (ho:o<=1):nf (zP w n o)=(2*o,2^(12+n)):=by
 unfold zP
 rw [nf_mk,Nat.zero_and,pop_zero,Nat.zero_add,Nat.pow_add]
 refine Prod.ext ?_ rfl
 show (2*o+0) % 4=2*o
 omega
theorem zP_xv (w n o:Nat) (ho:o<=1):xv (nf (zP w n o)).2=0:=by
 rw [nf_zP w n o ho]
 show 2^(12+n) % 4096=0
 rw [Nat.pow_add]
 exact Nat.mul_mod_right _ _
theorem zP_ph {w n o:Nat} (hn:n<12) (ho:o<=1) (k:Nat):phE (nf (zP w n o)) k=0 ↔ (k.testBit n).toNat=o:=by
 rw [nf_zP w n o ho]
 unfold phE
 dsimp only
 rw [bt_hi hn]
 cases k.testBit n <;> simp <;> omega
theorem zP_neg (w n:Nat):eneg (nf (zP w n 0))=nf (zP w n 1):=by
 rw [nf_zP w n 0 (by decide),nf_zP w n 1 (by decide)];rfl
theorem com_z {p g:E} (h1:xv p.2=0) (h2:xv g.2=0):ecom p g:=by
 unfold ecom
 rw [<- bt_xv,h2,bt_0r,<- bt_xv,h1,bt_0r]
theorem sup_meas {L:List E} (hL:Good L) {p:E} (hp:xv p.2=0) (hok:eok p) (hx:∃ q,q∈L /\ ¬ ecom q p) (k:Nat):Sup (proj p L) k ↔ Sup L k/\phE p k=0:=by
 obtain ⟨_,_,_,hk⟩:=proj_keep hL hok hx
 have hG:=proj_good hL hok hx
 constructor
 ·intro h
  exact ⟨fun g hg hz=>h g ((hk g hg).1 (com_z hp hz)) hz,h p (gen_mem' hG (proj_has hx)) hp⟩
 ·rintro ⟨h1,h2⟩ g hg hz
  obtain ⟨f,f1,_,rfl|rfl⟩:=proj_back hL hok hx hg
  ·exact h1 _ f1 hz
  ·have hf:xv f.2=0:=by
    have h3:xv (p.2^^^f.2)=0:=hz
    rw [xv_xor,hp,Nat.zero_xor] at h3;exact h3
   rw [phE_mul,h1 f f1 hf,hf,Nat.xor_zero,h2]
def lsS (w:Nat) (l:List Ps):Nat->List Ps × Nat
 | 0=>(redRows l (2*w),0)
 | i+1=>if expR w (lsS w l i).1 (zP w (w-1-i) 0)=1 then lsS w l i else if expR w (lsS w l i).1 (zP w (w-1-i) 0) = -1 then ((lsS w l i).1,(lsS w l i).2 ||| 2^(w-1-i)) else (redRows (prjL (zP w (w-1-i) 0) (lsS w l i).1) (2*w),(lsS w l i).2)
structure Ls (w n:Nat) (L:List E) (s:List Ps × Nat):Prop where
 sok:SOk w s.1
 sup:∀ k,Sup (s.1.map nf) k ↔ Sup L k /\ ∀ j,n<=j->j<w->k.testBit j=s.2.testBit j
 lo:∀ j,j<n\/w<=j->s.2.testBit j=false
 gen:∀ j,n<=j->j<w->Gen (s.1.map nf) (nf (zP w j (s.2.testBit j).toNat))
 min:∀ k,Sup L k->s.2 / 2^n<=k / 2^n
theorem div2 (x n:Nat):x / 2^n=2*(x / 2^(n+1))+(x.testBit n).toNat:=by
 rw [Nat.pow_succ,<- Nat.div_div_eq_div_mul]
 have h:x.testBit n=decide (x / 2^n % 2=1):=Nat.testBit_eq_decide_div_mod_eq
 rw [h]
 generalize x / 2^n=q
 have:=Nat.mod_two_eq_zero_or_one q
 rcases this with h|h <;> rw [h] <;> simp <;> omega
theorem div_bits {x y n:Nat} (h:x / 2^n=y / 2^n) {j:Nat} (hj:n<=j):x.testBit j=y.testBit j:=by
 obtain ⟨m,rfl⟩:∃ m,j=n+m:=⟨j-n,by omega⟩
 rw [Nat.add_comm,<- Nat.testBit_div_two_pow,<- Nat.testBit_div_two_pow,h]
theorem tn1 (b:Bool):b.toNat<=1:=by cases b <;> decide
theorem ls_step {w n i:Nat} {l:List Ps} (hi:i<w) (hn:n=w-1-i) {L:List E} (h:Ls w (n+1) L (lsS w l i)):Ls w n L (lsS w l (i+1)):=by
 have hnw:n<w:=by omega
 have hs:lsS w l (i+1)=if expR w (lsS w l i).1 (zP w n 0)=1 then lsS w l i else if expR w (lsS w l i).1 (zP w n 0) = -1 then ((lsS w l i).1,(lsS w l i).2 ||| 2^n) else (redRows (prjL (zP w n 0) (lsS w l i).1) (2*w),(lsS w l i).2):=by rw [hn];rfl
 rw [hs]
 clear hs hn
 generalize lsS w l i=s at h ⊢
 obtain ⟨R,o⟩:=s
 have hk:=h.sok
 have hw:w<=12:=hk.hi
 have hst:=sok_sta hk
 have hpv:=zP_vl (w:=w) (o:=0) hnw (by decide)
 have hok:=zP_ok hw hnw (o:=0) (by decide)
 have hz0:o.testBit n=false:=h.lo n (.inl (Nat.lt_succ_self n))
 dsimp only at hk hst ⊢
 rcases expOk_cases (expR_ok hk hpv hok) with ⟨e,hg⟩|⟨e,hg⟩|⟨e,n1,n2⟩
 ·rw [if_pos e]
  have hbit:∀ k,Sup (R.map nf) k->k.testBit n=false:=fun k hs=>by
   have:=(zP_ph (w:=w) (by omega) (by decide) k).1 (hs _ hg (zP_xv w n 0 (by decide)))
   cases e:k.testBit n with
   | false=>rfl
   | true=>rw [e] at this;cases this
  refine ⟨hk,fun k=>⟨fun hs=>⟨((h.sup k).1 hs).1,fun j h1 h2=>?_⟩,fun hs=>(h.sup k).2 ⟨hs.1,fun j h1 h2=>hs.2 j (by omega) h2⟩⟩,fun j hj=>h.lo j (by omega),fun j h1 h2=>?_,fun k hs=>?_⟩
  ·by_cases q:j=n
   ·subst q;rw [hbit k hs];exact hz0.symm
   ·exact ((h.sup k).1 hs).2 j (by omega) h2
  ·by_cases q:j=n
   ·subst q
    show Gen _ (nf (zP w j (o.testBit j).toNat))
    rw [hz0];exact hg
   ·exact h.gen j (by omega) h2
  ·have:=h.min k hs
   show o / 2^n<=k / 2^n
   rw [div2 o,div2 k,hz0]
   have h3:o / 2^(n+1)<=k / 2^(n+1):=this
   have:false.toNat=0:=rfl
   omega
 ·rw [if_neg (by rw [e];decide),if_pos e]
  rw [zP_neg] at hg
  have hbit:∀ k,Sup (R.map nf) k->k.testBit n=true:=fun k hs=>by
   have:=(zP_ph (w:=w) (by omega) (by decide) k).1 (hs _ hg (zP_xv w n 1 (by decide)))
   cases e:k.testBit n with
   | true=>rfl
   | false=>rw [e] at this;cases this
  have hob:∀ j,(o ||| 2^n).testBit j=(o.testBit j||decide (n=j)):=fun j=>by rw [Nat.testBit_or,Nat.testBit_two_pow]
  have hobn:(o ||| 2^n).testBit n=true:=by rw [hob];simp
  have hobj:∀ j,j≠n->(o ||| 2^n).testBit j=o.testBit j:=fun j hj=>by rw [hob];simp [Ne.symm hj]
  refine ⟨hk,fun k=>⟨fun hs=>⟨((h.sup k).1 hs).1,fun j h1 h2=>?_⟩,fun hs=>(h.sup k).2 ⟨hs.1,fun j h1 h2=>?_⟩⟩,fun j hj=>?_,fun j h1 h2=>?_,fun k hs=>?_⟩
  ·by_cases q:j=n
   ·subst q;rw [hbit k hs];exact hobn.symm
   ·show _=(o ||| 2^n).testBit j
    rw [hobj j q];exact ((h.sup k).1 hs).2 j (by omega) h2
  ·have:=hs.2 j (by omega) h2
   dsimp only at this
   rw [hobj j (by omega)] at this;exact this
  ·show (o ||| 2^n).testBit j=false
   rw [hobj j (by omega)];exact h.lo j (by omega)
  ·show Gen _ (nf (zP w j ((o ||| 2^n).testBit j).toNat))
   by_cases q:j=n
   ·subst q;rw [hobn];exact hg
   ·rw [hobj j q];exact h.gen j (by omega) h2
  ·have h3:o / 2^(n+1)<=k / 2^(n+1):=h.min k hs
   have h4:(o ||| 2^n) / 2^(n+1)=o / 2^(n+1):=Nat.eq_of_testBit_eq fun j=>by
    rw [Nat.testBit_div_two_pow,Nat.testBit_div_two_pow,hobj _ (by omega)]
   show (o ||| 2^n) / 2^n<=k / 2^n
   rw [div2 (o ||| 2^n),div2 k,h4,hobn]
   have:true.toNat=1:=rfl
   rcases Nat.lt_or_ge (o / 2^(n+1)) (k / 2^(n+1)) with q|q
   ·omega
   ·have h5:k / 2^(n+1)=o / 2^(n+1):=by omega
    have h6:Sup (R.map nf) k:=(h.sup k).2 ⟨hs,fun j h1 _=>div_bits h5 h1⟩
    rw [hbit k h6,h5]
    exact Nat.le_refl _
 ·rw [if_neg (by rw [e];decide),if_neg (by rw [e];decide)]
  have hpin:inV w (nf (zP w n 0)).2:=vec_in hw hpv
  have hx:=sta_anti hw hst hpin hok n1 n2
  have hS:SOk w (prjL (zP w n 0) R):=by
   refine sta_sok ⟨hk.lo,hw⟩ (prjL_vl hw hpv hk.vl) ?_
   rw [prjL_nf hw hk.vl hst.good]
   exact proj_sta hw hst hpin hok n1 n2
  obtain ⟨r1,r2⟩:=redRows_ok hS
  have hsp:∀ k,Sup ((redRows (prjL (zP w n 0) R) (2*w)).map nf) k ↔ Sup (R.map nf) k/\k.testBit n=false:=fun k=>by
   rw [<- sup_same r2 k,prjL_nf hw hk.vl hst.good,sup_meas hst.good (zP_xv w n 0 (by decide)) hok hx,zP_ph (by omega) (by decide)]
   cases k.testBit n <;> simp
  obtain ⟨_,_,_,hkeep⟩:=proj_keep hst.good hok hx
  refine ⟨r1,fun k=>⟨fun hs=>?_,fun hs=>?_⟩,fun j hj=>h.lo j (by omega),fun j h1 h2=>?_,fun k hs=>?_⟩
  ·obtain ⟨a1,a2⟩:=(hsp k).1 hs
   refine ⟨((h.sup k).1 a1).1,fun j h1 h2=>?_⟩
   by_cases q:j=n
   ·subst q;rw [a2];exact hz0.symm
   ·exact ((h.sup k).1 a1).2 j (by omega) h2
  ·refine (hsp k).2 ⟨(h.sup k).2 ⟨hs.1,fun j h1 h2=>hs.2 j (by omega) h2⟩,?_⟩
   exact (hs.2 n (Nat.le_refl n) hnw).trans hz0
  ·refine (r2 _).1 ?_
   rw [prjL_nf hw hk.vl hst.good]
   by_cases q:j=n
   ·subst q
    show Gen _ (nf (zP w j (o.testBit j).toNat))
    rw [hz0]
    exact gen_mem' (proj_good hst.good hok hx) (proj_has hx)
   ·refine (hkeep _ (h.gen j (by omega) h2)).1 (com_z (zP_xv w n 0 (by decide)) (zP_xv w j _ ?_))
    exact tn1 _
  ·have:=h.min k hs
   show o / 2^n<=k / 2^n
   rw [div2 o,div2 k,hz0]
   have h3:o / 2^(n+1)<=k / 2^(n+1):=this
   have:false.toNat=0:=rfl
   omega
theorem sup_all {w:Nat} (hw:w<=12) {L:List E} (hL:Sta w L) {o:Nat} (hg:∀ j,j<w->Gen L (nf (zP w j (o.testBit j).toNat))):∀ n,n<=w->∀ g,Gen L g->xv g.2=0->(∀ j,n<=j->g.2.testBit (12+j)=false)->phE g o=0
 | 0,_,g,h,hx,hz=>by
  have h0:g.2=0:=Nat.eq_of_testBit_eq fun j=>by
   rw [Nat.zero_testBit]
   rcases Nat.lt_or_ge j 12 with q|q
   ·have:=congrArg (fun v=>v.testBit j) hx
    simp only [xv,show 4096=2^12 from rfl,Nat.testBit_mod_two_pow,Nat.zero_testBit] at this
    simpa [q] using this
   ·have:=hz (j-12) (Nat.zero_le _)
    rwa [show 12+(j-12)=j by omega] at this
  rw [gen_zero hL.good hL.ind h h0,phE_one]
 | n+1,hn,g,h,hx,hz=>by
  by_cases hb:g.2.testBit (12+n)=true
  ·have hzg:=hg n (by omega)
   have hb1:=tn1 (o.testBit n)
   have hzx:=zP_xv w n (o.testBit n).toNat hb1
   have hp0:=(zP_ph (w:=w) (by omega) hb1 o).2 rfl
   have e2:(nf (zP w n (o.testBit n).toNat)).2=2^(12+n):=by rw [nf_zP w n _ hb1]
   generalize nf (zP w n (o.testBit n).toNat)=z at hzg hzx hp0 e2
   have hm:=gen_mul' hL.good hzg h
   have hmx:xv (emul z g).2=0:=by
    show xv (z.2^^^g.2)=0
    rw [xv_xor,hzx,hx];rfl
   have ih:=sup_all hw hL hg n (by omega) (emul z g) hm hmx fun j hj=>by
    show (z.2^^^g.2).testBit (12+j)=false
    rw [Nat.testBit_xor,e2,Nat.testBit_two_pow]
    by_cases q:n=j
    ·subst q;rw [hb];simp
    ·rw [hz j (by omega)];simp;omega
   have e:emul z (emul z g)=g:=by
    rw [<- emul_assoc,emul_self (gen_ok hL.good hzg),one_emul g (gen_ok hL.good h).1]
   have:=phE_mul z (emul z g) o
   rw [e,ih,hmx,Nat.xor_zero,hp0] at this
   exact this
  ·refine sup_all hw hL hg n (by omega) g h hx fun j hj=>?_
   by_cases q:j=n
   ·rw [q];simpa using hb
   ·exact hz j (by omega)
theorem ls_run {w:Nat} {l:List Ps} (h:SOk w l):∀ i,i<=w->Ls w (w-i) ((l.map nf)) (lsS w l i)
 | 0,_=>by
  obtain ⟨r1,r2⟩:=redRows_ok h
  refine ⟨r1,fun k=>⟨fun q=>⟨(sup_same r2 k).2 q,fun j h1 h2=>by omega⟩,fun q=>(sup_same r2 k).1 q.1⟩,fun j _=>Nat.zero_testBit j,fun j h1 h2=>by omega,fun k _=>?_⟩
  show 0 / _<=_
  rw [Nat.zero_div];exact Nat.zero_le _
 | i+1,hi=>by
  have:=ls_run h i (by omega)
  rw [show w-i=(w-1-i)+1 by omega] at this
  rw [show w-(i+1)=w-1-i by omega]
  exact ls_step (by omega) rfl this
theorem ls_end {w:Nat} {l:List Ps} (h:SOk w l):Sup (l.map nf) (lsS w l w).2/\(lsS w l w).2<2^w /\ ∀ k,Sup (l.map nf) k->(lsS w l w).2<=k:=by
 have hl:=ls_run h w (Nat.le_refl w)
 rw [Nat.sub_self] at hl
 have hs:=sok_sta hl.sok
 have hin:∀ g,Gen ((lsS w l w).1.map nf) g->∀ j,w<=j->g.2.testBit (12+j)=false:=fun g hg j hj=>by
  refine sp_bit _ (fun a ha=>?_) _ (gen_span hg)
  obtain ⟨e,he,rfl⟩:=List.mem_map.1 ha
  exact sp_bit _ (U_bit (.inr (by omega))) _ (hs.inv e he)
 have hsup:Sup ((lsS w l w).1.map nf) (lsS w l w).2:=fun g hg hx=>sup_all h.hi hs (fun j hj=>hl.gen j (Nat.zero_le j) hj) w (Nat.le_refl w) g hg hx (hin g hg)
 refine ⟨((hl.sup _).1 hsup).1,Nat.lt_pow_two_of_testBit _ fun j hj=>hl.lo j (.inr hj),fun k hk=>?_⟩
 have:=hl.min k hk
 simpa using this
end Go.Tz
namespace Go.Tz
open Go Go.AL Go.Proofs Go.Ma
theorem bitB_x {w n:Nat} (hw:w<=12) (hn:n<w) {q:Ps} (h:Vl w q):bitB q (2*n:Nat)=xB q n:=by
 have h1:=bitB_cb (c:=2*n) hw (by omega) h
 rw [h1]
 obtain ⟨X,Z,P,rfl,hX,_,_⟩:=h
 have h2:X<4096:=Nat.lt_of_lt_of_le hX (Nat.pow_le_pow_right (by decide) hw)
 unfold cb vec pos xB
 rw [if_pos (by omega),nf_mk,show 2*n / 2=n by omega,vec_bit h2,if_pos (by omega)]
 show _=(X:Int).toNat.testBit n
 rw [Int.toNat_natCast]
theorem bitB_even (q:Ps) (n:Nat):bitB q (2*n:Nat)=decide (bitI q.x n=1):=by
 unfold bitB
 have e1:((2*n:Nat):Int) % 2=0:=by omega
 have e2:((2*n:Nat):Int) / 2=n:=by omega
 rw [if_pos e1,e2]
theorem bitI_x {w n:Nat} (hw:w<=12) (hn:n<w) {q:Ps} (h:Vl w q):decide (bitI q.x n=1)=xB q n:=by rw [<- bitB_even,bitB_x hw hn h]
theorem clrX_z0 (f:Ps) (n:Nat):clrX f n Ps.z0=Ps.z0:=by
 unfold clrX
 rw [if_neg]
 show ¬ (0:Int).toNat.testBit n=true
 simp
structure FS where
 r:Nat->Ps
 m:Nat
 o:Nat->Nat × Ps
def dlt (rf:Nat->Ps) (f j:Nat):Ps:=if j<f then rf j else rf (j+1)
def flS (w n:Nat) (s:FS):FS:=match fndO s.r s.m (2*n) 0 with
 | none=>s
 | some f=>⟨fun j=>clrX (s.r f) n (dlt s.r f j),s.m-1,fun j=>if j<w-s.m then ((s.o j).1,clrX (s.r f) n (s.o j).2) else (n,s.r f)⟩
def flN (w:Nat) (l:List Ps):Nat->FS
 | 0=>⟨fun j=>l.getD j Ps.z0,w,fun _=>(0,Ps.z0)⟩
 | n+1=>flS w n (flN w l n)
abbrev flA (w:Nat) (s:FS):List (Nat × Ps):=(List.range (w-s.m)).map s.o
abbrev flB (s:FS):List Ps:=(List.range s.m).map s.r
structure FlOk (w n:Nat) (L:List E) (s:FS):Prop where
 le:s.m<=w
 z:∀ j,s.m<=j->s.r j=Ps.z0
 pt:Pt w n L (flA w s) (flB s)
theorem flok_r {w n:Nat} {L:List E} {s:FS} (h:FlOk w n L s) {j:Nat} (hj:j<s.m):Vl w (s.r j):=h.pt.vl _ (List.mem_append.2 (.inr (List.mem_map.2 ⟨j,List.mem_range.2 hj,rfl⟩)))
theorem flok_o {w n:Nat} {L:List E} {s:FS} (h:FlOk w n L s) {j:Nat} (hj:j<w-s.m):Vl w (s.o j).2/\(s.o j).1<n:=by
 have hm:s.o j∈flA w s:=List.mem_map.2 ⟨j,List.mem_range.2 hj,rfl⟩
 exact ⟨h.pt.vl _ (List.mem_append.2 (.inl (List.mem_map.2 ⟨_,hm,rfl⟩))),h.pt.lt _ hm⟩
theorem fl_step {w n:Nat} (hw:w<=12) (hn:n<w) {L:List E} {s:FS} (h:FlOk w n L s):FlOk w (n+1) L (flS w n s):=by
 unfold flS
 cases hf:fndO s.r s.m (2*n) 0 with
 | none =>
  refine ⟨h.le,h.z,ptq_skip h.pt fun b hb=>?_⟩
  obtain ⟨j,hj,rfl⟩:=List.mem_map.1 hb
  have hj:=List.mem_range.1 hj
  rw [<- bitB_x hw hn (flok_r h hj)]
  exact fndO_none hf j (Nat.zero_le j) hj
 | some f =>
  obtain ⟨_,f1,f2,_⟩:=fndO_some hf
  have hfv:=flok_r h f1
  rw [bitB_x hw hn hfv] at f2
  dsimp only
  have hle:=h.le
  refine ⟨by show s.m-1<=w;omega,fun j hj=>?_,?_⟩
  ·have hj:s.m-1<=j:=hj
   show clrX _ n (dlt s.r f j)=_
   have:dlt s.r f j=Ps.z0:=by
    unfold dlt
    rw [if_neg (by omega)]
    exact h.z _ (by omega)
   rw [this,clrX_z0]
  ·have eA:flA w ⟨fun j=>clrX (s.r f) n (dlt s.r f j),s.m-1,fun j=>if j<w-s.m then ((s.o j).1,clrX (s.r f) n (s.o j).2) else (n,s.r f)⟩=(flA w s).map (fun a=>(a.1,clrX (s.r f) n a.2))++[(n,s.r f)]:=by
    unfold flA
    dsimp only
    rw [show w-(s.m-1)=(w-s.m)+1 by omega,List.range_succ,List.map_append,List.map_map]
    congr 1
    ·refine List.map_congr_left fun j hj=>?_
     rw [if_pos (List.mem_range.1 hj)];rfl
    ·simp only [List.map_cons,List.map_nil]
     rw [if_neg (Nat.lt_irrefl _)]
   rw [eA]
   have hd:∀ j,j<s.m-1->∃ i,i<s.m/\dlt s.r f j=s.r i:=fun j hj=>by
    unfold dlt
    split
    ·exact ⟨j,by omega,rfl⟩
    ·exact ⟨j+1,by omega,rfl⟩
   refine ptq_step hw h.pt (f:=s.r f) (List.mem_map.2 ⟨f,List.mem_range.2 f1,rfl⟩) f2 (fun q hq=>?_) (fun r hr=>?_) (fun q hq=>?_)
   ·obtain ⟨j,hj,rfl⟩:=List.mem_map.1 hq
    obtain ⟨i,hi,e⟩:=hd j (List.mem_range.1 hj)
    exact ⟨s.r i,List.mem_map.2 ⟨i,List.mem_range.2 hi,rfl⟩,by show clrX _ n (dlt s.r f j)=_;rw [e]⟩
   ·obtain ⟨i,hi,rfl⟩:=List.mem_map.1 hr
    have hi:=List.mem_range.1 hi
    rcases Nat.lt_trichotomy i f with q|q|q
    ·exact .inr (List.mem_map.2 ⟨i,List.mem_range.2 (by show i<s.m-1;omega),by show clrX _ n (dlt s.r f i)=_;unfold dlt;rw [if_pos q]⟩)
    ·exact .inl (by rw [q])
    ·refine .inr (List.mem_map.2 ⟨i-1,List.mem_range.2 (by show i-1<s.m-1;omega),?_⟩)
     show clrX _ n (dlt s.r f (i-1))=_
     unfold dlt;rw [if_neg (by omega),show i-1+1=i by omega]
   ·obtain ⟨j,hj,rfl⟩:=List.mem_map.1 hq
    obtain ⟨i,hi,e⟩:=hd j (List.mem_range.1 hj)
    show xB (clrX _ n (dlt s.r f j)) n=false
    rw [e,clrX_bit hw hfv (flok_r h hi),f2]
    cases xB (s.r i) n <;> rfl
theorem fl_zero {w:Nat} {l:List Ps} (hlen:l.length=w) (hv:∀ q,q∈l->Vl w q) (hG:Good (l.map nf)):FlOk w 0 (l.map nf) (flN w l 0):=by
 have eB:flB (flN w l 0)=l:=by
  show (List.range w).map (fun j=>l.getD j Ps.z0)=l
  apply List.ext_getElem
  ·simp [hlen]
  ·intro i h1 h2
   simp [List.getElem?_eq_getElem h2]
 have eA:flA w (flN w l 0)=[]:=by
  show (List.range (w-w)).map _=[]
  rw [Nat.sub_self];rfl
 refine ⟨Nat.le_refl w,fun j hj=>?_,?_⟩
 ·show l.getD j Ps.z0=_
  have:w<=j:=hj
  rw [List.getD_eq_getElem?_getD,List.getElem?_eq_none (by omega)];rfl
 ·rw [eA,eB]
  exact ⟨hv,hG,fun _=>Iff.rfl,(fun a ha=>by cases ha),(fun a ha=>by cases ha),List.Pairwise.nil,fun b _ m hm=>by omega⟩
theorem fl_run {w:Nat} (hw:w<=12) {l:List Ps} (hlen:l.length=w) (hv:∀ q,q∈l->Vl w q) (hG:Good (l.map nf)):∀ n,n<=w->FlOk w n (l.map nf) (flN w l n)
 | 0,_=>fl_zero hlen hv hG
 | n+1,hn=>fl_step hw hn (fl_run hw hlen hv hG n (by omega))
end Go.Tz
