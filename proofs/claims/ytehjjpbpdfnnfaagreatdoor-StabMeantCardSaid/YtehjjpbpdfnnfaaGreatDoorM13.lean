import Derived.Test.YtehjjpbpdfnnfaaGreatDoorM00
import Derived.Test.YtehjjpbpdfnnfaaGreatDoorM12
namespace Go.Tz
open Go Go.AL Go.Proofs Go.Ma
def unP(j:Nat):P4:=⟨if j=0 then 1 else if j=4 then -1 else 0,if j=1 then 1 else if j=5 then -1 else 0,if j=2 then 1 else if j=6 then -1 else 0,if j=3 then 1 else if j=7 then -1 else 0⟩
theorem un_nmL(j m:Nat):unL j m=nmL (unP j,m):=rfl
theorem zqg{i j:Nat}(hi:i<8)(hj:j<8):(unP i).mul (unP j)=unP ((i+j)%8):=by
 have h:((List.range 8).all fun i=>(List.range 8).all fun j=>decide ((unP i).mul (unP j)=unP ((i+j)%8)))=true:=qah
 exact of_decide_eq_true (List.all_eq_true.1 (List.all_eq_true.1 h i (List.mem_range.2 hi)) j (List.mem_range.2 hj))
theorem zsh{j:Nat}(hj:j<8):P4.Bd 1 (unP j):=by
 have h:((List.range 8).all fun j=>decide (-1<=(unP j).a/\(unP j).a<=1 /\ -1<=(unP j).b/\(unP j).b<=1 /\ -1<=(unP j).c/\(unP j).c<=1 /\ -1<=(unP j).d/\(unP j).d<=1))=true:=qah
 exact of_decide_eq_true (List.all_eq_true.1 h j (List.mem_range.2 hj))
theorem zqh{j:Nat}(hj:j<8)(K:Nat):P4.lst K (unP j)=(unP j,K)/\P4.lsz K (unP j)=(unP j,K):=by
 have h7:j=0\/j=1\/j=2\/j=3\/j=4\/j=5\/j=6\/j=7:=qad
 have h:P4.lst K (unP j)=(unP j,K):=by
  cases K with
  | zero=>rfl
  | succ K=>rcases h7 with rfl|rfl|rfl|rfl|rfl|rfl|rfl|rfl<;>rfl
 refine⟨h,?_⟩
 have hz:unP j≠P4.z:=by rcases h7 with rfl|rfl|rfl|rfl|rfl|rfl|rfl|rfl<;>decide
 unfold P4.lsz
 rw[if_neg hz];exact h
theorem gau_un:∀(s K:Nat) {p:P4},P4.Gau p->P4.nrm p=2^s->s<=K->∃ j,j<8/\P4.lst K p=(unP j,K-s)
 | 0,K,p,hg,hn,_=>by
  have:∃ j,j<8/\p=unP j:=by
   have b:=P4.bd_nrm (p:=p) (n:=1) qag (by rw[hn];decide)
   obtain⟨a,bb,c,d⟩:=p
   unfold P4.Bd at b
   unfold P4.Gau at hg
   unfold P4.nrm at hn
   simp only at b hg hn
   have ha:a = -1\/a=0\/a=1:=qad
   have hb:bb = -1\/bb=0\/bb=1:=qad
   have hc:c = -1\/c=0\/c=1:=qad
   have hd:d = -1\/d=0\/d=1:=qad
   rcases ha with rfl|rfl|rfl<;>rcases hb with rfl|rfl|rfl<;>rcases hc with rfl|rfl|rfl<;>rcases hd with rfl|rfl|rfl<;>first
    | (exfalso;simp at hn;done)
    | (exfalso;omega)
    | exact⟨0,by decide,rfl⟩
    | exact⟨1,by decide,rfl⟩
    | exact⟨2,by decide,rfl⟩
    | exact⟨3,by decide,rfl⟩
    | exact⟨4,by decide,rfl⟩
    | exact⟨5,by decide,rfl⟩
    | exact⟨6,by decide,rfl⟩
    | exact⟨7,by decide,rfl⟩
  obtain⟨j,h1,rfl⟩:=this
  exact⟨j,h1,(zqh h1 K).1⟩
 | s+1,K+1,p,hg,hn,hK=>by
  have he:p.evn:=by
   obtain⟨a,bb,c,d⟩:=p
   unfold P4.Gau at hg
   unfold P4.nrm at hn
   unfold P4.evn
   simp only at hg hn⊢
   rw[Int.pow_succ]at hn
   have par:∀ x:Int,(x*x)%2=x%2:=fun x=>by
    have hx:x%2=0\/x%2=1:=qad
    rcases hx with h|h<;>rw[Int.mul_emod,h]<;>rfl
   have p1:=par a
   have p2:=par bb
   have p3:=par c
   have p4:=par d
   rcases hg with⟨rfl,rfl⟩|⟨rfl,rfl⟩<;>omega
  have h1:P4.nrm p.hlf=2^s:=by
   have:=P4.nrm_twc' p.hlf
   rw[P4.twc_hlf he,hn,Int.pow_succ]at this
   omega
  obtain⟨j,j1,j2⟩:=gau_un s K (P4.hlf_gau hg) h1 qad
  refine⟨j,j1,?_⟩
  show(if p.evn then P4.lst K p.hlf else _)=_
  rw[if_pos he,j2]
  congr 1
  omega
theorem entry_un{z:Cx}{s K:Nat}(hn:cn2 z=2^s)(hK:s<=K):∃ j,j<8 /\ ∀ p,p<4->ln K (trn p z)=(unP ((j+2*p)%8),K-s):=by
 have hz:emb z≠P4.z:=fun e=>by
  have:P4.nrm (emb z)=0:=by rw[e];rfl
  rw[zpi,hn]at this
  have:(0:Int)<2^s:=Int.pow_pos qag
  omega
 obtain⟨j,j1,j2⟩:=gau_un s K (emb_gau z) (by rw[zpi];exact hn) hK
 have h0:P4.lsz K (emb z)=(unP j,K-s):=by
  unfold P4.lsz
  rw[if_neg hz];exact j2
 refine⟨j,j1,fun p hp=>?_⟩
 have hm:=P4.lsz_mul (K:=K) (e:=0) (S:=emb z) (emb (trn p (1,0)))
 rw[h0,emb_trn]at hm
 have e1:emb (trn p (1,0))=unP (2*p):=by
  have h4:p=0\/p=1\/p=2\/p=3:=qad
  rcases h4 with rfl|rfl|rfl|rfl<;>rfl
 rw[e1]at hm
 dsimp only at hm
 rw[zqg qad j1,Nat.zero_add,Nat.zero_add,show(2*p+j)%8=(j+2*p)%8 by omega,(zqh (Nat.mod_lt _ qag) _).2]at hm
 exact hm.symm
theorem om_mulB{k:Nat}{v:Option Nat}{m:Nat}(hv:∀ p,v=some p->p<4)(hm:m<=50)(hk:k<8):PC Pr GK 75 [.agg (unL k 0),amD v m] (.tup [.agg (omL k v m),iD 0]):=by
 cases v with
 | none=>exact up (mul75z hk)
 | some p =>
  have hp:=hv p rfl
  have h:=zq6 (G:=GK) (p:=unP k) (q:=unP (2*p)) (k:=0) (j:=m) qad ((zsh hk).mono qag) ((zsh qad).mono qag) (by rw[zqg hk qad];exact(zsh (Nat.mod_lt _ qag)).mono qag)
  rw[zqg hk qad,Nat.zero_add,(zqh (Nat.mod_lt _ qag) _).2]at h
  unfold amD
  rw[<- zyp hp]
  exact h
end Go.Tz
namespace Go.Tz
open Go Go.AL Go.Proofs Go.Ma
variable{val:Nat->Option Nat}{m w j0 lst:Nat}
def unE(j m:Nat):Option Nat->P4×Nat
 | none=>zN
 | some p=>(unP ((j+2*p)%8),m)
def vU(j m:Nat)(val:Nat->Option Nat)(N:Nat):List (P4×Nat):=(List.range N).map fun k=>unE j m (val k)
theorem zqa(j m:Nat)(val:Nat->Option Nat)(N:Nat):(vU j m val N).length=N:=by unfold vU;simp
theorem vU_get{j m:Nat}{val:Nat->Option Nat}{N k:Nat}(h:k<N):((vU j m val N).map nmL)[(k:Int).toNat]?=some (nmL (unE j m (val k))):=by
 unfold vU
 rw[Int.toNat_natCast,List.getElem?_map,List.getElem?_map,List.getElem?_range h];rfl
theorem unE_ok{j m:Nat}(hm:m<=60)(v:Option Nat):NumOk (unE j m v)/\P4.lsz (unE j m v).2 (unE j m v).1=unE j m v:=by
 cases v with
 | none=>exact⟨⟨Nat.zero_le _,(by decide:P4.Bd 1073741824 P4.z)⟩,rfl⟩
 | some p =>
  have h8:(j+2*p)%8<8:=Nat.mod_lt _ qag
  exact⟨⟨hm,(zsh h8).mono qag⟩,(zqh h8 m).2⟩
theorem vU_ok{j m:Nat}(hm:m<=60)(val:Nat->Option Nat)(N:Nat):∀ s,s∈vU j m val N->NumOk s/\P4.lsz s.2 s.1=s:=fun s hs=>by
 obtain⟨k,_,rfl⟩:=List.mem_map.1 hs
 exact unE_ok hm _
theorem unE_0{m:Nat}{v:Option Nat}(h:∀ p,v=some p->p<4):nmL (unE 0 m v)=amL v m:=by
 cases v with
 | none=>rfl
 | some p =>
  have hp:=h p rfl
  show nmL (unP ((0+2*p)%8),m)=_
  rw[show(0+2*p)%8=2*p by omega,<- zyp hp];rfl
theorem unE_om(j m:Nat)(v:Option Nat):omL j v m=nmL (unE j m v):=by
 cases v<;>rfl
theorem nm_ex(s:P4×Nat):∃ a b c d e:Int,nmL s=[iD a,iD b,iD c,iD d,iD e]:=⟨_,_,_,_,_,rfl⟩
theorem p4_ext{p q:P4}(h1:p.a=q.a)(h2:p.b=q.b)(h3:p.c=q.c)(h4:p.d=q.d):p=q:=by
 cases p;cases q
 simp only at h1 h2 h3 h4
 subst h1 h2 h3 h4
 rfl
theorem un_ne{j k m:Nat}(hj:j<8)(hk:k<8)(hne:k≠j){a0 a1 a2 a3 a4 b0 b1 b2 b3 b4:Int}(ha:unL k m=[iD a0,iD a1,iD a2,iD a3,iD a4])(hb:unL j m=[iD b0,iD b1,iD b2,iD b3,iD b4]):¬(a0=b0/\a1=b1/\a2=b2/\a3=b3/\a4=b4):=by
 rintro⟨rfl,rfl,rfl,rfl,rfl⟩
 have h:unL k m=unL j m:=ha.trans hb.symm
 have key:((List.range 8).all fun j=>(List.range 8).all fun k=>Nat.beq k j||decide (unP k≠unP j))=true:=qah
 have h2:=List.all_eq_true.1 (List.all_eq_true.1 key j (List.mem_range.2 hj)) k (List.mem_range.2 hk)
 rw[Bool.or_eq_true]at h2
 rcases h2 with h2|h2
 ·exact hne (Nat.eq_of_beq_eq_true h2)
 ·refine of_decide_eq_true h2 ?_
  rw[un_nmL,un_nmL]at h
  unfold nmL at h
  simp only[List.cons.injEq,D.int.injEq,true_and]at h
  obtain⟨h1,h3,h4,h5,_⟩:=h
  exact p4_ext h1 h3 h4 h5
theorem phase82u(hw:w<=4)(hm:m<=50)(h4:∀ k p,val k=some p->p<4)(hj:j0<8)(t t':Bool)(hl:lst<2^w)(h0:val lst=some 0)(hb:∀ k,k<lst->val k=none) :
  PC Pr GK 82 [vN (vU j0 m val (2^w)) t,vN (vU 0 m val (2^w)) t'] (.tup [iD j0,iD 0]):=by
 have hp:2^w<=16:=Nat.pow_le_pow_right (n:=2) qag hw
 have c1:=zmq (w:=w) (fun s hs=>(vU_ok (j:=j0) (m:=m) qad val (2^w) s hs).1) (zqa ..) qad t
 have c2:=zmq (w:=w) (fun s hs=>(vU_ok (j:=0) (m:=m) qad val (2^w) s hs).1) (zqa ..) qad t'
 have c3:=po_vn (zl5 (fun s hs=>(vU_ok (j:=j0) (m:=m) qad val (2^w) s hs).1) (fun s hs=>(vU_ok (j:=j0) (m:=m) qad val (2^w) s hs).2) (by rw[zqa];omega) t)
 have l1:((vU j0 m val (2^w)).map nmL).length=2^w:=by rw[List.length_map,zqa]
 have l2:((vU 0 m val (2^w)).map nmL).length=2^w:=by rw[List.length_map,zqa]
 have g1:=fun q (hq:q<2^w)=>vU_get (j:=j0) (m:=m) (val:=val) hq
 have g2:∀ q:Nat,q<2^w->((vU 0 m val (2^w)).map nmL)[(q:Int).toNat]?=some (amL (val q) m):=fun q hq=>by rw[vU_get hq,unE_0 (h4 q)]
 have z0:((0:Int) != 0)=false:=rfl
 unfold vN at c1 c2 c3⊢
 generalize (vU j0 m val (2^w)).map nmL=V at c1 c3 l1 g1⊢
 generalize (vU 0 m val (2^w)).map nmL=U at c2 l2 g2⊢
 have hne:(((V.length:Nat):Int) != ((U.length:Nat):Int))=false:=by rw[l1,l2];simp
 refine zai pok Tryz.func82 chk82 ?_
 conv=>whnf
 repeat' first|((first|refine zak c1 ?_|refine zak c2 ?_|refine zak c3 ?_|refine knownB z0 ?_|refine knownB hne ?_);conv=>whnf)
 refine zef (σ:={ k:Nat // k<=j0 }) (fun s=>⟨[(1,.d (.sl U t')),(8,.d (.sl V true)),(31,.d (iD s.1))],[],0⟩) (fun s=>j0-s.1) ⟨0,Nat.zero_le _⟩ ?_ qah ?_
 ·exact qf2
 ·rintro⟨k,hk⟩ A hA
  dsimp only at hA⊢
  have e1:iadd .i64 (k:Int) 1=((k+1:Nat):Int):=zah (b:=1) qad
  have h8:decide ((k:Int)<8)=true:=decide_eq_true qad
  have cO:=up (zc4 (k:=k) qad)
  by_cases ek:k=j0
  ·conv=>whnf
   repeat' first|(refine knownB h8 ?_;conv=>whnf)
   refine zaq pok (fun i=>⟨[(1,.d (.sl U t')),(8,.d (.sl V true)),(9,.d (iD k)),(31,.d (iD k)),(34,.d (.sl U t')),(35,.d (iD U.length)),(36,.d (iD i))],[],0⟩) (U.length) (fun _=>True) (trivial) ?_ qah ?_ ?_
   ·exact qf2
   ·intro i A_i h_i I_i N_i
    have e_i:iadd .i64 (i:Int) 1=((i+1:Nat):Int):=zah qbl
    have hgu:=g2 i qad
    have hgv:=g1 i qad
    have cM:=om_mulB (m:=m) (v:=val i) (k:=k) (h4 i) hm qad
    rw[unE_om]at cM
    rw[<- ek]at hgv
    obtain⟨a0,a1,a2,a3,a4,ha⟩:=zt9 (val i) m
    obtain⟨b0,b1,b2,b3,b4,hbb⟩:=nm_ex (unE k m (val i))
    rw[hbb]at cM hgv
    unfold amD at cM
    rw[ha]at cM hgu
    conv=>whnf
    repeat (refine LookP.mk _ rfl ?_;conv=>whnf)
    intro t ht
    cases t
    ·exact qbh
    conv=>whnf
    repeat' first|((first|refine LookP.mk _ qdq ?_|refine ShlP.mk _ qaa ?_|refine And.intro qbp ?_|refine zam cO ?_|refine zam cM ?_|refine HpP.force ?_);conv=>whnf)|(intro t ht;cases t<;>conv=>whnf)
    ·refine N_i _ ?_ ?_
     ·exact qbj
     ·exact qf3
    ·exact qea
   ·intro A_last I_last
    conv=>whnf
    repeat (refine LookP.mk _ rfl ?_;conv=>whnf)
    intro t ht
    cases t
    rotate_left
    ·exact qbh
    conv=>whnf
    skip
    subst ek
    exact fin rfl
  ·conv=>whnf
   repeat' first|(refine knownB h8 ?_;conv=>whnf)
   refine zef (σ:={ i:Nat // i<=lst }) (fun s=>⟨[(1,.d (.sl U t')),(8,.d (.sl V true)),(9,.d (iD k)),(31,.d (iD k)),(34,.d (.sl U t')),(35,.d (iD U.length)),(36,.d (iD s.1))],[],0⟩) (fun s=>lst-s.1) ⟨0,Nat.zero_le _⟩ ?_ qah ?_
   ·exact qf2
   ·rintro⟨i,hi⟩ B hB
    dsimp only at hB⊢
    have e2:iadd .i64 (i:Int) 1=((i+1:Nat):Int):=zah (b:=1) qad
    have hlt:decide ((i:Int)<(U.length:Int))=true:=decide_eq_true qad
    have hgu:=g2 i qad
    have hgv:=g1 i qad
    have cM:=om_mulB (m:=m) (v:=val i) (k:=k) (h4 i) hm qad
    by_cases ei:i=lst
    ·subst ei
     rw[h0]at cM hgu hgv
     obtain⟨a0,a1,a2,a3,a4,ha⟩:=zt9 (some 0) m
     obtain⟨b0,b1,b2,b3,b4,hbb⟩:=om_ex k (some 0) m
     obtain⟨d0,d1,d2,d3,d4,hd⟩:=nm_ex (unE j0 m (some 0))
     unfold amD at cM
     rw[ha,hbb]at cM
     rw[ha]at hgu
     rw[hd]at hgv
     have hbb:unL ((k+2*0)%8) m=_:=hbb
     have hd:unL ((j0+2*0)%8) m=_:=hd
     rw[show(k+2*0)%8=k by omega]at hbb
     rw[show(j0+2*0)%8=j0 by omega]at hd
     have hn1:=un_ne hj qad ek hbb hd
     conv=>whnf
     repeat' first|((first|refine LookP.mk _ qdq ?_|refine ShlP.mk _ qaa ?_|refine And.intro qbp ?_|refine knownB hlt ?_|refine zam cO ?_|refine zam cM ?_|refine HpP.force ?_);conv=>whnf)|(intro t ht;cases t<;>conv=>whnf)
     ·exfalso;simp at ht;exact hn1 ht
     ·refine hA _ ⟨k+1,by omega⟩ ?_ (by show j0-(k+1)<j0-k;omega)
      refine zac qac ?_ ?_ trivial
      ·exact qar
      ·exact qab
    ·have hv:=hb i qad
     unfold amD at cM
     rw[hv,show amL none m=[iD 0,iD 0,iD 0,iD 0,iD 0] from rfl]at hgu
     rw[hv,show nmL (unE j0 m none)=[iD 0,iD 0,iD 0,iD 0,iD 0] from rfl]at hgv
     rw[hv]at cM
     have cM:PC Pr GK 75 [.agg (unL k 0),.agg [iD 0,iD 0,iD 0,iD 0,iD 0]] (.tup [.agg [iD 0,iD 0,iD 0,iD 0,iD 0],iD 0]):=cM
     conv=>whnf
     repeat' first|((first|refine LookP.mk _ qdq ?_|refine ShlP.mk _ qaa ?_|refine And.intro qbp ?_|refine knownB hlt ?_|refine zam cO ?_|refine zam cM ?_|refine HpP.force ?_);conv=>whnf)|(intro t ht;cases t<;>conv=>whnf)
     ·refine hB _ ⟨i+1,by omega⟩ ?_ (by show lst-(i+1)<lst-i;omega)
      refine zac qac ?_ ?_ trivial
      ·exact qc4
      ·exact qab
     ·exact qea
end Go.Tz
namespace Go.Tz
open Go Go.AL Go.Proofs Go.Ma
theorem zyj{w:Nat}{l:List Ps}(t:Bool)(h:SOk w l)(h6:w<=6):PO Pr GK 20 [stD w l t] (.tup [.sl 0 5 0 (2^w) (2^w) false,.d (iD 0)]) [(0,some (dblk 5 (vcL (valW w (pgA w l) (pgL w l)) (pgA w l).length (2^w))))] 1:=by
 refine⟨za3 Tryz.func20 chk20,zp1 gk_up (zaz (zyk t h h6) ?_)⟩
 rintro v H _ ⟨rfl,hg⟩
 refine⟨.tup [.sl 0 5 0 (2^w) (2^w) false,.d (iD 0)],[(0,some (dblk 5 (vcL (valW w (pgA w l) (pgL w l)) (pgA w l).length (2^w))))],1,?_,rfl,rfl,rfl⟩
 first|refine zav [(0,1)] ?_ ?_ ?_ trivial|refine zap [(0,1)] rfl rfl ?_ ?_ ?_ trivial
 ·exact qae
 ·repeat' first|exact trivial|refine⟨⟨ltB rfl,_,rfl,by first|rfl|assumption|exact zag rfl (by first|rfl|assumption|exact zag rfl (by rw[zbf];exact hg))|exact zag rfl (by rw[zbf];exact hg),by first|exact zae rfl|exact zaa _ _ _|exact zab rfl⟩,?_⟩
 ·exact qaf
theorem mulV{v:Option Nat}{m c:Nat}(hv:∀ p,v=some p->p<4)(hm:m+c<=50):PC Pr GK 75 [amD v m,amD (some 0) c] (.tup [amD v (m+c),iD 0]):=by
 cases v with
 | none =>
  have h:=zq6 (G:=GK) (p:=P4.z) (q:=unP 0) (k:=0) (j:=c) qad qag qag qag
  exact h
 | some p =>
  have hp:=hv p rfl
  have h:=zq6 (G:=GK) (p:=unP (2*p)) (q:=unP 0) (k:=m) (j:=c) qad ((zsh qad).mono qag) ((zsh qag).mono qag) (by rw[zqg qad qag];exact(zsh (Nat.mod_lt _ qag)).mono qag)
  rw[zqg qad qag,(zqh (Nat.mod_lt _ qag) _).2,show(2*p+0)%8=2*p by omega]at h
  unfold amD
  rw[<- zyp hp,<- zyp hp,<- zyp (p:=0) qag]
  exact h
theorem root78x{m:Nat}(hm:m<=28):PC Pr GK 78 [iD m] (.tup [amD (some 0) m,iD 0]):=by
 have h:((List.range 29).all fun m:Nat=>rnB 78 [iD m] (.tup [amD (some 0) m,iD 0]))=true:=qah
 exact up (zf6 (List.all_eq_true.1 h m (List.mem_range.2 qad)))
theorem zs5:∀(a M q:Nat),2^a*q=2^M->a<=M/\q=2^(M-a)
 | 0,M,q,h=>⟨Nat.zero_le _,by rw[Nat.sub_zero,<- h,Nat.pow_zero,Nat.one_mul]⟩
 | a+1,0,q,h=>by
  have e:2^(a+1)*q=2*(2^a*q):=qeu
  rw[e]at h
  have:(2:Nat)^0=1:=rfl
  omega
 | a+1,M+1,q,h=>by
  have e:2^(a+1)*q=2*(2^a*q):=qeu
  rw[e,Nat.pow_succ]at h
  obtain⟨h1,h2⟩:=zs5 a M q qad
  exact⟨by omega,by rw[h2,Nat.succ_sub_succ]⟩
theorem vec_un{w m lst M c:Nat}{L:List E}{val:Nat->Option Nat}{u:Nat->Cx}(hw:w<=12)(hL:Sta w L)(ha:Amp L w lst m val)(hx:∀ g,Gen L g->xv g.2<2^w)(hu:∀ g,Gen L g->Fix w g u)(h4:∀ k p,k<2^w->val k=some p->p<4)(hn:csc (2^c) (inn w u u)=(2^M,0)) :
  ∃ j,j<8/\m+c<=M /\ ∀ k,k<2^w->ln M (u k)=unE j (m+c) (val k):=by
 have hi:=(fix_inn hw hL ha hx hu).2
 have hv:=fix_vec hw hL ha hu
 rw[hi]at hn
 have h1:(2^c:Int)*(((2^m:Nat):Int)*cn2 (u lst))=2^M:=congrArg Prod.fst hn
 generalize u lst=z at hv h1
 have hs:∃ s,cn2 z=2^s/\s+(m+c)=M:=by
  have e:((2^m:Nat):Int)=2^m:=qe5
  rw[e,<- Int.mul_assoc,<- Int.pow_add]at h1
  have hc:=zwi z
  obtain⟨q,hq⟩:∃ q:Nat,(q:Int)=cn2 z:=⟨(cn2 z).toNat,by omega⟩
  rw[<- hq]at h1⊢
  have h2:2^(c+m)*q=2^M:=by
   have:=h1
   exact_mod_cast this
  obtain⟨h3,rfl⟩:=zs5 _ _ _ h2
  exact⟨M-(c+m),by rw[Int.natCast_pow];rfl,by omega⟩
 obtain⟨s,hs1,hs2⟩:=hs
 obtain⟨j,j1,j2⟩:=entry_un hs1 (show s<=M by omega)
 refine⟨j,j1,by omega,fun k hk=>?_⟩
 rw[hv k hk]
 cases e:val k with
 | none=>exact ln_0 M
 | some p =>
  show ln M (trn p z)=(unP ((j+2*p)%8),m+c)
  rw[j2 p (h4 k p hk e)]
  congr 1
  omega
end Go.Tz
namespace Go.Tz
open Go Go.AL Go.Proofs Go.Ma
variable{w:Nat}{b:Nat}{gs:List Gt}{wa:List Int}
theorem st_chk(hw:1<=w/\w<=12)(hb:b<=8)(hl:gs.length<=100)(h:∀ g,g∈gs->StOk w b g):cchk w b gs=0:=cchk0 qad qad fun g hg=>(h g hg).chk
theorem fok_of(hw:1<=w/\w<=3)(hb:b<=3)(hl:gs.length<=14)(h:∀ g,g∈gs->StOk w b g)(hc:wa.length=gs.countP mB)(h8:wa.length<=8)(h01:∀ x,x∈wa->x=0\/x=1):FOk w b gs wa :=
 ⟨⟨by omega,by omega,by omega,fun g hg=>(h g hg).chk,fun g hg=>(h g hg).kd,hc,h01⟩,by omega,zn8 qad,hl,by omega,h8⟩
theorem along58d{l:List Ps}(hs:SOk w l)(cw:Int)(ct t u:Bool)(hC:cchk cw b gs=0)(hws:∀ g,g∈gs->g.ws.length<=1000)(hwn:wa.length<=1000)(h:alE w l cw b gs wa=0)(hr:(runA w wa b l gs).r.length=w)(hbl:(runA w wa b l gs).bs.length=b) :
  PC Pr GK 58 [circD cw b gs ct,stD w l t,intsD wa u] (.tup [stD w (runA w wa b l gs).r true,intsD (runA w wa b l gs).bs true,iD (runA w wa b l gs).c,iD 0]):=by
 have hp:=along58 hs cw gs wa ct t u hC hws hwn h
 refine up (zck hp.fn (zbc hp.call ?_))
 rintro v H _ ⟨rfl,rfl,_⟩
 generalize runA w wa b l gs=s at hr hbl
 exact asD_tup4 (zpx (.d _) (zda rfl (by rw[List.length_map,hr]))) (zda rfl (by rw[List.length_map,hbl])) (.d _) (.d _)
theorem vec_allP{l:List Ps}(hs:SOk w l)(hw:w<=6)(lt:Bool):∃(va:Nat->Option Nat) (ka lst:Nat),PO Pr GK 20 [stD w l lt] (.tup [.sl 0 5 0 (2^w) (2^w) false,.d (iD 0)]) [(0,some (dblk 5 (vcL va ka (2^w))))] 1/\Amp ((redRows l (2*w)).map nf) w lst ka va/\V4 va/\ka<=w:=by
 have hr:=(zbg hs).1
 have hpg:=(pg_ok hs).amp
 have c20:=zyj lt hs hw
 have ha:=cut_amp hpg
 have h4:=cut_4 hpg
 rw[<- cut_vc]at c20
 generalize cutV w (valW w (pgA w l) (pgL w l))=val at ha h4 c20
 generalize (pgA w l).length=m at ha c20
 have hcount:cntV val (2^w)=2^m:=zr1 ha (gen_xv hr)
 refine⟨val,m,_,c20,ha,h4,?_⟩
 have:=cnt_le' val (2^w)
 rw[hcount]at this
 exact(Nat.pow_le_pow_iff_right qag).1 this
end Go.Tz
namespace Go.Tz
open Go Go.AL Go.Proofs Go.Ma
noncomputable def ops14:Array Oper:=(Tryz.f14.body.bind (findReg 3)).getD #[]
def tv14(w bv:Nat)(p:List Gt×Bool):List (Nat×Nat×AV):=[(0,34,.ptr 0 3 0 0),(1,35,.d (iD w)),(2,36,.ptr 0 3 0 0),(3,37,.d (iD bv)),(4,38,.d cfD),(5,39,.d (circD w bv p.1 p.2)),(6,7,.ptr 1 3 0 0)]
structure Z14 (a:List Int) (u:Bool) (w nx bv:Nat) (p:List Gt×Bool) (nxc:Nat) (stc:Int) (L:Nat->Bool) (s:St):Prop where
 st:s.heap.get 0=some (storeB a u nxc stc)
 b3:L 3=false->nxc=nx
 b4:L 5=false->nxc<=nx+1
 b5:nxc<=nx+300
 n0:L 6=false->s.nx=1
 n1:L 6=true->s.nx=2
 a0:L 6=true->L 7=false->s.heap.get 1=some (.arr 3 [[.d (iD 0),.d (iD 0),.d (.sl [] true)]])
 a1:L 7=true->s.heap.get 1=some (.arr 3 [[.d (iD w),.d (iD bv),.d (gatesD p.1 p.2)]])
 d5:L 5=true->L 3=true
 d7:L 7=true->L 6=true/\L 5=true
variable{a:List Int}{u:Bool}{w nx bv nxc:Nat}{stc:Int}{p:List Gt×Bool}{ks:List (Nat×AV)}{L:Nat->Bool}{s:St}
theorem zn9{i d:Nat}{v:AV}(h:Z14 a u w nx bv p nxc stc L s)(h3:i≠3)(h5:i≠5)(h6:i≠6)(h7:i≠7):Z14 a u w nx bv p nxc stc (fun j=>if j=i then true else L j) (({ env:=s.env,heap:=s.heap,nx:=s.nx }:St).put (some d) v):=by
 refine⟨h.st,fun q=>?_,fun q=>?_,h.b5,fun q=>?_,fun q=>?_,fun q r=>?_,fun q=>?_,fun q=>?_,fun q=>?_⟩<;>simp only[if_neg (Ne.symm h3),if_neg (Ne.symm h5),if_neg (Ne.symm h6),if_neg (Ne.symm h7)]at *
 ·exact h.b3 q
 ·exact h.b4 q
 ·exact h.n0 q
 ·exact h.n1 q
 ·exact h.a0 q r
 ·exact h.a1 q
 ·exact h.d5 q
 ·exact h.d7 q
theorem reg14(hw:1<=w/\w<=12)(ha:a.length<=1000)(hnx:nx+1000<=4611686018427387904)(hks:∀ q,q∈ks->q.1<7)(k5:(5,AV.ptr 0 3 0 0)∈ks)(k6:(6,AV.d (iD w))∈ks){s0:St}(S0:ST (tv14 w 0 ([],true)) ks (Z14 a u w nx 0 ([],true) nx stc) (fun _=>false) s0){k:Exit->St->Prop}
  (hk:∀ L s bv p nxc stc,bv<4->p.1.length<=14->(∀ g,g∈p.1->StOk w (bv:Nat) g)->ST (tv14 w bv p) ks (Z14 a u w nx bv p nxc stc) L s->(∀ q,q<8->L q=true)->∃ st'',Sub GK 0 [] s st''/\k .normal st''):RegVH Pr GK Tryz.f14.ntmps 0 [] 3 ops14 true s0 k:=by
 refine⟨fun r=>zmw pok.mixed (ziz qah) (fun L s=>∃ bv p nxc stc,(L 3=true->bv<4)/\(L 5=true->p.1.length<=14 /\ ∀ g,g∈p.1->StOk w (bv:Nat) g)/\ST (tv14 w bv p) ks (Z14 a u w nx bv p nxc stc) L s) ⟨0,([],true),nx,stc,fun h=>(nomatch h),fun h=>(nomatch h),S0⟩ ?_ ?_⟩
 ·rintro L s q op ⟨bv,p,nxc,stc,hb,hp,hS⟩ hL ho hall
  have hq:q<8:=(Array.getElem?_eq_some_iff.1 ho).1
  have T65:=pok.tab.get (t:=65) rfl
  have T42:=pok.tab.get (t:=42) rfl
  have tv:∀ n i d v,(tv14 w bv p)[n]?=some (i,d,v)->L i=true->lk s.env d=v:=fun n i d v h hl=>hS.tv _ (List.mem_of_getElem? h) hl
  have keep3:∀{c:Nat},c≠3->((if 3=c then true else L 3)=true->bv<4):=fun hc h=>hb (by rwa [if_neg (Ne.symm hc)]at h)
  have keep5:∀{c:Nat},c≠5->((if 5=c then true else L 5)=true->p.1.length<=14 /\ ∀ g,g∈p.1->StOk w (bv:Nat) g):=fun hc h=>hp (by rwa [if_neg (Ne.symm hc)]at h)
  have cases8:q=0\/q=1\/q=2\/q=3\/q=4\/q=5\/q=6\/q=7:=qad
  rcases cases8 with rfl|rfl|rfl|rfl|rfl|rfl|rfl|rfl
  all_goals
   have ho:=Option.some.inj (show some _=some op from ho)
   subst ho
   refine⟨rfl,?_⟩
  ·exact zal (fun c h=>by cases h) (zbl rfl (hS.kp _ k5)) rfl ⟨bv,p,nxc,stc,keep3 qag,keep5 qag,zj3 (i:=0) (d:=34) hS hks qag qaq (zn9 hS.z qag qag qag qag)⟩
  ·exact zal (fun c h=>by cases h) (zbl rfl (hS.kp _ k6)) rfl ⟨bv,p,nxc,stc,keep3 qag,keep5 qag,zj3 (i:=1) (d:=35) hS hks qag qaq (zn9 hS.z qag qag qag qag)⟩
  ·exact zal (fun c h=>by cases h) (zbl rfl (hS.kp _ k5)) rfl ⟨bv,p,nxc,stc,keep3 qag,keep5 qag,zj3 (i:=2) (d:=36) hS hks qag qaq (zn9 hS.z qag qag qag qag)⟩
  ·have q2:=tv 2 2 36 _ rfl (hall ⟨2,.data⟩ (Array.mem_of_getElem? (i:=0) rfl) rfl)
   have l5:L 5=false:=by
    cases h:L 5 with
    | false=>rfl
    | true=>exact absurd (hS.z.d5 h) (by rw[hL];decide)
   have l7:L 7=false:=by
    cases h:L 7 with
    | false=>rfl
    | true=>exact absurd (hS.z.d7 h).2 (by rw[l5];decide)
   have e3:=hS.z.b3 hL
   have hc:=zcz (sn:=0) (nx0:=s.nx) (nx:=nxc) (st:=stc) (H:=s.heap) (k:=fun v H' n'=>∃ bv p nxc stc,((if 3=3 then true else L 3)=true->bv<4)/\((if 5=3 then true else L 5)=true->p.1.length<=14 /\ ∀ g,g∈p.1->StOk w (bv:Nat) g)/\ST (tv14 w bv p) ks (Z14 a u w nx bv p nxc stc) (fun j=>if j=3 then true else L j) (({ env:=s.env,heap:=H',nx:=n' }:St).put (some 37) v)) (sc71 a u 60 4 qag ha qag).k qag qad hS.z.st ?_
   ·obtain⟨hf,hc⟩:=hc
    refine zaw (f:=71) (fi:=[]) (ca:=[]) (l:=[.ptr 0 3 0 0,.d (iD ((4:Nat):Int))]) rfl rfl hf ?_ rfl hc
    show []++[lk s.env 36,_]++[]=_
    rw[show lk s.env 36=_ from q2];rfl
   ·intro y st2 nx2 hb2 hy
    have ol:∀ m bl,m≠0->AHeap.get ((0,some bl)::s.heap) m=s.heap.get m:=fun m bl hm=>zad _ _ hm
    refine⟨y,p,nx2,st2,fun _=>hy,fun h=>absurd (show L 5=true from h) (by rw[l5];decide),fun q hq=>(zan _ _ (by have:=hks q hq;omega)).trans (hS.kp q hq),fun q hq hl=>?_,zaf _ _ _,fun h=>(nomatch h),fun _=>by omega,by omega,hS.z.n0,hS.z.n1,fun h1 h2=>(ol _ _ qag).trans (hS.z.a0 h1 h2),fun h=>absurd (show L 7=true from h) qdc,fun _=>rfl,fun h=>absurd (show L 7=true from h) qdc⟩
    simp only[tv14,List.mem_cons,List.not_mem_nil,or_false]at hq
    rcases hq with rfl|rfl|rfl|rfl|rfl|rfl|rfl
    ·exact qd1
    ·exact qd2
    ·exact qep
    ·exact zar _ _ _
    ·exact qeq
    ·exact absurd (show L 5=true from hl) (by rw[l5];decide)
    ·exact qes
  ·exact zal (fun c h=>by cases h) (zf8 (cs:=[cfD]) (off:=0) rfl T42.tok (fun _=>rfl) rfl rfl rfl) rfl ⟨bv,p,nxc,stc,keep3 qag,keep5 qag,zj3 (i:=4) (d:=38) hS hks qag qaq (zn9 hS.z qag qag qag qag)⟩
  ·have q0:=tv 0 0 34 _ rfl (hall ⟨0,.data⟩ (Array.mem_of_getElem? (i:=0) rfl) rfl)
   have q1:=tv 1 1 35 _ rfl (hall ⟨1,.data⟩ (Array.mem_of_getElem? (i:=1) rfl) rfl)
   have l3:=hall ⟨3,.data⟩ (Array.mem_of_getElem? (i:=2) rfl) rfl
   have q3:=tv 3 3 37 _ rfl l3
   have q4:=tv 4 4 38 _ rfl (hall ⟨4,.data⟩ (Array.mem_of_getElem? (i:=3) rfl) rfl)
   have hbv:=hb l3
   have l7:L 7=false:=by
    cases h:L 7 with
    | false=>rfl
    | true=>exact absurd (hS.z.d7 h).2 (by rw[hL];decide)
   have e4:=hS.z.b4 hL
   have hc:=zcz (sn:=0) (nx0:=s.nx) (nx:=nxc) (st:=stc) (H:=s.heap) (k:=fun v H' n'=>∃ bv p nxc stc,((if 3=5 then true else L 3)=true->bv<4)/\((if 5=5 then true else L 5)=true->p.1.length<=14 /\ ∀ g,g∈p.1->StOk w (bv:Nat) g)/\ST (tv14 w bv p) ks (Z14 a u w nx bv p nxc stc) (fun j=>if j=5 then true else L j) (({ env:=s.env,heap:=H',nx:=n' }:St).put (some 39) v)) (sk83 a u w bv 14 hw qad qag ha) qag qad hS.z.st ?_
   ·obtain⟨hf,hc⟩:=hc
    refine zaw (f:=83) (fi:=[]) (ca:=[]) (l:=[.ptr 0 3 0 0,.d (iD w),.d (iD bv),.d (iD ((14:Nat):Int)),.d cfD]) rfl rfl hf ?_ rfl hc
    show []++[lk s.env 34,lk s.env 35,lk s.env 37,_,lk s.env 38]++[]=_
    rw[show lk s.env 34=_ from q0,show lk s.env 35=_ from q1,show lk s.env 37=_ from q3,show lk s.env 38=_ from q4];rfl
   ·intro y st2 nx2 hb2 hy
    have ol:∀ m bl,m≠0->AHeap.get ((0,some bl)::s.heap) m=s.heap.get m:=fun m bl hm=>zad _ _ hm
    refine⟨bv,y,nx2,st2,fun _=>hbv,fun _=>hy,fun q hq=>(zan _ _ (by have:=hks q hq;omega)).trans (hS.kp q hq),fun q hq hl=>?_,zaf _ _ _,fun h=>absurd (show L 3=false from h) (by rw[l3];decide),fun h=>(nomatch h),by omega,hS.z.n0,hS.z.n1,fun h1 h2=>(ol _ _ qag).trans (hS.z.a0 h1 h2),fun h=>absurd (show L 7=true from h) qdc,fun _=>l3,fun h=>absurd (show L 7=true from h) qdc⟩
    simp only[tv14,List.mem_cons,List.not_mem_nil,or_false]at hq
    rcases hq with rfl|rfl|rfl|rfl|rfl|rfl|rfl
    ·exact qd1
    ·exact qd2
    ·exact qep
    ·exact(zan _ _ (Nat.ne_of_beq_eq_false rfl)).trans (tv 3 3 37 _ rfl hl)
    ·exact qeq
    ·exact zar _ _ _
    ·exact qes
  ·have n4:=hS.z.n0 hL
   have l7:L 7=false:=by
    cases h:L 7 with
    | false=>rfl
    | true=>exact absurd (hS.z.d7 h).1 (by rw[hL];decide)
   refine za1 (k:=1) (fun c hc=>by cases hc) ((znd (nm:=1) rfl T65.1 rfl rfl).names fun m hm=>by subst hm;omega) rfl ?_
   have old:∀ m bl,m≠1->AHeap.get ((1,some bl)::s.heap) m=s.heap.get m:=fun m bl hm=>zad _ _ hm
   exact⟨bv,p,nxc,stc,keep3 qag,keep5 qag,zj3 (i:=6) (d:=7) hS hks qag qaq ⟨(old _ _ qag).trans hS.z.st,hS.z.b3,hS.z.b4,hS.z.b5,fun h=>(nomatch h),fun _=>by show s.nx+1=2;omega,fun _ _=>zaf _ _ _,fun h=>absurd (show L 7=true from h) qdc,hS.z.d5,fun h=>absurd (show L 7=true from h) qdc⟩⟩
  ·have l6:=hall ⟨6,.data⟩ (Array.mem_of_getElem? (i:=0) rfl) rfl
   have l5:=hall ⟨5,.data⟩ (Array.mem_of_getElem? (i:=1) rfl) rfl
   have q6:=tv 6 6 7 _ rfl l6
   have q5:=tv 5 5 39 _ rfl l5
   refine za1 (k:=0) (fun c hc=>by cases hc) ((zgp (x:=.tmp 7) (y:=.tmp 39) (nm:=1) (sz:=3) (idx:=0) (off:=0) (v:=.d (circD w bv p.1 p.2)) rfl T65.1 q6 q5 (hS.z.a0 l6 hL) rfl rfl rfl rfl (Nat.le_of_ble_eq_true rfl)).names fun _ h=>h.elim) rfl ?_
   have old:∀ m bl,m≠1->AHeap.get ((1,some bl)::s.heap) m=s.heap.get m:=fun m bl hm=>zad _ _ hm
   have tvl:∀ q,q∈tv14 w bv p->q.1≠7:=fun q hq=>by
    simp only[tv14,List.mem_cons,List.not_mem_nil,or_false]at hq
    rcases hq with rfl|rfl|rfl|rfl|rfl|rfl|rfl<;>exact Nat.ne_of_beq_eq_false rfl
   exact⟨bv,p,nxc,stc,keep3 qag,keep5 qag,hS.kp,fun q hq hl=>hS.tv q hq (by rwa [if_neg (tvl q hq)]at hl),(old _ _ qag).trans hS.z.st,hS.z.b3,hS.z.b4,hS.z.b5,hS.z.n0,hS.z.n1,fun _ h=>(nomatch h),fun _=>zaf _ _ _,hS.z.d5,fun _=>⟨l6,l5⟩⟩
 ·rintro L s ⟨bv,p,nxc,stc,hb,hp,hS⟩ hall
  exact⟨rfl,hk L s bv p nxc stc (hb (hall 3 qag)) (hp (hall 5 qag)).1 (hp (hall 5 qag)).2 hS hall⟩
theorem reg14c{ops:Array Oper}(hops:ops=ops14)(hw:1<=w/\w<=12)(ha:a.length<=1000)(hnx:nx+1000<=4611686018427387904){e:List (Nat×AV)}{H:AHeap}{x:AV}(e1:lk e 1=x)(e5:lk e 5 = .ptr 0 3 0 0)(e6:lk e 6 = .d (iD w))(hx:x.bel 2=true)(h0:H.get 0=some (storeB a u nx stc)){k:Exit->St->Prop}
  (hk:∀(bv:Nat) (gs:List Gt) (gt:Bool),bv<4->gs.length<=14->(∀ g,g∈gs->StOk w (bv:Nat) g)->k .normal ⟨[(1,x),(6,.d (iD w)),(7,.ptr 1 3 0 0)],[(1,some (.arr 3 [[.d (iD w),.d (iD bv),.d (gatesD gs gt)]]))],2⟩):RegVH Pr GK Tryz.f14.ntmps 0 [] 3 ops true ⟨e,H,1⟩ k:=by
 subst hops
 refine reg14 (stc:=stc) hw ha hnx (ks:=[(1,x),(5,.ptr 0 3 0 0),(6,.d (iD w))]) qc3 qc3 qc3 ⟨fun q hq=>?_,fun _ _ h=>(nomatch h),⟨h0,fun _=>rfl,fun _=>by omega,by omega,fun _=>rfl,fun h=>(nomatch h),fun h=>(nomatch h),fun h=>(nomatch h),fun h=>(nomatch h),fun h=>(nomatch h)⟩⟩ ?_
 ·simp only[List.mem_cons,List.not_mem_nil,or_false]at hq
  rcases hq with rfl|rfl|rfl
  ·exact e1
  ·exact e5
  ·exact e6
 intro L s' bv p nxc stc' h1 h2 h3 hS hall
 refine⟨_,zac (Nat.zero_le _) ?_ ?_ trivial,hk bv p.1 p.2 h1 h2 h3⟩
 ·exact⟨⟨hS.kp (1,_) qc3,hx⟩,⟨hS.kp (6,_) qc3,rfl⟩,⟨hS.tv _ (List.mem_of_getElem? (i:=6) rfl) (hall 6 qag),rfl⟩,trivial⟩
 ·exact⟨⟨ltB rfl,_,rfl,hS.z.a1 (hall 7 qag),zae rfl⟩,trivial⟩
end Go.Tz
namespace Go.Tz
open Go Go.AL Go.Proofs Go.Ma
variable{w:Nat}{b:Nat}{gs:List Gt}{wa:List Int}
theorem zB_ln{M:Nat}{u:Cx}:zB (ln M u)=true ↔ u=(0,0):=by
 constructor
 ·intro h
  unfold zB at h
  simp only[beq_iff_eq,List.cons.injEq,and_true]at h
  obtain⟨h1,h2,h3,h4,_⟩:=h
  have hz:(P4.lsz M (emb u)).1=P4.z:=p4_ext h1 h2 h3 h4
  by_cases e:emb u=P4.z
  ·have a1:u.1=0:=congrArg P4.a e
   have a2:u.2=0:=congrArg P4.c e
   exact Prod.ext a1 a2
  ·unfold P4.lsz at hz
   rw[if_neg e]at hz
   exact absurd hz (P4.lst_nz e)
 ·rintro rfl;rfl
theorem dd_iff{f:Fs}:(lN f.u f.m (2^w)).all zB=true ↔ ∀ k,k<2^w->f.u k=(0,0):=by
 rw[List.all_eq_true]
 constructor
 ·intro h k hk
  exact zB_ln.1 (h _ (List.mem_map.2 ⟨k,List.mem_range.2 hk,rfl⟩))
 ·intro h s hs
  obtain⟨k,hk,rfl⟩:=List.mem_map.1 hs
  exact zB_ln.2 (h k (List.mem_range.1 hk))
structure AlC (w:Nat) (b:Nat) (gs:List Gt) (wa:List Int):Prop where
 e0:alE w (zeroS w) w b gs wa=0
 dd:ddS w wa b gs=false
 inv:Inv w b gs.length (gs.countP mB) (runA w wa b (zeroS w) gs)
 jv:Jv w (runA w wa b (zeroS w) gs).r (runA w wa b (zeroS w) gs).c (fS w wa b gs gs.length)
theorem ztf(h:FOk w b gs wa):(alE w (zeroS w) w b gs wa=6/\ddS w wa b gs=true)\/AlC w b gs wa:=by
 have hok:gs.all okB=true:=List.all_eq_true.2 fun g hg=>by
  unfold okB
  rw[Bool.or_eq_true];exact h.a.kd g hg
 have h01:wa.all (fun x=>!offB x 0 1)=true:=List.all_eq_true.2 fun x hx=>by
  rcases h.a.bit x hx with rfl|rfl<;>rfl
 rcases zmi (badI w wa b gs) gs.length with hg|⟨j,h1,h2,h3⟩
 ·right
  have hgood:∀ j (hj:j<gs.length),j<gs.length->badA w wa b (zeroS w) gs j gs[j]=false:=fun j hj _=>by rw[<- zh2 hj];exact hg j hj
  have hj:=zvp h.a.hw h.a h.z gs.length (Nat.le_refl _) hgood
  have hi:=zih h.a h.z gs.length (Nat.le_refl _) hgood
  rw[List.take_length]at hj hi
  refine⟨al0 hok h.a.cnt h01 hgood,?_,hi,hj⟩
  cases e:ddS w wa b gs with
  | false=>rfl
  | true =>
   have hu:=dd_iff.1 e
   have hn:=hj.nrm
   have hz:inn w (fS w wa b gs gs.length).u (fS w wa b gs gs.length).u=inn w (fun _=>(0,0)) (fun _=>(0,0)):=ziq hu hu
   rw[show runF w wa b (zeroS w) gs gs.length=fS w wa b gs gs.length from rfl,hz]at hn
   have h0:inn w (fun _=>(0,0)) (fun _=>(0,0))=(0,0):=by
    unfold inn
    have e1:∀ k:Nat,sm k (fun _=>cip (0,0) (0,0))=(0,0):=fun k=>by
     induction k with
     | zero=>rfl
     | succ k ih=>show cadd (sm k _) (sm k _)=_;rw[ih];rfl
    exact e1 w
   rw[h0]at hn
   have h1:(2^(runA w wa b (zeroS w) gs).c:Int)*0=2^(fS w wa b gs gs.length).m:=congrArg Prod.fst hn
   have h2:(0:Int)<2^(fS w wa b gs gs.length).m:=Int.pow_pos qag
   omega
 ·left
  refine⟨al6 hok h.a.cnt h01 h1 (by rw[<- zh2 h1];exact h2),dd_iff.2 fun k hk=>?_⟩
  exact zwf h.a.hw h.a h.z h1 (by rw[<- zh2 h1];exact h2) (fun q hq hqj=>by rw[<- zh2 hq];exact h3 q hqj) gs.length h1 (Nat.le_refl _) k hk
end Go.Tz
namespace Go.Tz
open Go Go.AL Go.Proofs Go.Ma
variable{w:Nat}{b:Nat}{gs:List Gt}{wa:List Int}
theorem shl_bit{x:Int}{q:Nat}(hx:x=0\/x=1)(hq:q<6):ishl .i64 x (q:Int)=((x.toNat*2^q:Nat):Int):=by
 have h:((List.range 6).all fun q:Nat=>decide (ishl .i64 0 (q:Int)=0)&&decide (ishl .i64 1 (q:Int)=((2^q:Nat):Int)))=true:=qah
 have h1:=List.all_eq_true.1 h q (List.mem_range.2 hq)
 rw[Bool.and_eq_true,decide_eq_true_iff,decide_eq_true_iff]at h1
 rcases hx with rfl|rfl
 ·rw[h1.1];show(0:Int)=((0*2^q:Nat):Int);rw[Nat.zero_mul];rfl
 ·rw[h1.2];show _=((1*2^q:Nat):Int);rw[Nat.one_mul]
theorem sum_bit{l:List Int}(h:B01 l)(hl:l.length<=6){q:Nat}(hq:q<l.length):iadd .i64 ((bitsN (l.take q):Nat):Int) (ishl .i64 l[q] (q:Int))=((bitsN (l.take (q+1)):Nat):Int):=by
 have hx:=h _ (List.getElem_mem hq)
 have h1:=zx8 h hq
 have h2:bitsN (l.take (q+1))<2^(l.take (q+1)).length:=zk5 fun x hx=>h x (List.mem_of_mem_take hx)
 have h3:2^(l.take (q+1)).length<=2^6:=Nat.pow_le_pow_right qag qbu
 rw[shl_bit hx qad,h1]
 exact zah qad
theorem run_c{bb:Int}{l:List Ps}:∀ i,i<=gs.length->(runA w wa bb l (gs.take i)).c<=(gs.take i).countP mB
 | 0,_=>Nat.zero_le _
 | i+1,h=>by
  have ih:=run_c (bb:=bb) (l:=l) i qad
  rw[zee h,zbe h,List.countP_append]
  unfold stepA
  by_cases e:mB gs[i]=true
  ·rw[if_pos e]
   simp[e]
   split<;>omega
  ·rw[if_neg e]
   split
   ·exact qca
   ·exact qad
theorem zxr(h:FOk w b gs wa)(hA:AlC w b gs wa):(runA w wa b (zeroS w) gs).c<=(fS w wa b gs gs.length).m/\PC Pr GK 86 [vS w wa b gs gs.length] (.tup [amD (some 0) (2*(runA w wa b (zeroS w) gs).c),iD 0]):=by
 have hn:=hA.jv.nrm
 generalize (runA w wa b (zeroS w) gs).c=c at hn⊢
 have hm:=fs_m h (Nat.le_refl gs.length)
 have hb:=fs_bd h (Nat.le_refl gs.length)
 unfold vS vFs
 generalize fS w wa b gs gs.length=f at hn hm hb⊢
 have h1:(2^c:Int)*(inn w f.u f.u).1=2^f.m:=congrArg Prod.fst hn
 rw[<- tN_inn]at h1
 have h0:=tN_nn f.u (2^w)
 obtain⟨T,hT⟩:∃ T:Nat,(T:Int)=tN f.u (2^w):=⟨(tN f.u (2^w)).toNat,by omega⟩
 rw[<- hT]at h1
 have h2:2^c*T=2^f.m:=by
  have:=h1
  exact_mod_cast this
 obtain⟨h3,h4⟩:=zs5 _ _ _ h2
 have h5:2^(f.m-c)<=2^14:=Nat.pow_le_pow_right qag qad
 have hc:=norm86 (w:=w) (u:=f.u) (M:=f.m) h.w4 qad hb (by rw[<- hT,h4];have:(2:Nat)^14=16384:=rfl;omega) true
 refine⟨h3,?_⟩
 rw[<- hT,h4]at hc
 have e:ln (f.m+f.m) ((((2:Nat)^(f.m-c):Nat):Int),0)=(unP 0,2*c):=by
  have hz:emb ((((2:Nat)^(f.m-c):Nat):Int),0)≠P4.z:=fun e=>by
   have:=congrArg P4.a e
   have h6:(((2:Nat)^(f.m-c):Nat):Int)=0:=this
   have h7:=Nat.two_pow_pos (f.m-c)
   omega
  have hl:=P4.lst_pow (f.m-c) (f.m+f.m) qad
  unfold ln P4.lsz
  rw[if_neg hz]
  have e2:emb ((((2:Nat)^(f.m-c):Nat):Int),0)=⟨2^(f.m-c),0,0,0⟩:=by
   unfold emb
   rw[Int.natCast_pow];rfl
  rw[e2,hl]
  congr 1
  omega
 rw[e]at hc
 exact hc
theorem vU_0{va:Nat->Option Nat}(h4:V4 va)(m N:Nat):(vU 0 m va N).map nmL=vcL va m N:=by
 unfold vU vcL
 rw[List.map_map]
 refine List.map_congr_left fun k _=>?_
 exact unE_0 (h4 k)
theorem zte(h:FOk w b gs wa)(hA:AlC w b gs wa){va:Nat->Option Nat}{ka lst:Nat}(hAm:Amp ((redRows (runA w wa b (zeroS w) gs).r (2*w)).map nf) w lst ka va)(h4:V4 va)(hka:ka<=w)(t:Bool):∃ j0,PC Pr GK 82 [vS w wa b gs gs.length,.sl (vcL va (ka+(runA w wa b (zeroS w) gs).c) (2^w)) t] (.tup [iD j0,iD 0]):=by
 have hI:=hA.inv
 have hJ:=hA.jv
 have hw4:=h.w4
 have hm:=fs_m h (Nat.le_refl gs.length)
 rw[hI.red]at hAm
 have hx:=sok_xv hI.ok
 have hxx:∀ g,Gen ((runA w wa b (zeroS w) gs).r.map nf) g->xv g.2<2^w:=gen_xv hI.ok
 obtain⟨j,j1,j2,j3⟩:=vec_un hI.ok.hi (zbv hI.ok) hAm hxx (fun g hg=>zh1 hx hJ.fix hg) (fun k p _ e=>h4 k p e) hJ.nrm
 refine⟨j,?_⟩
 have e1:vS w wa b gs gs.length=vN (vU j (ka+(runA w wa b (zeroS w) gs).c) va (2^w)) true:=by
  unfold vS vFs
  congr 1
  unfold lN vU
  refine List.map_congr_left fun k hk=>?_
  exact j3 k (List.mem_range.1 hk)
 have:=phase82u (w:=w) (val:=va) (m:=ka+(runA w wa b (zeroS w) gs).c) (j0:=j) (lst:=lst) hw4 qad h4 j1 true t hAm.lt (amp_lst hAm (zbv hI.ok).good) fun k hk=>zx9 hAm (zbv hI.ok).good hk
 rw[e1]
 have e2:vN (vU 0 (ka+(runA w wa b (zeroS w) gs).c) va (2^w)) t = .sl (vcL va (ka+(runA w wa b (zeroS w) gs).c) (2^w)) t:=by
  unfold vN
  rw[vU_0 h4]
 rw[e2]at this
 exact this
end Go.Tz
namespace Go.Tz
open Go Go.AL Go.Proofs Go.Ma
theorem regvh_sub{P:Program}{G:Nat->Option (List D)}{n b:Nat}{ms:List Nat}{st st':St}{id:Nat}{ops:Array Oper}{draw:Bool}{k:Exit->St->Prop}(hs:AL.Sub G b ms st st')(h:RegVH P G n b ms id ops draw st' k):RegVH P G n b ms id ops draw st k:=by
 obtain⟨h⟩:=h
 exact⟨fun r=>awp_sub hs (h r)⟩
def waF(v:Int)(i:Nat):List Int:=(List.range i).map fun q:Nat=>iand .i64 (ishr .i64 v (q:Int)) 1
theorem zyh(v:Int)(i:Nat):(waF v i).length=i:=by unfold waF;simp
theorem waF_s(v:Int)(i:Nat):(waF v (i+1)).map (fun k=>[iD k])=(waF v i).map (fun k=>[iD k])++[[iD (iand .i64 (ishr .i64 v (i:Int)) 1)]]:=by
 unfold waF
 rw[List.range_succ,List.map_append,List.map_append];rfl
theorem waF_01(v:Int)(i:Nat):∀ x,x∈waF v i->x=0\/x=1:=fun x hx=>by
 obtain⟨q,_,rfl⟩:=List.mem_map.1 hx
 exact bit01 v q
def vI(va:Nat->Option Nat)(m c N q:Nat):List (List D):=(List.range N).map fun k=>amL (va k) (if k<q then m+c else m)
theorem vI_0(va:Nat->Option Nat)(m c N:Nat):vcL va m N=vI va m c N 0:=by
 unfold vI;simp[vcL]
theorem vI_N(va:Nat->Option Nat)(m c N:Nat):vI va m c N N=vcL va (m+c) N:=by
 unfold vI vcL
 refine List.map_congr_left fun k hk=>?_
 rw[if_pos (List.mem_range.1 hk)]
theorem vI_get{va:Nat->Option Nat}{m c N q:Nat}(h:q<N):(vI va m c N q)[q]?=some (amL (va q) m):=by
 unfold vI
 rw[List.getElem?_map,List.getElem?_range h]
 show some (amL (va q) (if q<q then m+c else m))=_
 rw[if_neg (Nat.lt_irrefl q)]
theorem vI_set{va:Nat->Option Nat}{m c N q:Nat}(h:q<N):(vI va m c N q).set q (amL (va q) (m+c))=vI va m c N (q+1):=by
 unfold vI
 refine List.ext_getElem qc3 fun k h1 h2=>?_
 simp only[List.getElem_set,List.getElem_map,List.getElem_range]
 by_cases e:q=k
 ·subst e;rw[if_pos rfl,if_pos qad]
 ·rw[if_neg e]
  have:(k<q+1) ↔ (k<q):=qad
  simp only[this]
theorem chk14:chkFnH [3,19] Tryz.f14=true:=qah
set_option maxHeartbeats 8000000 in
theorem meant14(bs:List Int)(t:Bool)(x:Int):PC Pr GK 14 [bytesD bs t,.int .u8 x] (.bool true):=by
 have c15:=up awake_c
 have z0:((0:Int) != 0)=false:=rfl
 refine zva pok [3,19] Tryz.func14 chk14 ?_
 conv=>whnf
 skip
 refine of_useN ?_
 intro a u ha
 conv=>whnf
 skip
 have k1:=(sc63 a u 1 3 qag qad qag qag).k
 refine zcz (sn:=0) (nx:=0) (st:=2463534242) k1 qag qag rfl ?_
 intro w st1 nx1 b1 hw8
 conv=>whnf
 skip
 have hw:1<=w/\w<=12:=⟨hw8.1,by omega⟩
 refine reg14c (x:=.d (.int .u8 x)) (nx:=nx1) (stc:=st1) rfl hw qad qad rfl rfl rfl rfl rfl ?_
 intro b gs gt hb4 hl14 hst
 conv=>whnf
 repeat' first|(refine LookP.mk _ rfl ?_;conv=>whnf)
 refine zaq pok (fun i=>⟨[(1,.d (.int .u8 x)),(6,.d (iD w)),(7,.ptr 1 3 0 0),(8,.d (iD ((gs.take i).countP mB:Nat))),(41,.d (gatesD gs gt)),(42,.d (iD (gs.map Gt.l).length)),(43,.d (iD i))],[(1,some (.arr 3 [[.d (iD w),.d (iD b),.d (gatesD gs gt)]]))],2⟩) (gs.length) (fun _=>True) (trivial) ?_ qah ?_ ?_
 ·exact qf2
 ·intro i A_i h_i I_i N_i
  have e_i:iadd .i64 (i:Int) 1=((i+1:Nat):Int):=zah qbl
  have hmk:=mB_ge (hst _ (List.getElem_mem h_i)).chk
  have hct:(gs.take (i+1)).countP mB=(gs.take i).countP mB+if mB gs[i]=true then 1 else 0:=by
   rw[zbe h_i,List.countP_append]
   simp[List.countP_cons]
  have hcl:(gs.take i).countP mB<=i:=Nat.le_trans (List.countP_le_length) qbu
  have hadd:iadd .i64 (((gs.take i).countP mB:Nat):Int) 1=(((gs.take i).countP mB+1:Nat):Int):=zah (a:=(gs.take i).countP mB) (b:=1) qad
  rw[hct]at N_i
  rw[hmk]at N_i
  conv=>whnf
  conv=>whnf
  repeat (refine LookP.mk _ rfl ?_;conv=>whnf)
  intro t ht
  cases t
  ·exact qbh
  conv=>whnf
  repeat' first|((first|refine LookP.mk _ qdf ?_|refine ShlP.mk _ qaa ?_|refine And.intro qbi ?_|rw[hadd]|refine HpP.force ?_);conv=>whnf)|(intro t ht;cases t<;>conv=>whnf)
  ·rw[if_neg (by rw[ht];exact Bool.false_ne_true)]at N_i
   refine N_i _ ?_ ?_
   ·exact qbj
   ·exact qf3
  ·rw[if_pos ht]at N_i
   refine N_i _ ?_ ?_
   ·exact qbj
   ·exact qf3
 ·intro A_last I_last
  rw[List.take_length]
  obtain⟨many,hm⟩:∃ many,many=gs.countP mB:=⟨_,rfl⟩
  rw[<- hm]
  conv=>whnf
  repeat (refine LookP.mk _ rfl ?_;conv=>whnf)
  intro t ht
  cases t
  rotate_left
  ·exact qbh
  conv=>whnf
  by_cases h8:many<=8
  ·have hgt:decide ((many:Int)>8)=false:=decide_eq_false qad
   repeat' first|(refine knownB hgt ?_;conv=>whnf)
   obtain⟨v,hv⟩:∃ v,v=IntKind.i64.wrap x:=⟨_,rfl⟩
   refine zaq pok (fun i=>⟨[(1,.d (.int .u8 x)),(6,.d (iD w)),(7,.ptr 1 3 0 0),(8,.d (iD many)),(11,.sl 2 1 0 i i false),(56,.d (iD many)),(57,.d (iD i))],[(1,some (.arr 3 [[.d (iD w),.d (iD b),.d (gatesD gs gt)]])),(2,some (dblk 1 ((waF v i).map fun k=>[iD k])))],3⟩) (many) (fun _=>True) (trivial) ?_ qah ?_ ?_
   ·refine Sub.trans (zhp (t:=11) (S:=1) (Nat.zero_le _) rfl) ?_
    refine zac qac ?_ ?_ trivial
    ·exact qae
    ·exact qab
   ·intro i A_i h_i I_i N_i
    have e_i:iadd .i64 (i:Int) 1=((i+1:Nat):Int):=zah qbl
    have hws:=waF_s v i
    have hwl:((waF v i).map fun k=>[iD k]).length=i:=by rw[List.length_map,zyh]
    have hlt:decide ((i:Int)<(many:Int))=true:=decide_eq_true qad
    generalize (waF v i).map (fun k=>[iD k])=V at hws hwl⊢
    generalize (waF v (i+1)).map (fun k=>[iD k])=V' at hws N_i
    conv=>whnf
    repeat' first|((first|refine ShlP.mk _ qaa ?_|(refine And.intro (by first|exact Int.natCast_nonneg _|exact Nat.le_refl _|exact⟨by rw[List.length_map];exact hwl,by decide,by show(2*(i+1)+192)*8<=281474976710656;omega⟩|assumption|exact⟨by kernel_rfl,rfl⟩|decide|omega) ?_)|refine knownB hlt ?_|rw[nbeq]|rw[<- hv]|refine HpP.force ?_);conv=>whnf)
    refine N_i _ ?_ ?_
    ·exact qbj
    ·first|refine zav [(2,4)] ?_ ?_ ?_ trivial|refine zap [(2,4)] rfl rfl ?_ ?_ ?_ trivial
     ·exact qai
     ·repeat' first|exact trivial|refine⟨⟨ltB rfl,_,rfl,by first|rfl|assumption|exact zag rfl (by first|rfl|assumption|exact zag rfl qfy)|exact zag rfl qfy,by first|exact zae rfl|exact zaa _ _ _|exact zab rfl⟩,?_⟩
     ·exact qaf
   ·intro A_last I_last
    have hlt:decide ((many:Int)<(many:Int))=false:=decide_eq_false qad
    conv=>whnf
    repeat' first|(refine knownB hlt ?_;conv=>whnf)
    have hwl:(waF v many).length=many:=zyh v many
    have hF:=fok_of (wa:=waF v many) (b:=b) hw8 qad hl14 hst (by rw[hwl];exact hm) (by rw[hwl];exact h8) (waF_01 v many)
    have hC:=st_chk (gs:=gs) hw qad qad hst
    have hws:∀ g,g∈gs->g.ws.length<=1000:=fun g hg=>Nat.le_trans (hst g hg).len qag
    have c35:=up (zero35 hw.1 hw.2)
    unfold zD at c35
    obtain⟨bt,c84⟩:=basis84 hw8
    have c129:PC Pr GK 129 [circD w b gs gt] (iD 0):=by
     have:=zps (G:=GK) w b gs gt qad hws
     rwa [hC]at this
    have c85:=along85 (gt:=gt) (wt:=false) (vt:=bt) hF c129
    generalize hW:waF v many=W at hwl hF c85⊢
    refine regvh_sub (zso (t:=11) (nm:=2) (sz:=1) rfl rfl (by rw[List.length_map,hwl])) (regvh_ops pok qah ?_)
    conv=>whnf
    repeat' first|((first|refine LookP.mk _ rfl ?_|refine ShlP.mk _ qaa ?_|refine zak c35 ?_|refine HpP.force ?_);conv=>whnf)
    refine fin ⟨_,Sub.refl,?_⟩
    conv=>whnf
    repeat' first|((first|refine LookP.mk _ rfl ?_|refine zak c84 ?_|refine knownB z0 ?_);conv=>whnf)
    rcases ztf hF with⟨hA6,hdd⟩|hC2
    ·have c58:=up (along58e (t:=false) (u:=false) (ct:=gt) (zn8 hw) w gs W hC hws qad (by rw[hA6];decide))
     rw[hA6]at c58
     rw[if_pos hdd]at c85
     have z66:((6:Int) != 6)=false:=rfl
     have z60:((6:Int) != 0)=true:=rfl
     have y66:((6:Int)==6)=true:=rfl
     repeat' first|((first|refine LookP.mk _ rfl ?_|refine ShlP.mk _ qaa ?_|refine zak c58 ?_|refine zak c85 ?_|refine zak c15 ?_|refine knownB z66 ?_|refine knownB z60 ?_|refine HpP.force ?_);conv=>whnf)
     exact fin rfl
    ·obtain⟨e0,hdd,hI,hJ⟩:=hC2
     have hbl:(runA w W b (zeroS w) gs).bs.length=b:=by have:=hI.bl;omega
     have c58:=along58d (t:=false) (u:=false) (ct:=gt) (zn8 hw) w hC hws qad e0 hI.ok.len hbl
     rw[if_neg (by rw[hdd];exact Bool.false_ne_true)]at c85
     repeat' first|((first|refine LookP.mk _ rfl ?_|refine ShlP.mk _ qaa ?_|refine zak c58 ?_|refine zak c85 ?_|refine knownB z0 ?_|refine HpP.force ?_);conv=>whnf)
     obtain⟨hcm,c86⟩:=zxr hF ⟨e0,hdd,hI,hJ⟩
     have hbS:bS w W b gs gs.length=(bitsN (runA w W b (zeroS w) gs).bs:Nat):=by
      unfold bS
      show((bitsN (runA w W b (zeroS w) (gs.take gs.length)).bs:Nat):Int)=_
      rw[List.take_length]
     obtain⟨va,ka,lst,c20,hAm,hV4,hka⟩:=vec_allP hI.ok qad true
     obtain⟨j0,c82⟩:=zte hF ⟨e0,hdd,hI,hJ⟩ hAm hV4 hka false
     have hcle:(runA w W b (zeroS w) gs).c<=many:=by
      have:=run_c (w:=w) (wa:=W) (bb:=b) (l:=zeroS w) (gs:=gs) gs.length (Nat.le_refl _)
      rw[List.take_length,<- hm]at this
      exact this
     unfold brS
     rw[hbS]
     generalize runA w W b (zeroS w) gs=S at hbl hI hJ hcm c86 c20 c82 hAm hcle⊢
     refine zaq pok (fun q=>⟨[(6,.d (iD w)),(7,.ptr 1 3 0 0),(8,.d (iD many)),(17,.ptr 4 2 0 0),(18,.d (intsD S.bs true)),(19,.d (iD S.c)),(20,.ptr 5 3 0 0),(21,.d (iD ((bitsN (S.bs.take q):Nat):Int))),(118,.d (intsD S.bs true)),(119,.d (iD b)),(120,.d (iD q))],[(1,some (.arr 3 [[.d (iD w),.d (iD b),.d (gatesD gs gt)]])),(4,some (.arr 2 [[.d (iD w),.d (rowsD S.r true)]])),(5,some (.arr 3 [[.d (intsD W W.isEmpty),.d (iD ((bitsN S.bs:Nat):Int)),.d (vS w W b gs gs.length)]]))],6⟩) (b) (fun _=>True) (trivial) ?_ qah ?_ ?_
     ·refine zac qac ?_ ?_ trivial
      ·repeat' first|exact trivial|refine⟨⟨by first|rfl|assumption|exact congrArg (fun n:Nat=>AV.d (iD n)) (by rw[List.length_map,hbl]),rfl⟩,?_⟩
      ·exact qab
     ·intro q A_q h_q I_q N_q
      have e_q:iadd .i64 (q:Int) 1=((q+1:Nat):Int):=zah qbl
      have hgq:=get_i (ks:=S.bs) (i:=q) qad
      have hsb:=sum_bit hI.bv qad (q:=q) qad
      have hlt:decide ((q:Int)<(b:Int))=true:=decide_eq_true qad
      conv=>whnf
      repeat' first|((first|refine LookP.mk _ (by first|rfl|exact hgq) ?_|refine And.intro qbp ?_|refine knownB hlt ?_|rw[hsb]);conv=>whnf)
      refine N_q _ ?_ ?_
      ·exact qbj
      ·refine zac qac ?_ ?_ trivial
       ·exact qa1
       ·exact qab
     ·intro A_last I_last
      have hlt:decide ((b:Int)<(b:Int))=false:=decide_eq_false qad
      rw[List.take_of_length_le (show S.bs.length<=b by omega)]
      have hmul:imul .i64 2 (if(0:Int)>(S.c:Int) then 0 else(S.c:Int))=((2*S.c:Nat):Int):=by
       rw[if_neg qad]
       exact zet (a:=2) qad
      have c78:=root78x (m:=2*S.c) qad
      have c78':=root78x (m:=S.c) qad
      obtain⟨f0,f1,f2,f3,f4,hf⟩:=zt9 (some 0) (2*S.c)
      unfold amD at c86 c78
      rw[hf]at c86 c78
      have hS0:decide ((S.c:Int)<0)=false:=decide_eq_false qad
      have hSm:decide ((S.c:Int)>(many:Int))=false:=decide_eq_false qad
      have hff:(![f0,f1,f2,f3,f4]==[f0,f1,f2,f3,f4])=false:=qc3
      have hbb:((((S.bs.map fun k=>[iD k]).length:Nat):Int) != (b:Int))=false:=by rw[List.length_map,hbl];simp
      have hbt:(((bitsN S.bs:Nat):Int) != ((bitsN S.bs:Nat):Int))=false:=qc3
      have hsh:ishl .i64 1 (w:Int)=((2^w:Nat):Int):=zcg qad
      have hNN:(((2^w:Nat):Int) != ((2^w:Nat):Int))=false:=qc3
      have hp16:2^w<=8:=Nat.pow_le_pow_right (n:=2) qag hw8.2
      obtain⟨N,hN⟩:∃ N,N=2^w:=⟨_,rfl⟩
      rw[<- hN]at c20 c82 hsh hNN hp16
      have c36:=up (zt3 w S.r true (zjf hI.ok))
      rw[ok_chk hI.ok]at c36
      conv=>whnf
      repeat' first|((first|refine LookP.mk _ rfl ?_|refine ShlP.mk _ qaa ?_|refine And.intro qbi ?_|refine knownB hlt ?_|refine zak c86 ?_|rw[hmul]|refine zak c78 ?_|refine zlx c20 ?_|refine knownB z0 ?_|refine knownB hSm ?_|refine knownB hff ?_|refine knownB hbb ?_|refine knownB hbt ?_|rw[hsh]|refine knownB hNN ?_|refine zak (c78') ?_|refine HpP.force ?_);conv=>whnf)
      refine zaq pok (fun q=>⟨[(14,.d (iD 0)),(17,.ptr 4 2 0 0),(20,.ptr 5 3 0 0),(26,.sl 8 5 0 N N false),(28,.ptr 9 5 0 0),(199,.d (iD N)),(200,.d (iD q))],[(4,some (.arr 2 [[.d (iD w),.d (rowsD S.r true)]])),(5,some (.arr 3 [[.d (intsD W W.isEmpty),.d (iD ((bitsN S.bs:Nat):Int)),.d (vS w W b gs gs.length)]])),(8,some (dblk 5 (vI va ka S.c N q))),(9,some (.arr 5 [(amL (some 0) S.c).map AV.d]))],10⟩) (N) (fun _=>True) (trivial) ?_ qah ?_ ?_
      ·refine zac qac ?_ ?_ trivial
       ·exact qae
       ·repeat' first|exact trivial|refine⟨⟨ltB rfl,_,rfl,by first|rfl|assumption|(rw[<- vI_0];exact congrArg some (zbf _ _ _)),by first|exact zae rfl|exact zaa _ _ _|exact zab rfl⟩,?_⟩
      ·intro q A_q h_q I_q N_q
       have e_q:iadd .i64 (q:Int) 1=((q+1:Nat):Int):=zah qbl
       have hgq:=vI_get (va:=va) (m:=ka) (c:=S.c) h_q
       have hsq:=vI_set (va:=va) (m:=ka) (c:=S.c) h_q
       have cM:=mulV (v:=va q) (m:=ka) (c:=S.c) (hV4 q) qad
       have hgv:((vI va ka S.c N q).map fun el=>el.map AV.d)[0+((q:Nat):Int).toNat]?=some ((amL (va q) ka).map AV.d):=by
        rw[Nat.zero_add,Int.toNat_natCast,List.getElem?_map,hgq];rfl
       have hst2:some (Blk.arr 5 (((vI va ka S.c N q).map fun el=>el.map AV.d).set (0+((q:Nat):Int).toNat) ((amL (va q) (ka+S.c)).map AV.d)))=some (dblk 5 (vI va ka S.c N (q+1))):=by
        unfold dblk
        rw[<- hsq,Nat.zero_add,Int.toNat_natCast,List.map_set]
       obtain⟨a0,a1,a2,a3,a4,hA⟩:=zt9 (va q) ka
       obtain⟨b0,b1,b2,b3,b4,hB⟩:=zt9 (va q) (ka+S.c)
       obtain⟨d0,d1,d2,d3,d4,hD⟩:=zt9 (some 0) S.c
       unfold amD at cM
       rw[hA]at cM hgv
       rw[hB]at cM hst2
       rw[hD]at cM⊢
       have z1:((0:Int)==0)=true:=rfl
       have hlt:decide ((q:Int)<(N:Int))=true:=decide_eq_true qad
       conv=>whnf
       repeat' first|((first|refine LookP.mk _ (by first|rfl|exact hgv) ?_|refine ShlP.mk _ rfl ?_|refine And.intro qbp ?_|refine knownB hlt ?_|refine knownB z1 ?_|refine zam cM ?_|refine HpP.force ?_);conv=>whnf)
       rw[hD]at N_q
       refine N_q _ ?_ ?_
       ·exact qbj
       ·refine zac qac ?_ ?_ trivial
        ·exact qa1
        ·repeat' first|exact trivial|refine⟨⟨ltB rfl,_,rfl,by first|rfl|assumption|exact hst2,by first|exact zae rfl|exact zaa _ _ _|exact zab rfl⟩,?_⟩
      ·intro A_last I_last
       rw[vI_N]
       have z1:((0:Int)==0)=true:=rfl
       have hlt:decide ((N:Int)<(N:Int))=false:=decide_eq_false qad
       conv=>whnf
       repeat' first|((first|refine LookP.mk _ rfl ?_|refine knownB hlt ?_|refine zgx c82 (.d _) (zda rfl (by rw[vc_len])) rfl ?_|refine knownB z1 ?_|refine zak c36 ?_|refine zak c15 ?_);conv=>whnf)
       exact fin rfl
  ·have hgt:decide ((many:Int)>8)=true:=decide_eq_true qad
   repeat' first|((first|refine knownB hgt ?_|refine zak c15 ?_);conv=>whnf)
   exact fin rfl
end Go.Tz
