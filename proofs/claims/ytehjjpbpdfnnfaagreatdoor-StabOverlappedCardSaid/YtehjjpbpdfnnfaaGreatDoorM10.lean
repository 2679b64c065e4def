import Derived.Test.YtehjjpbpdfnnfaaGreatDoorM09
namespace Go.Tz
open Go Go.AL Go.Proofs
variable {G:Nat->Option (List D)}
theorem chk155:chkFn Tryz.f155=true:=by kernel_rfl
theorem mul155 {p q:P4} {k j:Nat} (hk:k<=1000) (hj:j<=1000) (h1:P4.Bd 16384 p) (h2:P4.Bd 16384 q):PC Pr G 155 [wD p k,nD q j] (wD (p.mul q) (k+j:Nat)):=by
 have c1:=parts151 (G:=G) p k
 have c2:=work149 (G:=G) q j
 have c3:=parts151 (G:=G) q j
 have c4:=times223 (G:=G) h1 h2
 have e1:iadd .i64 (k:Int) (j:Int)=((k+j:Nat):Int):=iadd_nat (by omega)
 have c5:=of150 (G:=G) (p.mul q) (k+j:Nat)
 have c6:=work149 (G:=G) (p.mul q) (k+j:Nat)
 refine pc_walk pok Tryz.func155 chk155 ?_
 conv=>whnf
 repeat' first|((first|refine LookP.mk _ rfl ?_|refine ShlP.mk _ (by first|(simp only [List.set,over,List.take,List.drop,List.append_eq,List.nil_append,List.cons_append,List.length];rfl)|rfl) ?_|refine pc_head c1 ?_|refine pc_head c2 ?_|refine pc_head c3 ?_|refine pc_head c4 ?_|rw [e1]|refine pc_head c5 ?_|refine pc_head c6 ?_|refine HpP.force ?_);conv=>whnf)
 exact fin rfl
theorem chk75:chkFn Tryz.f75=true:=by kernel_rfl
theorem mul75g {p q:P4} {k j:Nat} (hkj:k+j<=60) (h1:P4.Bd 16384 p) (h2:P4.Bd 16384 q) (hb:P4.Bd 1073741824 (p.mul q)):PC Pr G 75 [nD p k,nD q j] (.tup [nD (P4.lsz (k+j) (p.mul q)).1 (P4.lsz (k+j) (p.mul q)).2,iD 0]):=by
 have c0:=checks154 (G:=G) [(p,k),(q,j)] true (by simp) (fun s hs=>by
  simp only [List.mem_cons,List.not_mem_nil,or_false] at hs
  rcases hs with rfl|rfl
  ·exact ⟨by show k<=60;omega,h1.mono (by decide)⟩
  ·exact ⟨by show j<=60;omega,h2.mono (by decide)⟩)
 have c1:=work149 (G:=G) p k
 have c2:=mul155 (G:=G) (k:=k) (j:=j) (by omega) (by omega) h1 h2
 have c3:=least153 (G:=G) hkj hb
 have z0:((0:Int) != 0)=false:=rfl
 refine pc_walk pok Tryz.func75 chk75 ?_
 conv=>whnf
 repeat' first|((first|refine LookP.mk _ rfl ?_|refine ShlP.mk _ (by first|(simp only [List.set,over,List.take,List.drop,List.append_eq,List.nil_append,List.cons_append,List.length];rfl)|rfl) ?_|refine pc_lend1 c0 (asD_own rfl rfl) rfl ?_|refine pc_head c1 ?_|refine pc_head c2 ?_|refine pc_head c3 ?_|refine knownB z0 ?_|refine HpP.force ?_);conv=>whnf)
 exact fin rfl
theorem chk74:chkFn Tryz.f74=true:=by kernel_rfl
theorem conj74g {p:P4} {k:Nat} (hk:k<=60) (h1:P4.Bd 1073741824 p):PC Pr G 74 [nD p k] (.tup [nD (P4.lsz k p.con).1 (P4.lsz k p.con).2,iD 0]):=by
 have c0:=check148g (G:=G) hk h1
 have c1:=work149 (G:=G) p k
 have c2:=parts151 (G:=G) p k
 have c3:=conj152 (G:=G) (big_of h1 (by decide))
 have c4:=of150 (G:=G) p.con k
 have c5:=work149 (G:=G) p.con k
 have c6:=least153 (G:=G) hk (P4.con_bd h1)
 have z0:((0:Int) != 0)=false:=rfl
 refine pc_walk pok Tryz.func74 chk74 ?_
 conv=>whnf
 repeat' first|((first|refine LookP.mk _ rfl ?_|refine ShlP.mk _ (by first|(simp only [List.set,over,List.take,List.drop,List.append_eq,List.nil_append,List.cons_append,List.length];rfl)|rfl) ?_|refine pc_use c0 ?_|refine pc_head c1 ?_|refine pc_head c2 ?_|refine pc_head c3 ?_|refine pc_head c4 ?_|refine pc_head c5 ?_|refine pc_head c6 ?_|refine knownB z0 ?_|refine HpP.force ?_);conv=>whnf)
 exact fin rfl
def mixP (x y:P4):Nat->P4
 | 0=>x
 | 1=>⟨x.a+y.a,x.b,x.c,x.d⟩
 | 2=>⟨x.a+y.a,x.b+y.b,x.c,x.d⟩
 | 3=>⟨x.a+y.a,x.b+y.b,x.c+y.c,x.d⟩
 | _+4=>x.add y
theorem chk156:chkFn Tryz.f156=true:=by kernel_rfl
theorem add156 {p q:P4} {k j K:Nat} (hK:K=max k j) (hK6:K<=60) (hB1:∀ i,i<=K-k->Big (P4.rse i p)) (hB2:∀ i,i<=K-j->Big (P4.rse i q)) (hb:P4.Bd 1073741824 ((P4.rse (K-k) p).add (P4.rse (K-j) q))) :
  PC Pr G 156 [wD p k,nD q j] (.tup [nD (P4.lsz K ((P4.rse (K-k) p).add (P4.rse (K-j) q))).1 (P4.lsz K ((P4.rse (K-k) p).add (P4.rse (K-j) q))).2,iD 0]):=by
 have c1:=raised224 (G:=G) (p:=p) (k:=k) (K:=K) (by omega) (by omega) hB1
 have c2:=work149 (G:=G) q j
 have c3:=raised224 (G:=G) (p:=q) (k:=j) (K:=K) (by omega) (by omega) hB2
 have g1:=hB1 (K-k) (Nat.le_refl _)
 have g2:=hB2 (K-j) (Nat.le_refl _)
 generalize P4.rse (K-k) p=x at c1 g1 hb ⊢
 generalize P4.rse (K-j) q=y at c3 g2 hb ⊢
 have c4:=of150 (G:=G) (x.add y) K
 have c5:=work149 (G:=G) (x.add y) K
 have c6:=least153 (G:=G) hK6 hb
 have eK:(if (j:Int)>(k:Int) then (j:Int) else (k:Int))=(K:Int):=by split <;> omega
 refine pc_walk pok Tryz.func156 chk156 ?_
 conv=>whnf
 repeat' first|((first|refine LookP.mk _ rfl ?_|refine ShlP.mk _ (by first|(simp only [List.set,over,List.take,List.drop,List.append_eq,List.nil_append,List.cons_append,List.length];rfl)|rfl) ?_|refine And.intro (by first|assumption|exact ⟨by kernel_rfl,rfl⟩|decide|omega) ?_|rw [eK]|refine pc_head c1 ?_|refine pc_head c2 ?_|refine pc_head c3 ?_|refine HpP.force ?_);conv=>whnf)
 refine for_use pok (fun i=>⟨[(2,.ptr 0 6 0 0),(4,.ptr 2 5 0 0),(6,.d (iD K)),(7,.ptr 3 4 0 0),(8,.ptr 4 4 0 0),(23,.d (iD i))],[(0,some (.arr 6 [[.d (iD p.a),.d (iD p.b),.d (iD p.c),.d (iD p.d),.d (iD k),.d (.fn 219 [] [])]])),(2,some (.arr 5 [(nmD 0 0 0 0 0).map AV.d])),(3,some (.arr 4 [[.d (iD (mixP x y i).a),.d (iD (mixP x y i).b),.d (iD (mixP x y i).c),.d (iD (mixP x y i).d)]])),(4,some (.arr 4 [[.d (iD y.a),.d (iD y.b),.d (iD y.c),.d (iD y.d)]]))],5⟩) (4) (fun _=>True) (trivial) ?_ (by kernel_rfl) ?_ ?_
 ·refine keep_env (by first|exact Nat.zero_le _|exact Nat.le_of_ble_eq_true rfl) ?_ ?_ trivial
  ·repeat' first|exact trivial|refine ⟨⟨by first|rfl|assumption,rfl⟩,?_⟩
  ·repeat' first|exact trivial|refine ⟨⟨ltB rfl,_,rfl,by first|rfl|assumption,by first|exact below1 rfl|exact below_dblk _ _ _|exact below_arr rfl⟩,?_⟩
 ·intro i A_i h_i I_i N_i
  have e_i:iadd .i64 (i:Int) 1=((i+1:Nat):Int):=iadd_nat (by first|omega|(simp at *;omega))
  have hi4:i=0\/i=1\/i=2\/i=3:=by omega
  unfold Big P4.Bd at g1 g2
  rcases hi4 with rfl|rfl|rfl|rfl
  ·have cw:=with219 (G:=G) (a:=x.a) (b:=y.a) (by omega) (by omega)
   conv=>whnf
   repeat (refine LookP.mk _ rfl ?_;conv=>whnf)
   intro t ht
   cases t
   ·exfalso;first|(simp at ht;done)|(simp at ht;omega)
   conv=>whnf
   repeat' first|((first|refine LookP.mk _ rfl ?_|refine ShlP.mk _ (by first|(simp only [List.set,over,List.take,List.drop,List.append_eq,List.nil_append,List.cons_append,List.length];rfl)|rfl) ?_|refine And.intro (by first|assumption|exact ⟨by kernel_rfl,rfl⟩|decide|omega) ?_|refine pc_head cw ?_|refine HpP.force ?_);conv=>whnf)
   refine N_i _ ?_ ?_
   ·first|trivial|assumption|omega
   ·refine keep_env (by first|exact Nat.zero_le _|exact Nat.le_of_ble_eq_true rfl) ?_ ?_ trivial
    ·repeat' first|exact trivial|refine ⟨⟨by first|rfl|assumption|exact congrArg (fun n=>AV.d (iD n)) e_i,rfl⟩,?_⟩
    ·repeat' first|exact trivial|refine ⟨⟨ltB rfl,_,rfl,by first|rfl|assumption,by first|exact below1 rfl|exact below_dblk _ _ _|exact below_arr rfl⟩,?_⟩
  ·have cw:=with219 (G:=G) (a:=x.b) (b:=y.b) (by omega) (by omega)
   conv=>whnf
   repeat (refine LookP.mk _ rfl ?_;conv=>whnf)
   intro t ht
   cases t
   ·exfalso;first|(simp at ht;done)|(simp at ht;omega)
   conv=>whnf
   repeat' first|((first|refine LookP.mk _ rfl ?_|refine ShlP.mk _ (by first|(simp only [List.set,over,List.take,List.drop,List.append_eq,List.nil_append,List.cons_append,List.length];rfl)|rfl) ?_|refine And.intro (by first|assumption|exact ⟨by kernel_rfl,rfl⟩|decide|omega) ?_|refine pc_head cw ?_|refine HpP.force ?_);conv=>whnf)
   refine N_i _ ?_ ?_
   ·first|trivial|assumption|omega
   ·refine keep_env (by first|exact Nat.zero_le _|exact Nat.le_of_ble_eq_true rfl) ?_ ?_ trivial
    ·repeat' first|exact trivial|refine ⟨⟨by first|rfl|assumption|exact congrArg (fun n=>AV.d (iD n)) e_i,rfl⟩,?_⟩
    ·repeat' first|exact trivial|refine ⟨⟨ltB rfl,_,rfl,by first|rfl|assumption,by first|exact below1 rfl|exact below_dblk _ _ _|exact below_arr rfl⟩,?_⟩
  ·have cw:=with219 (G:=G) (a:=x.c) (b:=y.c) (by omega) (by omega)
   conv=>whnf
   repeat (refine LookP.mk _ rfl ?_;conv=>whnf)
   intro t ht
   cases t
   ·exfalso;first|(simp at ht;done)|(simp at ht;omega)
   conv=>whnf
   repeat' first|((first|refine LookP.mk _ rfl ?_|refine ShlP.mk _ (by first|(simp only [List.set,over,List.take,List.drop,List.append_eq,List.nil_append,List.cons_append,List.length];rfl)|rfl) ?_|refine And.intro (by first|assumption|exact ⟨by kernel_rfl,rfl⟩|decide|omega) ?_|refine pc_head cw ?_|refine HpP.force ?_);conv=>whnf)
   refine N_i _ ?_ ?_
   ·first|trivial|assumption|omega
   ·refine keep_env (by first|exact Nat.zero_le _|exact Nat.le_of_ble_eq_true rfl) ?_ ?_ trivial
    ·repeat' first|exact trivial|refine ⟨⟨by first|rfl|assumption|exact congrArg (fun n=>AV.d (iD n)) e_i,rfl⟩,?_⟩
    ·repeat' first|exact trivial|refine ⟨⟨ltB rfl,_,rfl,by first|rfl|assumption,by first|exact below1 rfl|exact below_dblk _ _ _|exact below_arr rfl⟩,?_⟩
  ·have cw:=with219 (G:=G) (a:=x.d) (b:=y.d) (by omega) (by omega)
   conv=>whnf
   repeat (refine LookP.mk _ rfl ?_;conv=>whnf)
   intro t ht
   cases t
   ·exfalso;first|(simp at ht;done)|(simp at ht;omega)
   conv=>whnf
   repeat' first|((first|refine LookP.mk _ rfl ?_|refine ShlP.mk _ (by first|(simp only [List.set,over,List.take,List.drop,List.append_eq,List.nil_append,List.cons_append,List.length];rfl)|rfl) ?_|refine And.intro (by first|assumption|exact ⟨by kernel_rfl,rfl⟩|decide|omega) ?_|refine pc_head cw ?_|refine HpP.force ?_);conv=>whnf)
   refine N_i _ ?_ ?_
   ·first|trivial|assumption|omega
   ·refine keep_env (by first|exact Nat.zero_le _|exact Nat.le_of_ble_eq_true rfl) ?_ ?_ trivial
    ·repeat' first|exact trivial|refine ⟨⟨by first|rfl|assumption|exact congrArg (fun n=>AV.d (iD n)) e_i,rfl⟩,?_⟩
    ·repeat' first|exact trivial|refine ⟨⟨ltB rfl,_,rfl,by first|rfl|assumption,by first|exact below1 rfl|exact below_dblk _ _ _|exact below_arr rfl⟩,?_⟩
 ·intro A_last I_last
  conv=>whnf
  repeat (refine LookP.mk _ rfl ?_;conv=>whnf)
  intro t ht
  cases t
  rotate_left
  ·exfalso;first|(simp at ht;done)|(simp at ht;omega)
  conv=>whnf
  repeat' first|((first|refine LookP.mk _ rfl ?_|refine ShlP.mk _ (by first|(simp only [List.set,over,List.take,List.drop,List.append_eq,List.nil_append,List.cons_append,List.length];rfl)|rfl) ?_|refine pc_use c4 ?_|refine pc_use c5 ?_|refine pc_use c6 ?_|refine HpP.force ?_);conv=>whnf)
  exact fin rfl
theorem chk76:chkFn Tryz.f76=true:=by kernel_rfl
theorem add76g {p q:P4} {k j K:Nat} (hK:K=max k j) (hK6:K<=60) (h1:P4.Bd 1073741824 p) (h2:P4.Bd 1073741824 q) (hB1:∀ i,i<=K-k->Big (P4.rse i p)) (hB2:∀ i,i<=K-j->Big (P4.rse i q)) (hb:P4.Bd 1073741824 ((P4.rse (K-k) p).add (P4.rse (K-j) q))) :
  PC Pr G 76 [nD p k,nD q j] (.tup [nD (P4.lsz K ((P4.rse (K-k) p).add (P4.rse (K-j) q))).1 (P4.lsz K ((P4.rse (K-k) p).add (P4.rse (K-j) q))).2,iD 0]):=by
 have c0:=checks154 (G:=G) [(p,k),(q,j)] true (by simp) (fun s hs=>by
  simp only [List.mem_cons,List.not_mem_nil,or_false] at hs
  rcases hs with rfl|rfl
  ·exact ⟨by show k<=60;omega,h1⟩
  ·exact ⟨by show j<=60;omega,h2⟩)
 have c1:=work149 (G:=G) p k
 have c2:=add156 (G:=G) hK hK6 hB1 hB2 hb
 have z0:((0:Int) != 0)=false:=rfl
 refine pc_walk pok Tryz.func76 chk76 ?_
 conv=>whnf
 repeat' first|((first|refine LookP.mk _ rfl ?_|refine ShlP.mk _ (by first|(simp only [List.set,over,List.take,List.drop,List.append_eq,List.nil_append,List.cons_append,List.length];rfl)|rfl) ?_|refine pc_lend1 c0 (asD_own rfl rfl) rfl ?_|refine pc_head c1 ?_|refine pc_head c2 ?_|refine knownB z0 ?_|refine HpP.force ?_);conv=>whnf)
 exact fin rfl
theorem chk77:chkFn Tryz.f77=true:=by kernel_rfl
theorem norm77g {p:P4} {k:Nat} (hk:2*k<=60) (h1:P4.Bd 16384 p) (hc:P4.lsz k p.con=(p.con,k)) (hb:P4.Bd 1073741824 (p.mul p.con)) :
  PC Pr G 77 [nD p k] (.tup [nD (P4.lsz (k+k) (p.mul p.con)).1 (P4.lsz (k+k) (p.mul p.con)).2,iD 0]):=by
 have c1:=conj74g (G:=G) (p:=p) (k:=k) (by omega) (h1.mono (by decide))
 rw [hc] at c1
 have c2:=mul75g (G:=G) (p:=p) (q:=p.con) (k:=k) (j:=k) (by omega) h1 (P4.con_bd h1) hb
 have z0:((0:Int) != 0)=false:=rfl
 refine pc_walk pok Tryz.func77 chk77 ?_
 conv=>whnf
 repeat' first|((first|refine LookP.mk _ rfl ?_|refine ShlP.mk _ (by first|(simp only [List.set,over,List.take,List.drop,List.append_eq,List.nil_append,List.cons_append,List.length];rfl)|rfl) ?_|refine pc_use c1 ?_|refine pc_use c2 ?_|refine knownB z0 ?_|refine HpP.force ?_);conv=>whnf)
 exact fin rfl
end Go.Tz
namespace Go.Tz
open Go Go.AL Go.Proofs Go.Ma
abbrev Cx:=Int × Int
def cadd (a b:Cx):Cx:=(a.1+b.1,a.2+b.2)
def csc (n:Int) (a:Cx):Cx:=(n*a.1,n*a.2)
def cip (a b:Cx):Cx:=(a.1*b.1+a.2*b.2,a.1*b.2-a.2*b.1)
def cn2 (a:Cx):Int:=a.1*a.1+a.2*a.2
def trn (p:Nat) (a:Cx):Cx:=if p % 4=0 then a else if p % 4=1 then (-a.2,a.1) else if p % 4=2 then (-a.1,-a.2) else (a.2,-a.1)
theorem trn_cases (p:Nat):p % 4=0\/p % 4=1\/p % 4=2\/p % 4=3:=by omega
theorem trn_add (p q:Nat) (a:Cx):trn p (trn q a)=trn (p+q) a:=by
 unfold trn
 rcases trn_cases p with h|h|h|h <;> rcases trn_cases q with g|g|g|g <;> (rw [Nat.add_mod,h,g];simp)
theorem trn_mod (p:Nat) (a:Cx):trn (p % 4) a=trn p a:=by unfold trn;rw [Nat.mod_mod]
theorem trn_cadd (p:Nat) (a b:Cx):trn p (cadd a b)=cadd (trn p a) (trn p b):=by
 unfold trn cadd
 rcases trn_cases p with h|h|h|h <;> (rw [h];simp;try omega)
theorem trn_cip (p:Nat) (a b:Cx):cip (trn p a) (trn p b)=cip a b:=by
 unfold trn cip
 rcases trn_cases p with h|h|h|h <;> (rw [h];refine Prod.ext ?_ ?_ <;> (simp;try grind))
theorem trn_0 (p:Nat):trn p (0,0)=(0,0):=by
 unfold trn
 rcases trn_cases p with h|h|h|h <;> (rw [h];simp)
theorem cip_addr (a b c:Cx):cip a (cadd b c)=cadd (cip a b) (cip a c):=by
 unfold cip cadd;ext <;> grind
theorem cip_addl (a b c:Cx):cip (cadd a b) c=cadd (cip a c) (cip b c):=by
 unfold cip cadd;ext <;> grind
theorem cip_neg2 (a b:Cx):cip a (trn 2 b)=trn 2 (cip a b):=by
 unfold trn cip;ext <;> simp <;> grind
theorem cadd_self_neg {a:Cx} (h:a=trn 2 a):a=(0,0):=by
 obtain ⟨x,y⟩:=a
 have h:(x,y)=(-x,-y):=h
 injection h with h1 h2
 refine Prod.ext ?_ ?_ <;> (simp only;omega)
def sm:Nat->(Nat->Cx)->Cx
 | 0,f=>f 0
 | k+1,f=>cadd (sm k f) (sm k fun v=>f (v^^^2^k))
theorem sm_congr:∀ (k:Nat) (f g:Nat->Cx),(∀ v,v<2^k->f v=g v)->sm k f=sm k g
 | 0,_,_,h=>h 0 (by decide)
 | k+1,f,g,h=>by
  have hp:2^(k+1)=2^k+2^k:=by rw [Nat.pow_succ];omega
  simp only [sm]
  rw [sm_congr k f g fun v hv=>h v (by omega),sm_congr k _ _ fun v hv=>h (v^^^2^k) (Nat.xor_lt_two_pow (by omega) (by omega))]
theorem cadd_4 (a b c d:Cx):cadd (cadd a b) (cadd c d)=cadd (cadd a c) (cadd b d):=by
 unfold cadd;ext <;> simp only <;> omega
theorem cadd_comm (a b:Cx):cadd a b=cadd b a:=by
 unfold cadd;ext <;> simp only <;> omega
theorem sm_add:∀ (k:Nat) (f g:Nat->Cx),sm k (fun v=>cadd (f v) (g v))=cadd (sm k f) (sm k g)
 | 0,_,_=>rfl
 | k+1,f,g=>by
  simp only [sm]
  rw [sm_add k f g,sm_add k (fun v=>f (v^^^2^k)) fun v=>g (v^^^2^k),cadd_4]
theorem sm_trn (p:Nat):∀ (k:Nat) (f:Nat->Cx),sm k (fun v=>trn p (f v))=trn p (sm k f)
 | 0,_=>rfl
 | k+1,f=>by
  simp only [sm]
  rw [sm_trn p k f,sm_trn p k fun v=>f (v^^^2^k),trn_cadd]
theorem cip_sc (n:Int) (a b:Cx):csc n (cadd a b)=cadd (csc n a) (csc n b):=by
 unfold csc cadd;ext <;> simp only <;> grind
theorem sm_xor:∀ (k a:Nat) (f:Nat->Cx),a<2^k->sm k (fun v=>f (v^^^a))=sm k f
 | 0,a,f,h=>by
  have:a=0:=by omega
  subst this;rfl
 | k+1,a,f,h=>by
  have hp:2^(k+1)=2^k+2^k:=by rw [Nat.pow_succ];omega
  simp only [sm]
  by_cases hlt:a<2^k
  ·have e2:(fun v=>f (v^^^2^k^^^a))=fun v=>(fun u=>f (u^^^2^k)) (v^^^a):=by
    funext v
    show _=f (v^^^a^^^2^k)
    congr 1
    rw [Nat.xor_assoc,Nat.xor_comm (2^k),<- Nat.xor_assoc]
   rw [e2,sm_xor k a f hlt,sm_xor k a (fun u=>f (u^^^2^k)) hlt]
  ·have hb:a^^^2^k<2^k:=xor_pow_lt h (by omega)
   have e1:(fun v=>f (v^^^a))=fun v=>(fun u=>f (u^^^2^k)) (v^^^(a^^^2^k)):=by
    funext v
    show _=f (v^^^(a^^^2^k)^^^2^k)
    congr 1
    rw [Nat.xor_assoc,xor_cancel]
   have e2:(fun v=>f (v^^^2^k^^^a))=fun v=>f (v^^^(a^^^2^k)):=by
    funext v
    congr 1
    rw [Nat.xor_assoc,Nat.xor_comm (2^k)]
   rw [e1,e2,sm_xor k _ (fun u=>f (u^^^2^k)) hb,sm_xor k _ f hb,cadd_comm]
def inn (w:Nat) (v u:Nat->Cx):Cx:=sm w fun k=>cip (v k) (u k)
def actC (e:E) (u:Nat->Cx) (k:Nat):Cx:=trn (phE e (k^^^xv e.2)) (u (k^^^xv e.2))
theorem actC_mul (e f:E) (u:Nat->Cx):actC e (actC f u)=actC (emul e f) u:=by
 funext k
 have e1:xv (emul e f).2=xv e.2^^^xv f.2:=xv_xor _ _
 unfold actC
 rw [e1,phE_mul,<- Nat.xor_assoc,xor_cancel,trn_add,trn_mod,Nat.add_comm]
theorem actC_neg (e:E) (u:Nat->Cx) (k:Nat):actC (eneg e) u k=trn 2 (actC e u k):=by
 unfold actC
 rw [show (eneg e).2=e.2 from rfl,trn_add,<- trn_mod (2+_)]
 conv=>rhs;rw [<- trn_mod]
 congr 1
 unfold phE eneg
 simp only
 omega
theorem actC_add (e:E) (u v:Nat->Cx):actC e (fun k=>cadd (u k) (v k))=fun k=>cadd (actC e u k) (actC e v k):=by
 funext k;exact trn_cadd ..
variable {w:Nat}
theorem inn_act {e:E} (h:xv e.2<2^w) (v u:Nat->Cx):inn w (actC e v) (actC e u)=inn w v u:=by
 unfold inn actC
 simp only [trn_cip]
 exact sm_xor w _ (fun k=>cip (v k) (u k)) h
def Fix (w:Nat) (e:E) (u:Nat->Cx):Prop:=∀ k,k<2^w->actC e u k=u k
theorem inn_congr {v v' u u':Nat->Cx} (h1:∀ k,k<2^w->v k=v' k) (h2:∀ k,k<2^w->u k=u' k):inn w v u=inn w v' u' :=
 sm_congr w _ _ fun k hk=>by rw [h1 k hk,h2 k hk]
theorem act_congr {e:E} (h:xv e.2<2^w) {u u':Nat->Cx} (hu:∀ k,k<2^w->u k=u' k):∀ k,k<2^w->actC e u k=actC e u' k:=fun k hk=>by
 unfold actC
 rw [hu _ (Nat.xor_lt_two_pow hk h)]
theorem inn_addr (v a b:Nat->Cx):inn w v (fun k=>cadd (a k) (b k))=cadd (inn w v a) (inn w v b):=by
 unfold inn
 simp only [cip_addr]
 exact sm_add ..
theorem inn_addl (v a b:Nat->Cx):inn w (fun k=>cadd (a k) (b k)) v=cadd (inn w a v) (inn w b v):=by
 unfold inn
 simp only [cip_addl]
 exact sm_add ..
theorem inV_xv (hw:w<=12) {v:Nat} (h:inV w v):xv v<2^w:=by
 refine Nat.lt_pow_two_of_testBit _ fun j hj=>?_
 unfold xv
 rw [show 4096=2^12 from rfl,Nat.testBit_mod_two_pow]
 by_cases h12:j<12
 ·rw [sp_bit (U w) (U_bit (.inl ⟨hj,h12⟩)) v h,Bool.and_false]
 ·rw [decide_eq_false h12,Bool.false_and]
theorem fix_mul {e f:E} (he:xv e.2<2^w) {u:Nat->Cx} (h1:Fix w e u) (h2:Fix w f u):Fix w (emul e f) u:=fun k hk=>by
 rw [<- actC_mul,act_congr he h2 k hk,h1 k hk]
theorem fix_one (u:Nat->Cx):Fix w e1 u:=fun k _=>by
 unfold actC
 rw [phE_one,show xv e1.2=0 from rfl,Nat.xor_zero];rfl
theorem fix_gen {L:List E} (hx:∀ a,a∈L->xv a.2<2^w) {u:Nat->Cx} (h:∀ a,a∈L->Fix w a u) {g:E} (hg:Gen L g):Fix w g u:=by
 induction hg with
 | one=>exact fix_one u
 | mul a f ha _ ih=>exact fix_mul (hx a ha) (h a ha) ih
def prjC (p:E) (u:Nat->Cx) (k:Nat):Cx:=cadd (u k) (actC p u k)
theorem prj_fix {p g:E} (hp:xv p.2<2^w) (hg:xv g.2<2^w) {u:Nat->Cx} (h:Fix w g u) (hc:ecom p g):Fix w g (prjC p u):=fun k hk=>by
 unfold prjC
 rw [actC_add]
 simp only
 rw [h k hk,actC_mul,emul_comm (ecom_symm hc),<- actC_mul,act_congr hp h k hk]
theorem act_self {p:E} (hok:eok p) (u:Nat->Cx) {k:Nat} (hk:k<2^w):actC p (actC p u) k=u k:=by
 rw [actC_mul,emul_self hok]
 exact fix_one u k hk
theorem prj_own {p:E} (hok:eok p) (u:Nat->Cx):Fix w p (prjC p u):=fun k hk=>by
 unfold prjC
 rw [actC_add]
 simp only
 rw [act_self hok u hk,cadd_comm]
theorem inn_prj {p:E} (hp:xv p.2<2^w) {v:Nat->Cx} (hv:Fix w p v) (u:Nat->Cx):inn w v (prjC p u)=csc 2 (inn w v u):=by
 unfold prjC
 rw [inn_addr]
 have:inn w v (actC p u)=inn w v u:=by
  rw [<- inn_act hp v u]
  exact inn_congr (fun k hk=>(hv k hk).symm) fun _ _=>rfl
 rw [this]
 unfold cadd csc
 ext <;> simp only <;> omega
theorem inn_anti {p g:E} (hp:xv p.2<2^w) (hg:xv g.2<2^w) (hpo:eok p) (hgo:eok g) {u:Nat->Cx} (h:Fix w g u) (hc:¬ ecom p g):inn w u (actC p u)=(0,0)/\inn w (actC p u) u=(0,0):=by
 have hne:emul g p=eneg (emul p g):=by
  refine e_ext ?_ (by show g.2^^^p.2=p.2^^^g.2;exact Nat.xor_comm ..)
  unfold ecom at hc
  show (g.1+p.1+2*(bt g.2 p.2).toNat) % 4=((p.1+g.1+2*(bt p.2 g.2).toNat) % 4+2) % 4
  revert hc
  cases bt g.2 p.2 <;> cases bt p.2 g.2 <;> simp <;> omega
 have hk:∀ k,k<2^w->actC g (actC p u) k=trn 2 (actC p u k):=fun k hk=>by
  rw [actC_mul,hne,actC_neg,<- actC_mul,act_congr hp h k hk]
 refine ⟨cadd_self_neg ?_,cadd_self_neg ?_⟩
 ·conv=>lhs;rw [<- inn_act hg u (actC p u)]
  rw [inn_congr h hk]
  unfold inn
  simp only [cip_neg2]
  exact sm_trn 2 w _
 ·conv=>lhs;rw [<- inn_act hg (actC p u) u]
  rw [inn_congr hk h]
  unfold inn
  have:∀ a b:Cx,cip (trn 2 a) b=trn 2 (cip a b):=fun a b=>by
   unfold trn cip;ext <;> simp <;> grind
  simp only [this]
  exact sm_trn 2 w _
theorem inn_prj2 {p g:E} (hp:xv p.2<2^w) (hg:xv g.2<2^w) (hpo:eok p) (hgo:eok g) {u:Nat->Cx} (h:Fix w g u) (hc:¬ ecom p g):inn w (prjC p u) (prjC p u)=csc 2 (inn w u u):=by
 obtain ⟨h1,h2⟩:=inn_anti hp hg hpo hgo h hc
 show inn w (fun k=>cadd (u k) (actC p u k)) (fun k=>cadd (u k) (actC p u k))=_
 rw [inn_addr,inn_addl,inn_addl,h1,h2,inn_act hp]
 unfold cadd csc
 ext <;> simp only <;> omega
theorem inn_neg {p:E} (hp:xv p.2<2^w) {v u:Nat->Cx} (hv:Fix w p v) (hu:Fix w (eneg p) u):inn w v u=(0,0):=by
 have hk:∀ k,k<2^w->actC p u k=trn 2 (u k):=fun k hk=>by
  have:=hu k hk
  rw [actC_neg] at this
  rw [<- this,trn_add];exact (trn_mod 4 _).symm
 refine cadd_self_neg ?_
 conv=>lhs;rw [<- inn_act hp v u]
 rw [inn_congr hv hk]
 unfold inn
 simp only [cip_neg2]
 exact sm_trn 2 w _
theorem csc_csc (a b:Int) (c:Cx):csc a (csc b c)=csc (a*b) c:=by
 unfold csc;ext <;> simp only <;> grind
theorem ovl_inn (hw:w<=12) (v:Nat->Cx):∀ (P L Q:List E) (n:Nat) (u:Nat->Cx),Sta w L->Ma.Good P->(∀ p,p∈P->inV w p.2)->(∀ q,q∈Q->inV w q.2 /\ ∀ p,p∈P->ecom p q) ->
  (∀ p,p∈L->Fix w p u)->(∀ p,p∈P->Fix w p v)->(∀ q,q∈Q->Fix w q u) ->
  (ovlE L P n = -1/\inn w v u=(0,0)) \/ ∃ (j:Nat) (u':Nat->Cx),j<=P.length/\ovlE L P n=((n+j:Nat):Int)/\inn w v u'=csc (2^j) (inn w v u)/\inn w u' u'=csc (2^j) (inn w u u) /\ ∀ q,q∈Q\/q∈P->Fix w q u'
 | [],L,Q,n,u,_,_,_,_,_,_,hQ=>.inr ⟨0,u,Nat.le_refl _,rfl,by unfold csc;simp,by unfold csc;simp,fun q h=>by
   rcases h with h|h
   ·exact hQ q h
   ·cases h⟩
 | p::P,L,Q,n,u,hL,hP,hV,hC,hu,hv,hQ=>by
  have hpV:=hV p (List.mem_cons_self ..)
  have hpx:=inV_xv hw hpV
  have hpok:=hP.ok p (List.mem_cons_self ..)
  have hLx:∀ a,a∈L->xv a.2<2^w:=fun a ha=>inV_xv hw (hL.inv a ha)
  have hP2:=good_tl hP
  have hV2:∀ q,q∈P->inV w q.2:=fun q h=>hV q (List.mem_cons_of_mem _ h)
  have hv2:∀ q,q∈P->Fix w q v:=fun q h=>hv q (List.mem_cons_of_mem _ h)
  have hC2:∀ q,q∈p::Q->inV w q.2 /\ ∀ r,r∈P->ecom r q:=fun q h=>by
   rcases List.mem_cons.1 h with h|h
   ·subst h;exact ⟨hpV,fun r hr=>hP.com r q (List.mem_cons_of_mem _ hr) (List.mem_cons_self ..)⟩
   ·exact ⟨(hC q h).1,fun r hr=>(hC q h).2 r (List.mem_cons_of_mem _ hr)⟩
  have hmem:∀ q,q∈Q\/q∈p::P->q∈p::Q\/q∈P:=fun q h=>by
   rcases h with h|h
   ·exact .inl (List.mem_cons_of_mem _ h)
   ·rcases List.mem_cons.1 h with h|h
    ·subst h;exact .inl (List.mem_cons_self ..)
    ·exact .inr h
  rw [ovl_cons]
  by_cases c1:Gen L p
  ·rw [if_pos c1]
   have hpu:=fix_gen hLx hu c1
   rcases ovl_inn hw v P L (p::Q) n u hL hP2 hV2 hC2 hu hv2 (fun q h=>by
    rcases List.mem_cons.1 h with h|h
    ·subst h;exact hpu
    ·exact hQ q h) with h|⟨j,u',h1,h2,h3,h4,h5⟩
   ·exact .inl h
   ·exact .inr ⟨j,u',by rw [List.length_cons];omega,h2,h3,h4,fun q h=>h5 q (hmem q h)⟩
  ·rw [if_neg c1]
   by_cases c2:Gen L (eneg p)
   ·rw [if_pos c2]
    exact .inl ⟨rfl,inn_neg hpx (hv p (List.mem_cons_self ..)) (fix_gen hLx hu c2)⟩
   ·rw [if_neg c2]
    have hx:=sta_anti hw hL hpV hpok c1 c2
    obtain ⟨g,g1,g2⟩:=id hx
    have hst:=proj_sta hw hL hpV hpok c1 c2
    have i1:=inn_prj hpx (hv p (List.mem_cons_self ..)) u
    have i2:=inn_prj2 hpx (hLx g g1) hpok (hL.good.ok g g1) (hu g g1) (fun e=>g2 (ecom_symm e))
    have e1:((n:Int)+1)=((n+1:Nat):Int):=by omega
    rw [e1]
    rcases ovl_inn hw v P (proj p L) (p::Q) (n+1) (prjC p u) hst hP2 hV2 hC2 (fun b hb=>by
     rcases proj_mem hL.good hx hb with rfl|⟨h1,h2⟩
     ·exact prj_own hpok u
     ·exact prj_fix hpx (inV_xv hw (hst.inv b hb)) (fix_gen hLx hu h1) h2) hv2 (fun q h=>by
     rcases List.mem_cons.1 h with h|h
     ·subst h;exact prj_own hpok u
     ·exact prj_fix hpx (inV_xv hw (hC q h).1) (hQ q h) ((hC q h).2 p (List.mem_cons_self ..))) with ⟨h,h'⟩|⟨j,u',h1,h2,h3,h4,h5⟩
    ·refine .inl ⟨h,?_⟩
     rw [i1] at h'
     unfold csc at h'
     injection h' with a b
     ext <;> simp only <;> omega
    ·refine .inr ⟨j+1,u',by rw [List.length_cons];omega,by rw [h2];omega,?_,?_,fun q h=>h5 q (hmem q h)⟩
     ·rw [h3,i1,csc_csc,Int.pow_succ]
     ·rw [h4,i2,csc_csc,Int.pow_succ]
end Go.Tz
namespace Go.Tz
open Go Go.AL Go.Proofs Go.Ma
variable {w lst m:Nat} {L S T:List E} {val:Nat->Option Nat}
def amC:Option Nat->Cx
 | none=>(0,0)
 | some p=>trn p (1,0)
def vecC (val:Nat->Option Nat) (k:Nat):Cx:=amC (val k)
theorem amp_fix (hL:Ma.Good L) (ha:Amp L w lst m val) {g:E} (hg:Gen L g) (hx:xv g.2<2^w):Fix w g (vecC val):=fun k hk=>by
 have h:=act_own hL ha hg hx k hk
 unfold vecC
 rw [<- h]
 unfold actC actV
 show trn _ (amC (val _))=_
 cases val (k^^^xv g.2) with
 | none=>exact trn_0 _
 | some p =>
  show trn _ (trn p (1,0))=trn ((p+_) % 4) (1,0)
  rw [trn_mod,trn_add,Nat.add_comm]
theorem sm_cn:∀ (k:Nat) (b:Nat->Bool),sm k (fun v=>if b v=true then (1,0) else (0,0))=(((cn k b:Nat):Int),0)
 | 0,b=>by
  show (if b 0=true then ((1,0):Cx) else (0,0))=((((b 0).toNat:Nat):Int),0)
  cases b 0 <;> rfl
 | k+1,b=>by
  show cadd (sm k fun v=>if b v=true then ((1,0):Cx) else (0,0)) (sm k fun v=>if b (v^^^2^k)=true then ((1,0):Cx) else (0,0))=(((cn k b+cn k fun v=>b (v^^^2^k):Nat):Int),0)
  rw [sm_cn k b,sm_cn k fun v=>b (v^^^2^k)]
  unfold cadd
  simp
theorem inn_self (ha:Amp L w lst m val) (hx:∀ g,Gen L g->xv g.2<2^w):inn w (vecC val) (vecC val)=(((2^m:Nat):Int),0):=by
 have h:=amp_count ha hx
 rw [cn_range] at h
 rw [<- h,<- sm_cn]
 refine sm_congr w _ _ fun k _=>?_
 unfold vecC
 cases val k with
 | none=>rfl
 | some p =>
  show cip (trn p (1,0)) (trn p (1,0))=(1,0)
  rw [trn_cip];rfl
theorem span_x:∀ (A B:List Nat) (v:Nat),(∀ b,b∈B->xv b=0)->spB (A++B) v=true->∃ a,spB A a=true/\xv a=xv v
 | [],B,v,hB,h=>⟨0,rfl,by
  have:∀ (B:List Nat) (v:Nat),(∀ b,b∈B->xv b=0)->spB B v=true->xv v=0:=by
   intro B
   induction B with
   | nil=>intro v _ h;simp only [spB,beq_iff_eq] at h;rw [h];rfl
   | cons b B ih =>
    intro v hB h
    simp only [spB,Bool.or_eq_true] at h
    rcases h with h|h
    ·exact ih v (fun c hc=>hB c (List.mem_cons_of_mem _ hc)) h
    ·have:=ih _ (fun c hc=>hB c (List.mem_cons_of_mem _ hc)) h
     rw [xv_xor,hB b (List.mem_cons_self ..),Nat.xor_zero] at this
     exact this
  rw [this B v hB h];rfl⟩
 | a::A,B,v,hB,h=>by
  simp only [List.cons_append,spB,Bool.or_eq_true] at h
  rcases h with h|h
  ·obtain ⟨x,h1,h2⟩:=span_x A B v hB h
   exact ⟨x,by simp only [spB,h1,Bool.true_or],h2⟩
  ·obtain ⟨x,h1,h2⟩:=span_x A B _ hB h
   refine ⟨x^^^a,by simp only [spB,xor_cancel,h1,Bool.or_true],?_⟩
   rw [xv_xor,h2,xv_xor,xor_cancel]
theorem sup_reach (hw:w<=12) (hL:Sta w L) (h1:Sup L lst) (h2:lst<2^w) {k:Nat} (hk:k<2^w) (hn:∀ g,Gen L g->lst^^^xv g.2≠k):¬ Sup L k:=fun hs=>by
 have hd:lst^^^k<2^w:=Nat.xor_lt_two_pow h2 hk
 have hdx:xv (lst^^^k)=lst^^^k:=Nat.mod_eq_of_lt (Nat.lt_of_lt_of_le hd (Nat.pow_le_pow_right (n:=2) (by decide) hw))
 have hz:∀ j,j<12->xv (2^(12+j))=0:=fun j hj=>by
  unfold xv
  rw [Nat.pow_add]
  exact Nat.mul_mod_right ..
 have hns:spB (L.map (·.2)++(List.range w).map fun j=>2^(12+j)) (lst^^^k)=false:=by
  cases e:spB (L.map (·.2)++(List.range w).map fun j=>2^(12+j)) (lst^^^k) with
  | false=>rfl
  | true =>
   obtain ⟨a,a1,a2⟩:=span_x _ _ _ (fun b hb=>by
    obtain ⟨j,hj,rfl⟩:=List.mem_map.1 hb
    exact hz j (by have:=List.mem_range.1 hj;omega)) e
   obtain ⟨g,g1,g2⟩:=span_gen _ _ a1
   refine absurd ?_ (hn g g1)
   rw [g2,a2,hdx,<- Nat.xor_assoc,Nat.xor_self,Nat.zero_xor]
 have hdV:inV w (lst^^^k):=inV_bits _ fun j hj=>Nat.testBit_lt_two_pow (Nat.lt_of_lt_of_le hd (Nat.pow_le_pow_right (by decide) (by omega)))
 obtain ⟨v,v1,v2,v3⟩:=apart hw _ (fun a ha=>by
  rcases List.mem_append.1 ha with e|e
  ·obtain ⟨q,hq,rfl⟩:=List.mem_map.1 e;exact hL.inv q hq
  ·obtain ⟨j,hj,rfl⟩:=List.mem_map.1 e
   have hj:=List.mem_range.1 hj
   have:=dual_in (c:=j) hw (.inl hj)
   unfold dual at this
   rwa [if_pos (by omega)] at this) _ hdV hns
 have hvx:xv v=0:=by
  refine Nat.eq_of_testBit_eq fun j=>?_
  unfold xv
  rw [show 4096=2^12 from rfl,Nat.testBit_mod_two_pow,Nat.zero_testBit]
  by_cases h12:j<12
  ·rw [decide_eq_true h12,Bool.true_and]
   by_cases hj:j<w
   ·have:=v2 (2^(12+j)) (List.mem_append.2 (.inr (List.mem_map.2 ⟨j,List.mem_range.2 hj,rfl⟩)))
    rw [cm_symm] at this
    have hd2:=cm_dual (c:=j) (by omega) v
    unfold dual at hd2
    rw [if_pos h12,this] at hd2
    exact hd2.symm
   ·exact sp_bit (U w) (U_bit (.inl ⟨by omega,h12⟩)) v v1
  ·rw [decide_eq_false h12,Bool.false_and]
 obtain ⟨g,g1,g2⟩:=span_gen L v (sta_max (p:=(0,v)) hw hL v1 fun q hq=>by
  rw [cm_ecom,cm_symm]
  exact v2 q.2 (List.mem_append.2 (.inl (List.mem_map.2 ⟨q,hq,rfl⟩))))
 subst g2
 have e1:=h1 g g1 hvx
 have e2:=hs g g1 hvx
 have hb:bt g.2 (lst^^^k)=false:=by
  rw [bt_xorr]
  unfold phE at e1 e2
  cases q1:bt g.2 lst <;> cases q2:bt g.2 k <;> rw [q1] at e1 <;> rw [q2] at e2 <;> simp at e1 e2 ⊢ <;> omega
 have hb2:bt (lst^^^k) g.2=false:=by
  unfold bt
  rw [Nat.shiftRight_eq_div_pow,Nat.div_eq_of_lt (Nat.lt_of_lt_of_le hd (Nat.pow_le_pow_right (by decide) hw)),Nat.zero_and,parF_zero]
 unfold cm at v3
 rw [hb,hb2] at v3
 cases v3
theorem fix_vec (hw:w<=12) (hL:Sta w L) (ha:Amp L w lst m val) {u:Nat->Cx} (hu:∀ g,Gen L g->Fix w g u):∀ k,k<2^w->u k=match val k with|none=>(0,0)|some p=>trn p (u lst):=fun k hk=>by
 cases e:val k with
 | some p =>
  obtain ⟨g,g1,g2,g3⟩:=ha.has k p hk e
  have:=hu g g1 k hk
  unfold actC at this
  rw [<- g2,xor_cancel,g3] at this
  rw [<- g2];exact this.symm
 | none =>
  have hs:=sup_reach hw hL ha.sup ha.lt hk (ha.no k hk e)
  have:∃ g,Gen L g/\xv g.2=0/\phE g k≠0:=Classical.byContradiction fun hn=>hs fun g hg hx=>Classical.byContradiction fun h0=>hn ⟨g,hg,hx,h0⟩
  obtain ⟨g,g1,g2,g3⟩:=this
  have hok:=gen_ok hL.good g1
  have h2:phE g k=2:=by
   have hb:bt g.2 g.2=false:=by rw [<- bt_xv,g2,bt_0r]
   have:=hok.2
   rw [hb] at this
   unfold phE at g3 ⊢
   revert g3
   cases bt g.2 k <;> simp at this ⊢ <;> omega
  have:=hu g g1 k hk
  unfold actC at this
  rw [g2,Nat.xor_zero,h2] at this
  exact cadd_self_neg this.symm
theorem cn2_sc (n:Int) (a:Cx):cn2 (csc n a)=n*n*cn2 a:=by
 unfold cn2 csc;grind
theorem cn2_trn (p:Nat) (a:Cx):cn2 (trn p a)=cn2 a:=by
 unfold cn2 trn
 rcases trn_cases p with h|h|h|h <;> (rw [h];simp;try grind)
theorem cip_turn (p:Nat) (c:Cx):cip (trn p (1,0)) (trn p c)=c:=by
 rw [trn_cip];unfold cip;simp
theorem cip_cn2 (c:Cx):cip c c=(cn2 c,0):=by
 unfold cip cn2;ext <;> simp only <;> grind
theorem sm_sc (n:Int):∀ (k:Nat) (f:Nat->Cx),sm k (fun v=>csc n (f v))=csc n (sm k f)
 | 0,_=>rfl
 | k+1,f=>by
  simp only [sm]
  rw [sm_sc n k f,sm_sc n k fun v=>f (v^^^2^k),cip_sc]
theorem cmul_cases (c:Cx) (b:Bool):(if b=true then c else (0,0))=cadd (csc c.1 (if b=true then (1,0) else (0,0))) (trn 1 (csc c.2 (if b=true then (1,0) else (0,0)))):=by
 cases b <;> (unfold cadd csc trn;simp)
theorem fix_inn (hw:w<=12) (hL:Sta w L) (ha:Amp L w lst m val) (hx:∀ g,Gen L g->xv g.2<2^w) {u:Nat->Cx} (hu:∀ g,Gen L g->Fix w g u) :
  inn w (vecC val) u=csc ((2^m:Nat):Int) (u lst)/\inn w u u=(((2^m:Nat):Int)*cn2 (u lst),0):=by
 have hv:=fix_vec hw hL ha hu
 have hc:=amp_count ha hx
 rw [cn_range] at hc
 generalize u lst=c at hv ⊢
 have hs:∀ c:Cx,sm w (fun k=>if (val k).isSome=true then c else (0,0))=csc ((2^m:Nat):Int) c:=fun c=>by
  have e:(fun k=>if (val k).isSome=true then c else (0,0))=fun k=>cadd (csc c.1 (if (val k).isSome=true then (1,0) else (0,0))) (trn 1 (csc c.2 (if (val k).isSome=true then (1,0) else (0,0)))):=funext fun k=>cmul_cases c _
  rw [e,sm_add,sm_trn,sm_sc,sm_sc,sm_cn,hc]
  unfold cadd csc trn
  ext <;> simp <;> grind
 constructor
 ·rw [<- hs c]
  refine sm_congr w _ _ fun k hk=>?_
  rw [hv k hk]
  unfold vecC
  cases val k with
  | none=>rfl
  | some p=>exact cip_turn p c
 ·have:=hs (cn2 c,0)
  have e:csc ((2^m:Nat):Int) (cn2 c,0)=(((2^m:Nat):Int)*cn2 c,0):=by unfold csc;simp
  rw [<- e,<- this]
  refine sm_congr w _ _ fun k hk=>?_
  rw [hv k hk]
  cases val k with
  | none=>rfl
  | some p =>
   show cip (trn p c) (trn p c)=(cn2 c,0)
   rw [trn_cip,cip_cn2]
theorem gen_x (hw:w<=12) (hL:Sta w L):∀ g,Gen L g->xv g.2<2^w:=fun g hg=>by
 refine inV_xv hw ?_
 have:=gen_span hg
 exact sp_sub _ _ (fun a ha=>by
  obtain ⟨q,hq,rfl⟩:=List.mem_map.1 ha
  exact hL.inv q hq) _ this
theorem ovl_vec (hw:w<=12) {a b ka kb:Nat} {va vb:Nat->Option Nat} (hS:Sta w S) (hT:Sta w T) (h1:Amp S w a ka va) (h2:Amp T w b kb vb) :
  (ovlE T S 0 = -1/\inn w (vecC va) (vecC vb)=(0,0)) \/ ∃ n:Nat,n<=w/\ovlE T S 0=n/\cn2 (inn w (vecC va) (vecC vb))*((2^n:Nat):Int)=((2^(ka+kb):Nat):Int):=by
 have xS:=gen_x hw hS
 have xT:=gen_x hw hT
 have fS:=fun g hg=>amp_fix hS.good h1 hg (xS g hg)
 have fT:=fun g hg=>amp_fix hT.good h2 hg (xT g hg)
 rcases ovl_inn hw (vecC va) S T [] 0 (vecC vb) hT hS.good hS.inv (fun q h=>by cases h) (fun p hp=>fT p (gen_mem' hT.good hp)) (fun p hp=>fS p (gen_mem' hS.good hp)) (fun q h=>by cases h) with h|⟨n,u,n1,n2,n3,n4,n5⟩
 ·exact .inl h
 ·refine .inr ⟨n,by rw [<- hS.len];exact n1,by rw [show ((0:Nat):Int)=0 from rfl] at n2;rw [n2];omega,?_⟩
  have hfix:∀ g,Gen S g->Fix w g u:=fun g hg=>fix_gen (fun a ha=>xS a (gen_mem' hS.good ha)) (fun a ha=>n5 a (.inr ha)) hg
  obtain ⟨i1,i2⟩:=fix_inn hw hS h1 xS hfix
  have i3:=inn_self h2 xT
  rw [i1] at n3
  rw [i2,i3] at n4
  have n3:=congrArg cn2 n3
  rw [cn2_sc,cn2_sc] at n3
  have n4:((2^ka:Nat):Int)*cn2 (u a)=2^n*((2^kb:Nat):Int):=congrArg Prod.fst n4
  generalize cn2 (inn w (vecC va) (vecC vb))=z at n3 ⊢
  generalize cn2 (u a)=c at n3 n4
  have hp:(0:Int)<2^n:=Int.pow_pos (by decide)
  have e1:((2^n:Nat):Int)=2^n:=by push_cast;rfl
  have e2:((2^(ka+kb):Nat):Int)=((2^ka:Nat):Int)*((2^kb:Nat):Int):=by rw [Nat.pow_add];push_cast;rfl
  rw [e1,e2]
  generalize ((2^ka:Nat):Int)=A at n3 n4 ⊢
  generalize ((2^kb:Nat):Int)=B at n4 ⊢
  generalize (2:Int)^n=N at n3 n4 hp ⊢
  -- A A c=N N z,A c=N B
  have h3:N*(z*N)=N*(A*B):=by
   have:A*(A*c)=A*(N*B):=by rw [n4]
   grind
  exact Int.eq_of_mul_eq_mul_left (by omega) h3
theorem ovl_sym (hw:w<=12) {a b ka kb:Nat} {va vb:Nat->Option Nat} (hS:Sta w S) (hT:Sta w T) (h1:Amp S w a ka va) (h2:Amp T w b kb vb):ovlE T S 0=ovlE S T 0:=by
 have hz:cn2 (inn w (vecC va) (vecC vb))=cn2 (inn w (vecC vb) (vecC va)):=by
  have key:∀ (k:Nat) (f g:Nat->Cx),(sm k fun v=>cip (f v) (g v)).1=(sm k fun v=>cip (g v) (f v)).1/\(sm k fun v=>cip (f v) (g v)).2 = - (sm k fun v=>cip (g v) (f v)).2:=by
   intro k
   induction k with
   | zero=>intro f g;constructor <;> (show _=_;simp only [sm,cip];grind)
   | succ k ih =>
    intro f g
    obtain ⟨a1,a2⟩:=ih f g
    obtain ⟨b1,b2⟩:=ih (fun v=>f (v^^^2^k)) (fun v=>g (v^^^2^k))
    constructor
    ·show _+_=_+_;rw [a1,b1]
    ·show _+_ = -(_+_);rw [a2,b2];exact Int.neg_add.symm
  obtain ⟨e1,e2⟩:=key w (vecC va) (vecC vb)
  unfold cn2 inn
  rw [e1,e2];grind
 have hpos:∀ k:Nat,(0:Int)<((2^k:Nat):Int):=fun k=>by have:=Nat.two_pow_pos k;omega
 rcases ovl_vec hw hS hT h1 h2 with ⟨x1,x2⟩|⟨n,_,n2,n3⟩ <;> rcases ovl_vec hw hT hS h2 h1 with ⟨y1,y2⟩|⟨k,_,k2,k3⟩
 ·rw [x1,y1]
 ·exfalso
  rw [<- hz,x2] at k3
  have:=hpos (kb+ka)
  simp only [cn2] at k3
  omega
 ·exfalso
  rw [hz,y2] at n3
  have:=hpos (ka+kb)
  simp only [cn2] at n3
  omega
 ·rw [n2,k2]
  rw [<- hz,Nat.add_comm kb,<- n3] at k3
  have h0:cn2 (inn w (vecC va) (vecC vb))≠0:=fun e=>by
   rw [e] at n3
   have:=hpos (ka+kb)
   omega
  have:=Int.eq_of_mul_eq_mul_left h0 k3
  have h2:2^k=2^n:=by omega
  rw [(Nat.pow_right_inj (by decide)).1 h2]
end Go.Tz
namespace Go.Tz
open Go Go.AL Go.Proofs Go.Ma
variable {w:Nat} {L:List E} {k a b:Nat}
theorem gen_turn (hw:w<=12) (h:gOk k a b) (ha:a<w) (hb:9<=k->b<w) (hL:Sta w L) {p:E} (hp:inV w p.2) (hok:eok p):Gen (L.map (gE k a b)) (gE k a b p) ↔ Gen L p:=by
 refine ⟨fun hg=>?_,gen_gE h hL.good⟩
 have hS:=gE_sta hw h ha hb hL
 refine Classical.byContradiction fun c1=>?_
 by_cases c2:Gen L (eneg p)
 ·have:=gen_gE h hL.good c2
  rw [gE_neg] at this
  exact gen_noneg hS.good hS.ind hg this
 ·obtain ⟨x,x1,x2⟩:=sta_anti hw hL hp hok c1 c2
  exact x2 ((gE_com h _ _).1 (gen_gcom hS.good (gen_mem' hS.good (List.mem_map.2 ⟨x,x1,rfl⟩)) hg))
theorem projR_gE (h:gOk k a b) (f p:E) (L:List E):projR (gE k a b f) (gE k a b p) (L.map (gE k a b))=(projR f p L).map (gE k a b):=by
 unfold projR
 rw [List.map_map,List.map_map]
 refine List.map_congr_left fun r _=>?_
 show (if ecom (gE k a b r) (gE k a b p) then _ else _)=gE k a b (if ecom r p then r else emul r f)
 by_cases c:ecom r p
 ·rw [if_pos c,if_pos ((gE_com h r p).2 c)]
 ·rw [if_neg c,if_neg fun x=>c ((gE_com h r p).1 x),gE_mul h]
theorem proj_gE (h:gOk k a b) (p:E):∀ L:List E,proj (gE k a b p) (L.map (gE k a b))=(proj p L).map (gE k a b)
 | []=>rfl
 | q::L=>by
  show (if ecom (gE k a b q) (gE k a b p) then _ else _)=(if ecom q p then _ else _:List E).map (gE k a b)
  by_cases c:ecom q p
  ·rw [if_pos c,if_pos ((gE_com h q p).2 c),List.map_cons]
   show _::proj _ (L.map _)=_
   rw [proj_gE h p L]
  ·rw [if_neg c,if_neg fun x=>c ((gE_com h q p).1 x),List.map_cons]
   show _::projR _ _ (L.map _)=_
   rw [projR_gE h]
theorem ovl_gE (hw:w<=12) (h:gOk k a b) (ha:a<w) (hb:9<=k->b<w):∀ (P L:List E) (n:Int),Sta w L->(∀ p,p∈P->inV w p.2/\eok p)->ovlE (L.map (gE k a b)) (P.map (gE k a b)) n=ovlE L P n
 | [],_,_,_,_=>rfl
 | p::P,L,n,hL,hP=>by
  obtain ⟨h1,h2⟩:=hP p (List.mem_cons_self ..)
  have hP2:∀ q,q∈P->inV w q.2/\eok q:=fun q hq=>hP q (List.mem_cons_of_mem _ hq)
  have t1:=gen_turn hw h ha hb hL h1 h2
  have t2:=gen_turn hw h ha hb hL (p:=eneg p) h1 (eneg_ok h2)
  rw [gE_neg] at t2
  rw [List.map_cons,ovl_cons,ovl_cons]
  by_cases c1:Gen L p
  ·rw [if_pos c1,if_pos (t1.2 c1),ovl_gE hw h ha hb P L n hL hP2]
  ·rw [if_neg c1,if_neg fun x=>c1 (t1.1 x)]
   by_cases c2:Gen L (eneg p)
   ·rw [if_pos c2,if_pos (t2.2 c2)]
   ·rw [if_neg c2,if_neg fun x=>c2 (t2.1 x),proj_gE h,ovl_gE hw h ha hb P _ _ (proj_sta hw hL h1 h2 c1 c2) hP2]
theorem ovl_ge:∀ (P L:List E) (n:Int),ovlE L P n = -1\/n<=ovlE L P n
 | [],_,n=>.inr (Int.le_refl n)
 | p::P,L,n=>by
  rw [ovl_cons]
  by_cases c1:Gen L p
  ·rw [if_pos c1];exact ovl_ge P L n
  ·rw [if_neg c1]
   by_cases c2:Gen L (eneg p)
   ·rw [if_pos c2];exact .inl rfl
   ·rw [if_neg c2]
    rcases ovl_ge P (proj p L) (n+1) with e|e
    ·exact .inl e
    ·exact .inr (by omega)
theorem ovl_all:∀ (P L:List E) (n:Int),0<=n->ovlE L P n=n->∀ p,p∈P->Gen L p
 | [],_,_,_,_,p,hp=>by cases hp
 | q::P,L,n,hn,h,p,hp=>by
  rw [ovl_cons] at h
  by_cases c1:Gen L q
  ·rw [if_pos c1] at h
   rcases List.mem_cons.1 hp with e|e
   ·subst e;exact c1
   ·exact ovl_all P L n hn h p e
  ·exfalso
   rw [if_neg c1] at h
   by_cases c2:Gen L (eneg q)
   ·rw [if_pos c2] at h;omega
   ·rw [if_neg c2] at h
    rcases ovl_ge P (proj q L) (n+1) with e|e <;> omega
theorem sta_eq (hw:w<=12) {S T:List E} (hS:Sta w S) (hT:Sta w T) (h:∀ p,p∈S->Gen T p):SameG S T:=fun g=>by
 refine ⟨fun hg=>gen_sub hT.good h hg,fun hg=>?_⟩
 have hV:inV w g.2:=sp_sub _ _ (fun a ha=>by
  obtain ⟨q,hq,rfl⟩:=List.mem_map.1 ha
  exact hT.inv q hq) _ (gen_span hg)
 obtain ⟨f,f1,f2⟩:=span_gen S g.2 (sta_max hw hS hV fun q hq=>gen_gcom hT.good (h q hq) hg)
 rw [<- gen_uniq hT.good hT.ind (gen_sub hT.good h f1) hg f2]
 exact f1
variable {l l':List Ps}
theorem ovR_ovl (hs:SOk w l) (hs':SOk w l'):ovR w l' l=ovlE (l'.map nf) (l.map nf) 0:=(ovR_run hs hs').2
theorem same_iff (hs:SOk w l) (hs':SOk w l'):redRows l (2*w)=redRows l' (2*w) ↔ ovR w l' l=0:=by
 rw [ovR_ovl hs hs']
 constructor
 ·intro h
  have h1:=(redRows_ok hs).2
  have h2:=(redRows_ok hs').2
  rw [h] at h1
  exact ovl_same _ _ _ fun p hp=>(h2 p).2 ((h1 p).1 (gen_mem' (sok_sta hs).good hp))
 ·intro h
  exact red_uniq hs hs' (sta_eq hs.hi (sok_sta hs) (sok_sta hs') (ovl_all _ _ 0 (by decide) h))
theorem gate_gen {g:Gt} (hs:SOk w l) (hg:GtOk w g):∀ e,Gen ((l.map nf).map (gE (gK g) (gA g) (gB g))) e ↔ Gen ((appG w g l).map nf) e:=fun e=>by
 have hR:=(gR_of hg.chk hg.kind).1
 have:=(redRows_ok (map_thr_sok hR hs)).2 e
 rwa [map_thr_nf] at this
theorem ov_gate {g:Gt} (hs:SOk w l) (hs':SOk w l') (hg:GtOk w g):ovR w (appG w g l') (appG w g l)=ovR w l' l:=by
 have h1:=appG_sok hg.chk hg.kind hs
 have h2:=appG_sok hg.chk hg.kind hs'
 have hR:=(gR_of hg.chk hg.kind).1
 have hO:=gR_ok hs.hi hR
 have hab:gA g<w/\(9<=gK g->gB g<w):=by unfold gR at hR;omega
 have st:=fun {l:List Ps} (hs:SOk w l)=>gE_sta hs.hi hO hab.1 hab.2 (sok_sta hs)
 rw [ovR_ovl h1 h2,ovR_ovl hs hs',ovl_eq hs.hi (sok_sta h2) (st hs') (sok_sta h1) (st hs) (fun e=>(gate_gen hs' hg e).symm) (fun e=>(gate_gen hs hg e).symm)]
 exact ovl_gE hs.hi hO hab.1 hab.2 _ _ _ (sok_sta hs') fun p hp=>⟨(sok_sta hs).inv p hp,(sok_sta hs).good.ok p hp⟩
end Go.Tz
namespace Go.Tz
open Go Go.AL Go.Proofs Go.Ma
variable {G:Nat->Option (List D)}
namespace P4
theorem evn_twc (p:P4):p.twc.evn/\p.twc.hlf=p:=by
 obtain ⟨a,b,c,d⟩:=p
 simp only [evn,twc,hlf,mk.injEq]
 omega
theorem twc_nz {p:P4} (h:p≠z):p.twc≠z:=fun e=>by
 have:=(evn_twc p).2
 rw [e] at this
 exact h this.symm
theorem lsz_twc (k:Nat) (p:P4):lsz (k+1) p.twc=lsz k p:=by
 by_cases h:p=z
 ·rw [h];rfl
 ·rw [lsz,if_neg (twc_nz h),lsz,if_neg h]
  show (if p.twc.evn then lst k p.twc.hlf else _)=_
  rw [if_pos (evn_twc p).1,(evn_twc p).2]
theorem lsz_rse (k:Nat):∀ (d:Nat) (p:P4),lsz (k+d) (rse d p)=lsz k p
 | 0,_=>rfl
 | d+1,p=>by
  show lsz (k+d+1) (rse d p.twc)=_
  rw [rse_twc,lsz_twc]
  exact lsz_rse k d p
theorem rse_add:∀ (d:Nat) (p q:P4),rse d (p.add q)=(rse d p).add (rse d q)
 | 0,_,_=>rfl
 | d+1,p,q=>by
  have e:(p.add q).twc=p.twc.add q.twc:=by
   simp only [twc,add,mk.injEq]
   omega
  show rse d (p.add q).twc=_
  rw [e];exact rse_add d _ _
theorem rse_rse:∀ (a b:Nat) (p:P4),rse a (rse b p)=rse (b+a) p
 | a,0,p=>by rw [Nat.zero_add];rfl
 | a,b+1,p=>by
  show rse a (rse b p.twc)=_
  rw [rse_rse a b,show b+1+a=(b+a)+1 by omega];rfl
theorem lsz_sum {K k:Nat} {A B:P4} (hk:k=max (lsz K A).2 (lsz K B).2):k<=K/\lsz k ((rse (k-(lsz K A).2) (lsz K A).1).add (rse (k-(lsz K B).2) (lsz K B).1))=lsz K (A.add B):=by
 obtain ⟨a1,a2⟩:=rse_lsz K A
 obtain ⟨b1,b2⟩:=rse_lsz K B
 have hkK:k<=K:=by omega
 refine ⟨hkK,?_⟩
 have e1:A=rse (K-k) (rse (k-(lsz K A).2) (lsz K A).1):=by
  rw [rse_rse]
  conv=>lhs;rw [<- a2]
  congr 1;omega
 have e2:B=rse (K-k) (rse (k-(lsz K B).2) (lsz K B).1):=by
  rw [rse_rse]
  conv=>lhs;rw [<- b2]
  congr 1;omega
 generalize rse (k-(lsz K A).2) (lsz K A).1=X at e1 ⊢
 generalize rse (k-(lsz K B).2) (lsz K B).1=Y at e2 ⊢
 rw [e1,e2,<- rse_add]
 have:=lsz_rse k (K-k) (X.add Y)
 rw [show k+(K-k)=K by omega] at this
 exact this.symm
end P4
def emb (c:Cx):P4:=⟨c.1,0,c.2,0⟩
def sq:Nat->(Nat->Cx)->Cx
 | 0,_=>(0,0)
 | j+1,f=>cadd (sq j f) (f j)
theorem cadd_0 (a:Cx):cadd (0,0) a=a:=by unfold cadd;refine Prod.ext ?_ ?_ <;> simp
theorem cadd_r (a:Cx):cadd a (0,0)=a:=by unfold cadd;refine Prod.ext ?_ ?_ <;> simp
theorem cadd_assoc (a b c:Cx):cadd (cadd a b) c=cadd a (cadd b c):=by unfold cadd;refine Prod.ext ?_ ?_ <;> (simp only;omega)
theorem sq_congr {f g:Nat->Cx}:∀ n:Nat,(∀ k,k<n->f k=g k)->sq n f=sq n g
 | 0,_=>rfl
 | n+1,h=>by
  show cadd (sq n f) (f n)=cadd (sq n g) (g n)
  rw [sq_congr n fun k hk=>h k (by omega),h n (by omega)]
theorem sq_more (n:Nat) (f:Nat->Cx):∀ m:Nat,sq (n+m) f=cadd (sq n f) (sq m fun v=>f (n+v))
 | 0=>(cadd_r _).symm
 | m+1=>by
  show cadd (sq (n+m) f) (f (n+m))=cadd (sq n f) (cadd (sq m fun v=>f (n+v)) (f (n+m)))
  rw [sq_more n f m,cadd_assoc]
theorem xor_top {k v:Nat} (hv:v<2^k):v^^^2^k=2^k+v:=by
 refine Nat.eq_of_testBit_eq fun j=>?_
 have:=Nat.testBit_two_pow_mul_add 1 hv j
 rw [Nat.mul_one] at this
 rw [this,Nat.testBit_xor,Nat.testBit_two_pow]
 by_cases hj:j<k
 ·rw [if_pos hj,decide_eq_false (by omega),Bool.xor_false]
 ·rw [if_neg hj,Nat.testBit_lt_two_pow (Nat.lt_of_lt_of_le hv (Nat.pow_le_pow_right (by decide) (by omega))),Bool.false_xor]
  by_cases e:k=j
  ·subst e;simp
  ·rw [decide_eq_false e]
   exact (Nat.testBit_lt_two_pow (Nat.lt_of_lt_of_le (by decide:1<2^1) (Nat.pow_le_pow_right (by decide) (by omega)))).symm
theorem sq_sm:∀ (w:Nat) (f:Nat->Cx),sq (2^w) f=sm w f
 | 0,f=>cadd_0 _
 | w+1,f=>by
  have hp:2^(w+1)=2^w+2^w:=by rw [Nat.pow_succ];omega
  rw [hp,sq_more,sq_sm w f]
  show _=cadd (sm w f) (sm w fun v=>f (v^^^2^w))
  rw [<- sq_sm w fun v=>f (v^^^2^w)]
  congr 1
  exact sq_congr _ fun v hv=>by rw [xor_top hv]
theorem emb_gau (c:Cx):P4.Gau (emb c):=.inl ⟨rfl,rfl⟩
theorem emb_nrm (c:Cx):P4.nrm (emb c)=cn2 c:=by
 unfold P4.nrm emb cn2
 simp
theorem emb_add (a b:Cx):(emb a).add (emb b)=emb (cadd a b):=rfl
theorem emb_mul (a b:Cx):(emb a).con.mul (emb b)=emb (cip a b):=by
 unfold emb cip P4.con P4.mul
 simp only [P4.mk.injEq]
 refine ⟨?_,?_,?_,?_⟩ <;> grind
def ek:Option Nat->Nat->Nat
 | none,_=>0
 | some _,m=>m
variable {v v':Option Nat} {m m':Nat}
theorem ek_le (v:Option Nat) (m:Nat):ek v m<=m:=by
 cases v with
 | none=>exact Nat.zero_le _
 | some _=>exact Nat.le_refl _
theorem am_nD (hv:∀ p,v=some p->p<4):amD v m=nD (emb (amC v)) (ek v m):=by
 cases v with
 | none=>rfl
 | some p =>
  have:=hv p rfl
  have:p=0\/p=1\/p=2\/p=3:=by omega
  rcases this with rfl|rfl|rfl|rfl <;> rfl
theorem one_lsz {c:Cx} (h:cn2 c % 2=1) (m:Nat):P4.lsz m (emb c)=(emb c,m):=by
 have he:¬ (emb c).evn:=fun e=>by
  unfold P4.evn emb at e
  simp only at e
  unfold cn2 at h
  obtain ⟨x,y⟩:=c
  simp only at e h
  have:(x*x+y*y) % 2=0:=by
   have h1:x % 2=y % 2:=by omega
   rw [Int.add_emod,Int.mul_emod,Int.mul_emod y,h1]
   have:y % 2=0\/y % 2=1:=by omega
   rcases this with e|e <;> (rw [e];decide)
  omega
 have hz:emb c≠P4.z:=fun e=>he (by rw [e];decide)
 rw [P4.lsz,if_neg hz]
 cases m with
 | zero=>rfl
 | succ m=>exact if_neg he
theorem cn2_am (p:Nat):cn2 (amC (some p))=1:=by
 show cn2 (trn p (1,0))=1
 rw [cn2_trn];rfl
theorem am_lsz (v:Option Nat) (m:Nat):P4.lsz m (emb (amC v))=(emb (amC v),ek v m):=by
 cases v with
 | none=>rfl
 | some p=>exact one_lsz (by rw [cn2_am];rfl) m
theorem trn_1 (p:Nat):trn p (1,0)=(1,0)\/trn p (1,0)=(0,1)\/trn p (1,0)=(-1,0)\/trn p (1,0)=(0,-1):=by
 unfold trn
 rcases trn_cases p with h|h|h|h <;> (rw [h];simp)
instance (n:Int) (p:P4):Decidable (P4.Bd n p):=inferInstanceAs (Decidable (_/\_))
theorem am_bd (v:Option Nat):P4.Bd 1 (emb (amC v)):=by
 cases v with
 | none=>decide
 | some p =>
  show P4.Bd 1 (emb (trn p (1,0)))
  rcases trn_1 p with h|h|h|h <;> (rw [h];decide)
theorem cip_am (v v':Option Nat):(∃ p,cip (amC v) (amC v')=trn p (1,0)/\ek v m+ek v' m'=m+m')\/cip (amC v) (amC v')=(0,0):=by
 cases v with
 | none=>exact .inr (by unfold amC cip;simp)
 | some p =>
  cases v' with
  | none=>exact .inr (by unfold amC cip;simp)
  | some q =>
   refine .inl ⟨3*p+q,?_,rfl⟩
   have:trn q (1,0)=trn p (trn (3*p+q) (1,0)):=by
    rw [trn_add,<- trn_mod,<- trn_mod (p+_)]
    congr 1;omega
   show cip (trn p (1,0)) (trn q (1,0))=_
   rw [this,cip_turn]
theorem conjA (hv:∀ p,v=some p->p<4) (hm:m<=20):PC Pr G 74 [amD v m] (.tup [nD (emb (amC v)).con (ek v m),iD 0]):=by
 have h:=conj74g (G:=G) (p:=emb (amC v)) (k:=ek v m) (by have:=ek_le v m;omega) ((am_bd v).mono (by decide))
 have e:=P4.lsz_con (K:=m) (S:=emb (amC v))
 rw [am_lsz] at e
 dsimp only at e
 rw [e] at h
 rw [am_nD hv];exact h
theorem mulA (hv':∀ p,v'=some p->p<4) (hm:m<=20) (hm':m'<=20):PC Pr G 75 [nD (emb (amC v)).con (ek v m),amD v' m'] (.tup [nD (P4.lsz (m+m') (emb (cip (amC v) (amC v')))).1 (P4.lsz (m+m') (emb (cip (amC v) (amC v')))).2,iD 0]):=by
 have hk:ek v m+ek v' m'<=60:=by have:=ek_le v m;have:=ek_le v' m';omega
 have hb:P4.Bd 1073741824 (emb (cip (amC v) (amC v'))):=by
  rcases cip_am (m:=m) (m':=m') v v' with ⟨p,h,_⟩|h
  ·rw [h];exact (am_bd (some p)).mono (by decide)
  ·rw [h];decide
 have h:=mul75g (G:=G) (p:=(emb (amC v)).con) (q:=emb (amC v')) (k:=ek v m) (j:=ek v' m') hk (P4.con_bd ((am_bd v).mono (by decide))) ((am_bd v').mono (by decide)) (by rw [emb_mul];exact hb)
 rw [emb_mul] at h
 have e:P4.lsz (ek v m+ek v' m') (emb (cip (amC v) (amC v')))=P4.lsz (m+m') (emb (cip (amC v) (amC v'))):=by
  rcases cip_am (m:=m) (m':=m') v v' with ⟨p,_,h⟩|h
  ·rw [h]
  ·rw [h];rfl
 rw [e] at h
 rw [am_nD hv'];exact h
theorem bd_big {p:P4} {n:Int} {j:Nat} (h:P4.Bd n p) (hj:j<=20) (h0:0<=n) (hn:n<=1000):Big (P4.rse j p):=by
 refine (P4.rse_bd j h).mono ?_
 have h1:(2:Int)^j<=2^20:=by
  have:=Nat.pow_le_pow_right (n:=2) (by decide) hj
  have e:((2^j:Nat):Int)=2^j:=by push_cast;rfl
  have e2:((2^20:Nat):Int)=2^(20:Nat):=by rw [Int.natCast_pow];rfl
  omega
 have:=Int.mul_le_mul h1 hn h0 (by decide)
 omega
theorem addA {S y:Cx} {K:Nat} (hK:K<=20) (hS:P4.Bd 500 (emb S)) (hy:P4.Bd 500 (emb y)):PC Pr G 76 [nD (P4.lsz K (emb S)).1 (P4.lsz K (emb S)).2,nD (P4.lsz K (emb y)).1 (P4.lsz K (emb y)).2] (.tup [nD (P4.lsz K (emb (cadd S y))).1 (P4.lsz K (emb (cadd S y))).2,iD 0]):=by
 obtain ⟨k,hk⟩:∃ k,k=max (P4.lsz K (emb S)).2 (P4.lsz K (emb y)).2:=⟨_,rfl⟩
 obtain ⟨h1,h2⟩:=P4.lsz_sum hk
 have b1:=P4.lsz_bd K (by decide) hS
 have b2:=P4.lsz_bd K (by decide) hy
 have r1:=(P4.rse_lsz K (emb S)).1
 have r2:=(P4.rse_lsz K (emb y)).1
 have hb1:=bd_big (j:=k-(P4.lsz K (emb S)).2) b1 (by omega) (by decide) (by decide)
 have hb2:=bd_big (j:=k-(P4.lsz K (emb y)).2) b2 (by omega) (by decide) (by decide)
 have hp:(2:Int)^(20:Nat)*500+2^(20:Nat)*500<=1073741824:=by decide
 have mono:∀ {j:Nat},j<=20->(2:Int)^j*500<=2^(20:Nat)*500:=fun {j} hj=>by
  have:=Nat.pow_le_pow_right (n:=2) (by decide) hj
  have e:((2^j:Nat):Int)=2^j:=by push_cast;rfl
  have e2:((2^20:Nat):Int)=2^(20:Nat):=by rw [Int.natCast_pow];rfl
  omega
 have hb:=P4.add_bd ((P4.rse_bd (k-(P4.lsz K (emb S)).2) b1).mono (mono (by omega))) ((P4.rse_bd (k-(P4.lsz K (emb y)).2) b2).mono (mono (by omega)))
 have h:=add76g (G:=G) hk (by omega) (b1.mono (by decide)) (b2.mono (by decide)) (fun i hi=>bd_big b1 (by omega) (by decide) (by decide)) (fun i hi=>bd_big b2 (by omega) (by decide) (by decide)) (hb.mono hp)
 rw [h2,emb_add] at h
 exact h
theorem normA {z:Cx} {K n:Nat} (hK:K<=20) (hz:P4.Bd 500 (emb z)) (hn:cn2 z*2^n=2^K):PC Pr G 77 [nD (P4.lsz K (emb z)).1 (P4.lsz K (emb z)).2] (.tup [amD (some 0) (2*n),iD 0]):=by
 have b1:=P4.lsz_bd K (by decide) hz
 have r1:=(P4.rse_lsz K (emb z)).1
 have hb:P4.Bd 1073741824 ((P4.lsz K (emb z)).1.mul (P4.lsz K (emb z)).1.con):=by
  rw [P4.mul_con (by unfold P4.lsz;split;exact .inl ⟨rfl,rfl⟩;exact P4.lst_gau K (emb_gau z))]
  generalize (P4.lsz K (emb z)).1=p at b1
  unfold P4.Bd at b1 ⊢
  unfold P4.nrm
  have sq:∀ x:Int,-500<=x->x<=500->0<=x*x/\x*x<=250000:=fun x h1 h2=>by
   have h:(x*x).natAbs<=500*500:=by
    rw [Int.natAbs_mul]
    exact Nat.mul_le_mul (by omega) (by omega)
   have h0:((x.natAbs*x.natAbs:Nat):Int)=x*x:=Int.natAbs_mul_self
   omega
  have h1:=sq p.a (by omega) (by omega)
  have h2:=sq p.b (by omega) (by omega)
  have h3:=sq p.c (by omega) (by omega)
  have h4:=sq p.d (by omega) (by omega)
  simp only
  omega
 have h:=norm77g (G:=G) (p:=(P4.lsz K (emb z)).1) (k:=(P4.lsz K (emb z)).2) (by omega) (b1.mono (by decide)) P4.lsz_con hb
 rw [P4.lsz_norm (emb_gau z) (by rw [emb_nrm];exact hn)] at h
 exact h
theorem norm0:PC Pr G 77 [nD P4.z ((0:Nat):Int)] (.tup [nD P4.z ((0:Nat):Int),iD 0]) :=
 norm77g (G:=G) (p:=P4.z) (k:=0) (by decide) (by decide) rfl (by decide)
theorem sq_bd {f:Nat->Cx} (h:∀ k,P4.Bd 1 (emb (f k))):∀ n:Nat,P4.Bd n (emb (sq n f))
 | 0=>by
  show P4.Bd 0 (emb (0,0))
  decide
 | n+1=>(P4.add_bd (sq_bd h n) (h n)).mono (by push_cast;omega)
theorem cip_bd (v v':Option Nat):P4.Bd 1 (emb (cip (amC v) (amC v'))):=by
 rcases cip_am (m:=0) (m':=0) v v' with ⟨p,h,_⟩|h
 ·rw [h];exact am_bd (some p)
 ·rw [h];decide
end Go.Tz
namespace Go.Tz
open Go Go.AL Go.Proofs Go.Ma
noncomputable def ops12:Array Oper:=(Tryz.f12.body.bind (findReg 8)).getD #[]
def tv12 (w:Nat) (l:List Ps) (lt:Bool) (g:Gt):List (Nat × Nat × AV):=[(0,66,.d (stD w l lt)),(1,67,.ptr 1 3 0 0),(2,68,.d (iD w)),(3,69,.d cfD),(4,70,.d g.d),(5,71,.d (.tup [stD w (appG w g l) true,iD 0])),(6,65,.d (.tup [stD w (appG w g l) true,iD 0])),(7,72,.d (stD w (appG w g l) true)),(8,73,.d (iD 0)),(9,14,.ptr 4 2 0 0),(11,15,.d (iD 0))]
structure Z12 (bs:List Int) (u:Bool) (w nx:Nat) (st:Int) (l:List Ps) (hs:List (Nat × Blk)) (g:Gt) (nx':Nat) (st':Int) (L:Nat->Bool) (s:St):Prop where
 ho:∀ p,p∈hs->s.heap.get p.1=some p.2
 s0:L 4=false->s.heap.get 1=some (storeB bs u nx st)
 s1:L 4=true->s.heap.get 1=some (storeB bs u nx' st')
 n0:L 9=false->s.nx=4
 n1:L 9=true->s.nx=5
 a0:L 9=true->L 10=false->s.heap.get 4=some (.arr 2 [[.d (iD 0),.d (.sl [] true)]])
 a1:L 10=true->s.heap.get 4=some (.arr 2 [[.d (iD w),.d (rowsD (appG w g l) true)]])
 dep:∀ j,5<=j->j≠9->L j=true->L 4=true
 dep2:L 10=true->L 9=true
variable {bs:List Int} {u:Bool} {w nx nx':Nat} {st st':Int} {l:List Ps} {lt:Bool} {hs:List (Nat × Blk)} {ks:List (Nat × AV)} {g:Gt} {L:Nat->Bool} {s:St}
theorem z12_put {i d:Nat} {v:AV} (h:Z12 bs u w nx st l hs g nx' st' L s) (h4:i≠4) (h9:i≠9) (h10:i≠10) (hd:5<=i->L 4=true):Z12 bs u w nx st l hs g nx' st' (fun j=>if j=i then true else L j) (({ env:=s.env,heap:=s.heap,nx:=s.nx }:St).put (some d) v):=by
 refine ⟨h.ho,fun a=>?_,fun a=>?_,fun a=>?_,fun a=>?_,fun a b=>?_,fun a=>?_,fun j h5 hj a=>?_,fun a=>?_⟩ <;> (try simp only [if_neg (Ne.symm h4),if_neg (Ne.symm h9),if_neg (Ne.symm h10)] at *)
 ·exact h.s0 a
 ·exact h.s1 a
 ·exact h.n0 a
 ·exact h.n1 a
 ·exact h.a0 a b
 ·exact h.a1 a
 ·by_cases e:j=i
  ·subst e;exact hd h5
  ·rw [if_neg e] at a;exact h.dep j h5 hj a
 ·exact h.dep2 a
theorem reg12 (hw:1<=w/\w<=12) (hbs:bs.length<=1000) (hnx:nx+13<=4611686018427387904) (hsl:SOk w l) (hks:∀ p,p∈ks->p.1<14) (k8:(8,AV.ptr 1 3 0 0)∈ks) (k9:(9,AV.d (iD w))∈ks) (k10:(10,AV.ptr 2 2 0 0)∈ks)
  (h2:(2,Blk.arr 2 [[.d (iD w),.d (rowsD l lt)]])∈hs) (hhs:∀ p,p∈hs->p.1≠1/\p.1<4) {s0:St} (S0:ST (tv12 w l lt g) ks (Z12 bs u w nx st l hs g nx' st') (fun _=>false) s0) {k:Exit->St->Prop}
  (hk:∀ L s' g nx' st',GtOk w g->ST (tv12 w l lt g) ks (Z12 bs u w nx st l hs g nx' st') L s'->(∀ a,a<12->L a=true)->∃ st'',Sub GK 0 [] s' st''/\k .normal st''):RegVC Pr GK Tryz.f12.ntmps 0 [] 8 ops12 s0 k:=by
 refine ⟨fun r=>awp_any pok.mixed (edgeB_ok (by kernel_rfl)) (fun L s=>∃ g nx' st',(L 4=true->GtOk w g)/\ST (tv12 w l lt g) ks (Z12 bs u w nx st l hs g nx' st') L s) ⟨g,nx',st',⟨fun h=>(nomatch h),S0⟩⟩ ?_ ?_⟩
 ·rintro L s a op ⟨g,nx',st',hg,hS⟩ hL ho hall
  have ha:a<12:=(Array.getElem?_eq_some_iff.1 ho).1
  have T24:=pok.tab.get (t:=24) rfl
  have T42:=pok.tab.get (t:=42) rfl
  have tv:∀ n i d v,(tv12 w l lt g)[n]?=some (i,d,v)->L i=true->lk s.env d=v:=fun n i d v h hl=>hS.tv _ (List.mem_of_getElem? h) hl
  have keep:∀ {c:Nat},c≠4->((if 4=c then true else L 4)=true->GtOk w g):=fun hc h=>hg (by rwa [if_neg (Ne.symm hc)] at h)
  have cases12:a=0\/a=1\/a=2\/a=3\/a=4\/a=5\/a=6\/a=7\/a=8\/a=9\/a=10\/a=11:=by omega
  rcases cases12 with rfl|rfl|rfl|rfl|rfl|rfl|rfl|rfl|rfl|rfl|rfl|rfl
  all_goals
   have ho:=Option.some.inj (show some _=some op from ho)
   subst ho
   refine ⟨rfl,?_⟩
  ·exact opwp_pure (fun c h=>by cases h) (pure_load rfl T24.tok (fun h=>by cases h) (hS.kp _ k10) (hS.z.ho _ h2) rfl rfl rfl) rfl ⟨g,nx',st',keep (by decide),st_put (i:=0) (d:=66) hS hks (by decide) (by repeat' first|exact trivial|(refine ⟨by first|exact .inl ⟨rfl,rfl⟩|exact .inr ⟨Nat.ne_of_beq_eq_false rfl,Nat.ne_of_beq_eq_false rfl⟩,?_⟩)) (z12_put hS.z (by decide) (by decide) (by decide) (fun h=>absurd h (by decide)))⟩
  ·exact opwp_pure (fun c h=>by cases h) (pure_move rfl (hS.kp _ k8)) rfl ⟨g,nx',st',keep (by decide),st_put (i:=1) (d:=67) hS hks (by decide) (by repeat' first|exact trivial|(refine ⟨by first|exact .inl ⟨rfl,rfl⟩|exact .inr ⟨Nat.ne_of_beq_eq_false rfl,Nat.ne_of_beq_eq_false rfl⟩,?_⟩)) (z12_put hS.z (by decide) (by decide) (by decide) (fun h=>absurd h (by decide)))⟩
  ·exact opwp_pure (fun c h=>by cases h) (pure_move rfl (hS.kp _ k9)) rfl ⟨g,nx',st',keep (by decide),st_put (i:=2) (d:=68) hS hks (by decide) (by repeat' first|exact trivial|(refine ⟨by first|exact .inl ⟨rfl,rfl⟩|exact .inr ⟨Nat.ne_of_beq_eq_false rfl,Nat.ne_of_beq_eq_false rfl⟩,?_⟩)) (z12_put hS.z (by decide) (by decide) (by decide) (fun h=>absurd h (by decide)))⟩
  ·exact opwp_pure (fun c h=>by cases h) (pure_load_ro (cs:=[cfD]) (off:=0) rfl T42.tok (fun _=>rfl) rfl rfl rfl) rfl ⟨g,nx',st',keep (by decide),st_put (i:=3) (d:=69) hS hks (by decide) (by repeat' first|exact trivial|(refine ⟨by first|exact .inl ⟨rfl,rfl⟩|exact .inr ⟨Nat.ne_of_beq_eq_false rfl,Nat.ne_of_beq_eq_false rfl⟩,?_⟩)) (z12_put hS.z (by decide) (by decide) (by decide) (fun h=>absurd h (by decide)))⟩
  ·have q1:=tv 1 1 67 _ rfl (hall ⟨1,.data⟩ (Array.mem_of_getElem? (i:=0) rfl) rfl)
   have q2:=tv 2 2 68 _ rfl (hall ⟨2,.data⟩ (Array.mem_of_getElem? (i:=1) rfl) rfl)
   have q3:=tv 3 3 69 _ rfl (hall ⟨3,.data⟩ (Array.mem_of_getElem? (i:=2) rfl) rfl)
   have no:∀ j,5<=j->j≠9->L j=true->False:=fun j h5 hj h=>by rw [hS.z.dep j h5 hj h] at hL;cases hL
   have hc:=sk_useN (sn:=1) (nx0:=s.nx) (nx:=nx) (st:=st) (H:=s.heap) (k:=fun v H' n'=>∃ g nx' st',((if 4=4 then true else L 4)=true->GtOk w g)/\ST (tv12 w l lt g) ks (Z12 bs u w nx st l hs g nx' st') (fun j=>if j=4 then true else L j) (({ env:=s.env,heap:=H',nx:=n' }:St).put (some 70) v)) (sc65 bs u w hw hbs).k (by decide) hnx (hS.z.s0 hL) ?_
   ·obtain ⟨hf,hc⟩:=hc
    refine opwp_call (f:=65) (fi:=[]) (ca:=[]) (l:=[.ptr 1 3 0 0,.d (iD w),.d cfD]) rfl rfl hf ?_ rfl hc
    show []++[lk s.env 67,lk s.env 68,lk s.env 69]++[]=_
    rw [show lk s.env 67=_ from q1,show lk s.env 68=_ from q2,show lk s.env 69=_ from q3];rfl
   ·intro g2 st2 nx2 hb2 hg2
    refine ⟨g2,nx2,st2,fun _=>hg2,fun p hp=>?_,fun p hp hl=>?_,fun p hp=>(get_cons_ne _ _ (hhs p hp).1).trans (hS.z.ho p hp),fun h=>(nomatch h),fun _=>get_cons_same _ _ _,hS.z.n0,hS.z.n1,fun h1 h2=>(get_cons_ne _ _ (by decide)).trans (hS.z.a0 h1 h2),fun h=>(no 10 (by decide) (by decide) h).elim,fun j h5 hj h=>rfl,hS.z.dep2⟩
    ·have:=hks p hp
     exact (lk_cons_ne _ _ (by omega)).trans (hS.kp p hp)
    ·simp only [tv12,List.mem_cons,List.not_mem_nil,or_false] at hp
     rcases hp with rfl|rfl|rfl|rfl|rfl|rfl|rfl|rfl|rfl|rfl|rfl
     ·exact (lk_cons_ne _ _ (Nat.ne_of_beq_eq_false rfl)).trans (tv 0 0 66 _ rfl hl)
     ·exact (lk_cons_ne _ _ (Nat.ne_of_beq_eq_false rfl)).trans (tv 1 1 67 _ rfl hl)
     ·exact (lk_cons_ne _ _ (Nat.ne_of_beq_eq_false rfl)).trans (tv 2 2 68 _ rfl hl)
     ·exact (lk_cons_ne _ _ (Nat.ne_of_beq_eq_false rfl)).trans (tv 3 3 69 _ rfl hl)
     ·exact lk_cons_same _ _ _
     ·exact (no 5 (by decide) (by decide) hl).elim
     ·exact (no 6 (by decide) (by decide) hl).elim
     ·exact (no 7 (by decide) (by decide) hl).elim
     ·exact (no 8 (by decide) (by decide) hl).elim
     ·exact (lk_cons_ne _ _ (Nat.ne_of_beq_eq_false rfl)).trans (tv 9 9 14 _ rfl hl)
     ·exact (no 11 (by decide) (by decide) hl).elim
  ·have q0:=tv 0 0 66 _ rfl (hall ⟨0,.data⟩ (Array.mem_of_getElem? (i:=0) rfl) rfl)
   have l4:=hall ⟨4,.data⟩ (Array.mem_of_getElem? (i:=1) rfl) rfl
   have q4:=tv 4 4 70 _ rfl l4
   have hc:=pc_use (H:=s.heap) (nx:=s.nx) (k:=fun v H' n'=>∃ g nx' st',((if 4=5 then true else L 4)=true->GtOk w g)/\ST (tv12 w l lt g) ks (Z12 bs u w nx st l hs g nx' st') (fun j=>if j=5 then true else L j) (({ env:=s.env,heap:=H',nx:=n' }:St).put (some 71) v)) (apply47d hsl (hg l4) lt) ?_
   ·obtain ⟨hf,hc⟩:=hc
    refine opwp_call (f:=47) (fi:=[]) (ca:=[]) (l:=[stD w l lt,g.d].map .d) rfl rfl hf ?_ rfl hc
    show []++[lk s.env 66,lk s.env 70]++[]=_
    rw [show lk s.env 66=_ from q0,show lk s.env 70=_ from q4];rfl
   ·exact ⟨g,nx',st',keep (by decide),st_put (i:=5) (d:=71) hS hks (by decide) (by repeat' first|exact trivial|(refine ⟨by first|exact .inl ⟨rfl,rfl⟩|exact .inr ⟨Nat.ne_of_beq_eq_false rfl,Nat.ne_of_beq_eq_false rfl⟩,?_⟩)) (z12_put hS.z (by decide) (by decide) (by decide) (fun _=>l4))⟩
  ·have l5:=hall ⟨5,.data⟩ (Array.mem_of_getElem? (i:=0) rfl) rfl
   exact opwp_pure (fun c h=>by cases h) (pure_move rfl (tv 5 5 71 _ rfl l5)) rfl ⟨g,nx',st',keep (by decide),st_put (i:=6) (d:=65) hS hks (by decide) (by repeat' first|exact trivial|(refine ⟨by first|exact .inl ⟨rfl,rfl⟩|exact .inr ⟨Nat.ne_of_beq_eq_false rfl,Nat.ne_of_beq_eq_false rfl⟩,?_⟩)) (z12_put hS.z (by decide) (by decide) (by decide) (fun _=>hS.z.dep 5 (by decide) (by decide) l5))⟩
  ·have l6:=hall ⟨6,.data⟩ (Array.mem_of_getElem? (i:=0) rfl) rfl
   exact opwp_pure (fun c h=>by cases h) (pure_extract_d rfl (tv 6 6 65 _ rfl l6) rfl) rfl ⟨g,nx',st',keep (by decide),st_put (i:=7) (d:=72) hS hks (by decide) (by repeat' first|exact trivial|(refine ⟨by first|exact .inl ⟨rfl,rfl⟩|exact .inr ⟨Nat.ne_of_beq_eq_false rfl,Nat.ne_of_beq_eq_false rfl⟩,?_⟩)) (z12_put hS.z (by decide) (by decide) (by decide) (fun _=>hS.z.dep 6 (by decide) (by decide) l6))⟩
  ·have l6:=hall ⟨6,.data⟩ (Array.mem_of_getElem? (i:=0) rfl) rfl
   exact opwp_pure (fun c h=>by cases h) (pure_extract_d rfl (tv 6 6 65 _ rfl l6) rfl) rfl ⟨g,nx',st',keep (by decide),st_put (i:=8) (d:=73) hS hks (by decide) (by repeat' first|exact trivial|(refine ⟨by first|exact .inl ⟨rfl,rfl⟩|exact .inr ⟨Nat.ne_of_beq_eq_false rfl,Nat.ne_of_beq_eq_false rfl⟩,?_⟩)) (z12_put hS.z (by decide) (by decide) (by decide) (fun _=>hS.z.dep 6 (by decide) (by decide) l6))⟩
  ·have n4:=hS.z.n0 hL
   have n10:L 10=false:=by
    cases h:L 10 with
    | false=>rfl
    | true=>exact absurd (hS.z.dep2 h) (by rw [hL];decide)
   refine opwp_step (k:=1) (fun c hc=>by cases hc) ((step_alloc (nm:=4) rfl T24.1 rfl rfl).names fun m hm=>by subst hm;omega) rfl ?_
   have old:∀ m bl,m≠4->AHeap.get ((4,some bl)::s.heap) m=s.heap.get m:=fun m bl hm=>get_cons_ne _ _ hm
   refine ⟨g,nx',st',keep (by decide),st_put (i:=9) (d:=14) hS hks (by decide) (by repeat' first|exact trivial|(refine ⟨by first|exact .inl ⟨rfl,rfl⟩|exact .inr ⟨Nat.ne_of_beq_eq_false rfl,Nat.ne_of_beq_eq_false rfl⟩,?_⟩)) ⟨fun p hp=>(old _ _ (by have:=(hhs p hp).2;omega)).trans (hS.z.ho p hp),fun h=>(old _ _ (by decide)).trans (hS.z.s0 h),fun h=>(old _ _ (by decide)).trans (hS.z.s1 h),fun h=>(nomatch h),fun _=>by show s.nx+1=5;omega,fun _ _=>get_cons_same _ _ _,fun h=>absurd (show L 10=true from h) (by rw [n10];decide),fun j h5 hj h=>hS.z.dep j h5 hj (by rwa [if_neg hj] at h),fun _=>rfl⟩⟩
  ·have l9:=hall ⟨9,.data⟩ (Array.mem_of_getElem? (i:=0) rfl) rfl
   have l7:=hall ⟨7,.data⟩ (Array.mem_of_getElem? (i:=1) rfl) rfl
   have q9:=tv 9 9 14 _ rfl l9
   have q7:=tv 7 7 72 _ rfl l7
   refine opwp_step (k:=0) (fun c hc=>by cases hc) ((step_store (x:=.tmp 14) (y:=.tmp 72) (nm:=4) (sz:=2) (idx:=0) (off:=0) (v:=.d (stD w (appG w g l) true)) rfl T24.1 q9 q7 (hS.z.a0 l9 hL) rfl rfl rfl rfl (Nat.le_of_ble_eq_true rfl)).names fun _ h=>h.elim) rfl ?_
   have old:∀ m bl,m≠4->AHeap.get ((4,some bl)::s.heap) m=s.heap.get m:=fun m bl hm=>get_cons_ne _ _ hm
   have tvl:∀ p,p∈tv12 w l lt g->p.1≠10:=fun p hp=>by
    simp only [tv12,List.mem_cons,List.not_mem_nil,or_false] at hp
    rcases hp with rfl|rfl|rfl|rfl|rfl|rfl|rfl|rfl|rfl|rfl|rfl <;> exact Nat.ne_of_beq_eq_false rfl
   exact ⟨g,nx',st',keep (by decide),hS.kp,fun p hp hl=>hS.tv p hp (by rwa [if_neg (tvl p hp)] at hl),fun p hp=>(old _ _ (by have:=(hhs p hp).2;omega)).trans (hS.z.ho p hp),fun h=>(old _ _ (by decide)).trans (hS.z.s0 h),fun h=>(old _ _ (by decide)).trans (hS.z.s1 h),hS.z.n0,hS.z.n1,fun _ h=>(nomatch h),fun _=>get_cons_same _ _ _,fun j h5 hj h=>by
    by_cases e:j=10
    ·exact hS.z.dep 7 (by decide) (by decide) l7
    ·exact hS.z.dep j h5 hj (by rwa [if_neg e] at h),fun _=>l9⟩
  ·have l8:=hall ⟨8,.data⟩ (Array.mem_of_getElem? (i:=0) rfl) rfl
   exact opwp_pure (fun c h=>by cases h) (pure_assign rfl (tv 8 8 73 _ rfl l8)) rfl ⟨g,nx',st',keep (by decide),st_put (i:=11) (d:=15) hS hks (by decide) (by repeat' first|exact trivial|(refine ⟨by first|exact .inl ⟨rfl,rfl⟩|exact .inr ⟨Nat.ne_of_beq_eq_false rfl,Nat.ne_of_beq_eq_false rfl⟩,?_⟩)) (z12_put hS.z (by decide) (by decide) (by decide) (fun _=>hS.z.dep 8 (by decide) (by decide) l8))⟩
 ·rintro L s ⟨g,nx',st',hg,hS⟩ hall
  exact ⟨rfl,hk L s g nx' st' (hg (hall 4 (by decide))) hS hall⟩
theorem reg12c {ops:Array Oper} (hops:ops=ops12) (hw:1<=w/\w<=12) (hbs:bs.length<=1000) (hnx:nx+13<=4611686018427387904) (hsl:SOk w l) {e:List (Nat × AV)} {H:AHeap} {a b:Blk}
  (e7:lk e 7 = .ptr 0 3 0 0) (e8:lk e 8 = .ptr 1 3 0 0) (e9:lk e 9 = .d (iD w)) (e10:lk e 10 = .ptr 2 2 0 0) (e12:lk e 12 = .ptr 3 2 0 0)
  (h0:H.get 0=some a) (h1:H.get 1=some (storeB bs u nx st)) (h2:H.get 2=some (.arr 2 [[.d (iD w),.d (rowsD l lt)]])) (h3:H.get 3=some b) (ha:a.Below 5) (hb:b.Below 5) {k:Exit->St->Prop}
  (hk:∀ g,GtOk w g->k .normal ⟨[(7,.ptr 0 3 0 0),(8,.ptr 1 3 0 0),(9,.d (iD w)),(10,.ptr 2 2 0 0),(12,.ptr 3 2 0 0),(14,.ptr 4 2 0 0),(15,.d (iD 0))],[(0,some a),(2,some (.arr 2 [[.d (iD w),.d (rowsD l lt)]])),(3,some b),(4,some (.arr 2 [[.d (iD w),.d (rowsD (appG w g l) true)]]))],5⟩):RegVC Pr GK Tryz.f12.ntmps 0 [] 8 ops ⟨e,H,4⟩ k:=by
 subst hops
 have hks:∀ p,p∈([(7,.ptr 0 3 0 0),(8,.ptr 1 3 0 0),(9,.d (iD w)),(10,.ptr 2 2 0 0),(12,.ptr 3 2 0 0)]:List (Nat × AV))->p.1<14/\lk e p.1=p.2:=fun p hp=>by
  simp only [List.mem_cons,List.not_mem_nil,or_false] at hp
  rcases hp with rfl|rfl|rfl|rfl|rfl
  ·exact ⟨ltB rfl,e7⟩
  ·exact ⟨ltB rfl,e8⟩
  ·exact ⟨ltB rfl,e9⟩
  ·exact ⟨ltB rfl,e10⟩
  ·exact ⟨ltB rfl,e12⟩
 have hhs:∀ p,p∈([(0,a),(2,.arr 2 [[.d (iD w),.d (rowsD l lt)]]),(3,b)]:List (Nat × Blk))->(p.1≠1/\p.1<4)/\H.get p.1=some p.2:=fun p hp=>by
  simp only [List.mem_cons,List.not_mem_nil,or_false] at hp
  rcases hp with rfl|rfl|rfl
  ·exact ⟨⟨Nat.ne_of_beq_eq_false rfl,ltB rfl⟩,h0⟩
  ·exact ⟨⟨Nat.ne_of_beq_eq_false rfl,ltB rfl⟩,h2⟩
  ·exact ⟨⟨Nat.ne_of_beq_eq_false rfl,ltB rfl⟩,h3⟩
 refine reg12 (g:=⟨0,[],true,0,0⟩) (nx':=0) (st':=0) hw hbs hnx hsl (fun p hp=>(hks p hp).1) (by simp) (by simp) (by simp) (lt:=lt) (hs:=[(0,a),(2,.arr 2 [[.d (iD w),.d (rowsD l lt)]]),(3,b)]) (by simp) (fun p hp=>(hhs p hp).1) ⟨fun p hp=>(hks p hp).2,fun p _ h=>(nomatch h),⟨fun p hp=>(hhs p hp).2,fun _=>h1,fun h=>(nomatch h),fun _=>rfl,fun h=>(nomatch h),fun h=>(nomatch h),fun h=>(nomatch h),fun _ _ _ h=>(nomatch h),fun h=>(nomatch h)⟩⟩ ?_
 intro L s' g nx' st' hg hS hall
 have t:=fun n i d v (h:(tv12 w l lt g)[n]?=some (i,d,v)) (hi:i<12)=>hS.tv _ (List.mem_of_getElem? h) (hall i hi)
 have o:=hS.z.ho
 have k:=hS.kp
 refine ⟨_,keep_env (Nat.zero_le _) ?_ ?_ trivial,hk g hg⟩
 ·exact ⟨⟨k (7,_) (by simp),rfl⟩,⟨k (8,_) (by simp),rfl⟩,⟨k (9,_) (by simp),rfl⟩,⟨k (10,_) (by simp),rfl⟩,⟨k (12,_) (by simp),rfl⟩,⟨t 9 9 14 _ rfl (by decide),rfl⟩,⟨t 10 11 15 _ rfl (by decide),rfl⟩,trivial⟩
 ·exact ⟨⟨ltB rfl,_,rfl,o (0,_) (by simp),ha⟩,⟨ltB rfl,_,rfl,o (2,_) (by simp),below1 rfl⟩,⟨ltB rfl,_,rfl,o (3,_) (by simp),hb⟩,⟨ltB rfl,_,rfl,hS.z.a1 (hall 10 (by decide)),below1 rfl⟩,trivial⟩
end Go.Tz
namespace Go.Tz
open Go Go.AL Go.Proofs Go.Ma
abbrev nmE (s:P4 × Nat):List AV:=[.d (iD s.1.a),.d (iD s.1.b),.d (iD s.1.c),.d (iD s.1.d),.d (iD s.2)]
structure OvC (w:Nat) (l l':List Ps) (lt lt':Bool) (n:Int) (va vb:Nat->Option Nat) (ka kb:Nat):Prop where
 cV:PC Pr GK 20 [stD w l lt] (.tup [.sl (vcL va ka (2^w)) false,iD 0])
 cV':PC Pr GK 20 [stD w l' lt'] (.tup [.sl (vcL vb kb (2^w)) false,iD 0])
 cO:PC Pr GK 33 [stD w l lt,stD w l' lt'] (.tup [iD n,iD 0])
 cO':PC Pr GK 33 [stD w l' lt',stD w l lt] (.tup [iD n,iD 0])
 cS:PC Pr GK 32 [stD w l lt,stD w l' lt'] (.tup [.bool (n==0),iD 0])
 cG:∀ g,GtOk w g->PC Pr GK 33 [stD w (appG w g l) true,stD w (appG w g l') true] (.tup [iD n,iD 0])
 a4:V4 va
 b4:V4 vb
 la:ka<=w
 lb:kb<=w
 is:(n = -1/\inn w (vecC va) (vecC vb)=(0,0)) \/ ∃ m:Nat,m<=w/\n=m/\cn2 (inn w (vecC va) (vecC vb))*2^m=2^(ka+kb)
theorem vec_all {w:Nat} {l:List Ps} (hs:SOk w l) (hw:w<=6) (lt:Bool):∃ (va:Nat->Option Nat) (ka lst:Nat),PC Pr GK 20 [stD w l lt] (.tup [.sl (vcL va ka (2^w)) false,iD 0])/\Amp ((redRows l (2*w)).map nf) w lst ka va/\V4 va/\ka<=w:=by
 have hr:=(redRows_ok hs).1
 have hpg:=(pg_ok hs).amp
 have c20:=up (vector20 lt hs hw)
 have ha:=cut_amp hpg
 have h4:=cut_4 hpg
 rw [<- cut_vc] at c20
 generalize cutV w (valW w (pgA w l) (pgL w l))=val at ha h4 c20
 generalize (pgA w l).length=m at ha c20
 have hcount:cntV val (2^w)=2^m:=amp_count ha (gen_xv hr)
 refine ⟨val,m,_,c20,ha,h4,?_⟩
 have:=cnt_le' val (2^w)
 rw [hcount] at this
 exact pow_le this
theorem ov_facts {w:Nat} {l l':List Ps} (hs:SOk w l) (hs':SOk w l') (hw:w<=6) (lt lt':Bool):∃ n va vb ka kb,OvC w l l' lt lt' n va vb ka kb:=by
 obtain ⟨va,ka,a,c1,h1,a4,k1⟩:=vec_all hs hw lt
 obtain ⟨vb,kb,b,c2,h2,b4,k2⟩:=vec_all hs' hw lt'
 have r1:=redRows_ok hs
 have r2:=redRows_ok hs'
 have e1:ovR w l' l=ovlE ((redRows l' (2*w)).map nf) ((redRows l (2*w)).map nf) 0:=by
  rw [ovR_ovl hs hs']
  exact ovl_eq hs.hi (sok_sta hs') (sok_sta r2.1) (sok_sta hs) (sok_sta r1.1) r2.2 r1.2
 have e2:ovR w l l'=ovR w l' l:=by
  rw [e1,ovR_ovl hs' hs,ovl_eq hs.hi (sok_sta hs) (sok_sta r1.1) (sok_sta hs') (sok_sta r2.1) r1.2 r2.2]
  exact (ovl_sym hs.hi (sok_sta r1.1) (sok_sta r2.1) h1 h2).symm
 refine ⟨ovR w l' l,va,vb,ka,kb,c1,c2,up (over33d hs hs' lt lt' rfl),up (over33d hs' hs lt' lt e2),up (same32d hs hs' lt lt' ?_),fun g hg=>up (over33d (appG_sok hg.chk hg.kind hs) (appG_sok hg.chk hg.kind hs') true true (ov_gate hs hs' hg)),a4,b4,k1,k2,?_⟩
 ·rw [Bool.eq_iff_iff,decide_eq_true_iff,beq_iff_eq]
  exact same_iff hs hs'
 ·rw [e1]
  rcases ovl_vec hs.hi (sok_sta r1.1) (sok_sta r2.1) h1 h2 with h|⟨m,m1,m2,m3⟩
  ·exact .inl h
  ·refine .inr ⟨m,m1,m2,?_⟩
   rw [Int.natCast_pow,Int.natCast_pow] at m3
   exact m3
theorem chk12:chkFn Tryz.f12=true:=by kernel_rfl
set_option maxHeartbeats 8000000 in
theorem overlapped12 (bs:List Int) (t:Bool) (bs2:List Int) (t2:Bool) (nr:Bool):PC Pr GK 12 [bytesD bs t,bytesD bs2 t2,.bool nr] (.bool true):=by
 have c15:=up awake_c
 have hnr:nr=true\/nr=false:=by cases nr <;> simp
 have z0:((0:Int) != 0)=false:=rfl
 refine pc_walkR pok 8 Tryz.func12 chk12 ?_
 conv=>whnf
 skip
 refine of_useN ?_
 intro a u ha
 conv=>whnf
 skip
 refine of_useN ?_
 intro b v hb
 conv=>whnf
 skip
 have k1:=(sc63 a u 1 4 (by decide) (by omega) (by decide) (by decide)).k
 refine sk_useN (sn:=0) (nx:=0) (st:=2463534242) k1 (by decide) (by decide) rfl ?_
 intro w st1 nx1 b1 hw8
 conv=>whnf
 skip
 have hw:1<=w/\w<=12:=⟨hw8.1,by omega⟩
 have k2:=sk64 a u w 16 hw (by decide) (by omega)
 refine sk_useN (sn:=0) (nx:=nx1) (st:=st1) k2 (by decide) (by omega) rfl ?_
 rintro ⟨l,lt⟩ st2 nx2 b2 hs
 dsimp only at hs ⊢
 conv=>whnf
 repeat' first|((first|refine LookP.mk _ rfl ?_|refine ShlP.mk _ (by first|(simp only [List.set,over,List.take,List.drop,List.append_eq,List.nil_append,List.cons_append,List.length];rfl)|rfl) ?_|refine HpP.force ?_);conv=>whnf)
 have k3:=sk64 b v w 16 hw (by decide) (by omega)
 refine sk_useN (sn:=1) (nx:=0) (st:=2463534242) k3 (by decide) (by omega) rfl ?_
 rintro ⟨l2,lt2⟩ st3 nx3 b3 hs2
 dsimp only at hs2 ⊢
 have k65:=(sc65 a u w hw (by omega)).k
 rcases hnr with e|e
 ·rw [e]
  conv=>whnf
  repeat' first|((first|refine LookP.mk _ rfl ?_|refine ShlP.mk _ (by first|(simp only [List.set,over,List.take,List.drop,List.append_eq,List.nil_append,List.cons_append,List.length];rfl)|rfl) ?_|refine HpP.force ?_);conv=>whnf)
  refine reg12c (by kernel_rfl) hw (show b.length<=1000 by omega) (show nx3+13<=4611686018427387904 by omega) hs rfl rfl rfl rfl rfl rfl rfl rfl rfl (below1 rfl) (below1 rfl) ?_
  intro g0 hg0
  have hs3:=appG_sok hg0.chk hg0.kind hs
  generalize appG w g0 l=l' at hs3
  obtain ⟨n,va,vb,ka,kb,hO⟩:=ov_facts hs hs3 (show w<=6 by omega) lt true
  obtain ⟨cV,cV',cO,cO',cS,cG,a4,b4,hka,hkb,his⟩:=hO
  have hnn:(n != n)=false:=by simp
  have hn1:decide (n < -1)=false:=decide_eq_false (by rcases his with h|⟨m,_,h,_⟩ <;> omega)
  have hnw:decide (n>(w:Int))=false:=decide_eq_false (by rcases his with h|⟨m,h1,h,_⟩ <;> omega)
  obtain ⟨z,hz⟩:∃ z,(n==0)=z:=⟨_,rfl⟩
  have hzz:(!(z==z))=false:=by simp
  rw [hz] at cS
  have hsh:ishl .i64 1 (w:Int)=((2^w:Nat):Int):=pow_nat (by omega)
  have hw0:(0:Int)<=(w:Int):=Int.natCast_nonneg _
  have lA:=vc_len va ka (2^w)
  have lB:=vc_len vb kb (2^w)
  have gA:∀ q:Nat,q<2^w->(vcL va ka (2^w))[(q:Int).toNat]?=some (amL (va q) ka):=fun q hq=>vc_get hq
  have gB:∀ q:Nat,q<2^w->(vcL vb kb (2^w))[(q:Int).toNat]?=some (amL (vb q) kb):=fun q hq=>vc_get hq
  generalize vcL va ka (2^w)=V at cV lA gA
  generalize vcL vb kb (2^w)=U at cV' lB gB
  have hl1:(((V.length:Nat):Int) != ((2^w:Nat):Int))=false:=by rw [lA];simp
  have hl2:(((U.length:Nat):Int) != ((V.length:Nat):Int))=false:=by rw [lA,lB];simp
  have hp16:2^w<=16:=Nat.pow_le_pow_right (n:=2) (by decide) hw8.2
  obtain ⟨f,hf⟩:∃ f:Nat->Cx,f=fun k=>cip (vecC va k) (vecC vb k):=⟨_,rfl⟩
  have hfb:∀ k,P4.Bd 1 (emb (f k)):=fun k=>by rw [hf];exact cip_bd (va k) (vb k)
  conv=>whnf
  repeat' first|((first|refine LookP.mk _ rfl ?_|refine ShlP.mk _ (by first|(simp only [List.set,over,List.take,List.drop,List.append_eq,List.nil_append,List.cons_append,List.length];rfl)|rfl) ?_|refine And.intro (by first|exact hw0|assumption|exact ⟨by kernel_rfl,rfl⟩|decide|omega) ?_|refine pc_use cV ?_|refine pc_use (cV') ?_|refine pc_use cO ?_|refine pc_use (cO') ?_|refine pc_use cS ?_|refine knownB z0 ?_|rw [hnn]|rw [hn1]|rw [hnw]|refine knownB hz ?_|rw [hzz]|rw [hsh]|rw [hl1]|rw [hl2]|refine HpP.force ?_);conv=>whnf)
  refine for_use pok (fun i=>⟨[(7,.ptr 0 3 0 0),(9,.d (iD w)),(10,.ptr 2 2 0 0),(12,.ptr 3 2 0 0),(16,.d (iD n)),(19,.d (iD 0)),(20,.d (.sl V false)),(22,.d (.sl U false)),(26,.ptr 5 5 0 0),(159,.d (iD V.length)),(160,.d (iD i))],[(0,some (storeB a u nx2 st2)),(2,some (.arr 2 [[.d (iD w),.d (rowsD l lt)]])),(3,some (.arr 2 [[.d (iD w),.d (rowsD l' true)]])),(5,some (.arr 5 [nmE (P4.lsz (ka+kb) (emb (sq i f)))]))],6⟩) (V.length) (fun _=>True) (trivial) ?_ (by kernel_rfl) ?_ ?_
  ·refine keep_env (by first|exact Nat.zero_le _|exact Nat.le_of_ble_eq_true rfl) ?_ ?_ trivial
   ·repeat' first|exact trivial|refine ⟨⟨by first|rfl|assumption,rfl⟩,?_⟩
   ·repeat' first|exact trivial|refine ⟨⟨ltB rfl,_,rfl,by first|rfl|assumption,by first|exact below1 rfl|exact below_dblk _ _ _|exact below_arr rfl⟩,?_⟩
  ·intro i A_i h_i I_i N_i
   have e_i:iadd .i64 (i:Int) 1=((i+1:Nat):Int):=iadd_nat (by first|omega|(simp at *;omega))
   have hgA:=gA i (by omega)
   have hgB:=gB i (by omega)
   have cJ:=conjA (G:=GK) (m:=ka) (a4 i) (by omega)
   have cM:=mulA (G:=GK) (v:=va i) (m:=ka) (m':=kb) (b4 i) (by omega) (by omega)
   have cA:=addA (G:=GK) (S:=sq i f) (y:=f i) (K:=ka+kb) (by omega) ((sq_bd hfb i).mono (by omega)) ((hfb i).mono (by omega))
   have eA:=am_nD (m:=ka) (a4 i)
   have eB:=am_nD (m:=kb) (b4 i)
   rw [eA] at cJ
   rw [eB] at cM
   rw [show amL (va i) ka=_ from D.agg.inj eA] at hgA
   rw [show amL (vb i) kb=_ from D.agg.inj eB] at hgB
   have ef:f i=cip (amC (va i)) (amC (vb i)):=by rw [hf];rfl
   rw [<- ef] at cM
   have eS:sq (i+1) f=cadd (sq i f) (f i):=rfl
   rw [eS] at N_i
   generalize P4.lsz (ka+kb) (emb (cadd (sq i f) (f i)))=s2 at cA N_i
   generalize P4.lsz (ka+kb) (emb (sq i f))=s1 at cA ⊢
   generalize P4.lsz (ka+kb) (emb (f i))=y at cM cA
   generalize (emb (amC (va i))).con=x2 at cJ cM
   generalize emb (amC (va i))=x at hgA cJ
   generalize emb (amC (vb i))=z at hgB cM
   generalize ek (va i) ka=e1 at hgA cJ cM
   generalize ek (vb i) kb=e2 at hgB cM
   conv=>whnf
   repeat (refine LookP.mk _ rfl ?_;conv=>whnf)
   intro t ht
   cases t
   ·exfalso;first|(simp at ht;done)|(simp at ht;omega)
   conv=>whnf
   repeat' first|((first|refine LookP.mk _ (by first|rfl|exact hgA|exact hgB) ?_|refine ShlP.mk _ (by first|(simp only [List.set,over,List.take,List.drop,List.append_eq,List.nil_append,List.cons_append,List.length];rfl)|rfl) ?_|refine And.intro (by first|assumption|exact ⟨by kernel_rfl,rfl⟩|decide|omega) ?_|refine pc_use cJ ?_|refine pc_head cM ?_|refine pc_use cA ?_|refine knownB z0 ?_|refine HpP.force ?_);conv=>whnf)
   refine N_i _ ?_ ?_
   ·first|trivial|assumption|omega
   ·refine keep_env (by first|exact Nat.zero_le _|exact Nat.le_of_ble_eq_true rfl) ?_ ?_ trivial
    ·repeat' first|exact trivial|refine ⟨⟨by first|rfl|assumption|exact congrArg (fun n=>AV.d (iD n)) e_i,rfl⟩,?_⟩
    ·repeat' first|exact trivial|refine ⟨⟨ltB rfl,_,rfl,by first|rfl|assumption,by first|exact below1 rfl|exact below_dblk _ _ _|exact below_arr rfl⟩,?_⟩
  ·intro A_last I_last
   have eI:sq V.length f=inn w (vecC va) (vecC vb):=by rw [lA,sq_sm,hf];rfl
   have hbI:=sq_bd hfb V.length
   rw [eI] at hbI ⊢
   generalize inn w (vecC va) (vecC vb)=I at his hbI ⊢
   have hbI:=hbI.mono (show ((V.length:Nat):Int)<=500 by omega)
   rcases his with ⟨rfl,rfl⟩|⟨m,hm,rfl,h2⟩
   ·have c77:=norm0 (G:=GK)
    have hge:decide ((-1:Int)>=0)=false:=by decide
    have hzz:(!([(0:Int),0,0,0,0]==[0,0,0,0,0]))=false:=rfl
    rw [show P4.lsz (ka+kb) (emb (0,0))=(P4.z,0) from rfl]
    conv=>whnf
    repeat (refine LookP.mk _ rfl ?_;conv=>whnf)
    intro t ht
    cases t
    rotate_left
    ·exfalso;first|(simp at ht;done)|(simp at ht;omega)
    conv=>whnf
    repeat' first|((first|refine LookP.mk _ rfl ?_|refine ShlP.mk _ (by first|(simp only [List.set,over,List.take,List.drop,List.append_eq,List.nil_append,List.cons_append,List.length];rfl)|rfl) ?_|refine pc_use c77 ?_|refine knownB z0 ?_|refine HpP.force ?_);conv=>whnf)
    refine sk_useN (sn:=0) (nx:=nx2) (st:=st2) k65 (by decide) (by omega) rfl ?_
    intro g st4 nx4 b4 hg
    have cX:=apply47d hs hg lt
    have cY:=apply47d hs3 hg true
    have cZ:=cG g hg
    generalize appG w g l=m1 at cX cZ
    generalize appG w g l'=m2 at cY cZ
    have hee:((-1:Int) == -1)=true:=by decide
    conv=>whnf
    repeat' first|((first|refine LookP.mk _ rfl ?_|refine ShlP.mk _ (by first|(simp only [List.set,over,List.take,List.drop,List.append_eq,List.nil_append,List.cons_append,List.length];rfl)|rfl) ?_|refine pc_use cX ?_|refine pc_use cY ?_|refine pc_use cZ ?_|refine pc_use c15 ?_|rw [hee]|refine HpP.force ?_);conv=>whnf)|(intro t ht;cases t <;> conv=>whnf)
    all_goals first|exact fin rfl|(exfalso;simp at ht;done)
   ·have c77:=normA (G:=GK) (n:=m) (by omega) hbI h2
    have c78:=up (root78 (m:=2*m) (by omega))
    obtain ⟨x0,x1,x2,x3,x4,hx⟩:=am_ex (some 0) (2*m)
    unfold amD at c77 c78
    rw [hx] at c77 c78
    have hge:decide (((m:Nat):Int)>=0)=true:=decide_eq_true (by omega)
    have e2m:imul .i64 2 (m:Int)=((2*m:Nat):Int):=imul_nat (a:=2) (by omega)
    have hxx:(!([x0,x1,x2,x3,x4]==[x0,x1,x2,x3,x4]))=false:=by simp
    generalize P4.lsz (ka+kb) (emb I)=s1 at c77 ⊢
    conv=>whnf
    repeat (refine LookP.mk _ rfl ?_;conv=>whnf)
    intro t ht
    cases t
    rotate_left
    ·exfalso;first|(simp at ht;done)|(simp at ht;omega)
    conv=>whnf
    repeat' first|((first|refine LookP.mk _ rfl ?_|refine ShlP.mk _ (by first|(simp only [List.set,over,List.take,List.drop,List.append_eq,List.nil_append,List.cons_append,List.length];rfl)|rfl) ?_|refine pc_use c77 ?_|refine knownB z0 ?_|refine knownB hge ?_|rw [e2m]|refine pc_use c78 ?_|refine knownB hxx ?_|refine HpP.force ?_);conv=>whnf)
    refine sk_useN (sn:=0) (nx:=nx2) (st:=st2) k65 (by decide) (by omega) rfl ?_
    intro g st4 nx4 b4 hg
    have cX:=apply47d hs hg lt
    have cY:=apply47d hs3 hg true
    have cZ:=cG g hg
    generalize appG w g l=m1 at cX cZ
    generalize appG w g l'=m2 at cY cZ
    have hee:(((m:Nat):Int)==((m:Nat):Int))=true:=by simp
    conv=>whnf
    repeat' first|((first|refine LookP.mk _ rfl ?_|refine ShlP.mk _ (by first|(simp only [List.set,over,List.take,List.drop,List.append_eq,List.nil_append,List.cons_append,List.length];rfl)|rfl) ?_|refine pc_use cX ?_|refine pc_use cY ?_|refine pc_use cZ ?_|refine pc_use c15 ?_|rw [hee]|refine HpP.force ?_);conv=>whnf)|(intro t ht;cases t <;> conv=>whnf)
    all_goals first|exact fin rfl|(exfalso;simp at ht;done)
 ·rw [e]
  have hs3:=hs2
  generalize l2=l' at hs3 ⊢
  obtain ⟨n,va,vb,ka,kb,hO⟩:=ov_facts hs hs3 (show w<=6 by omega) lt lt2
  obtain ⟨cV,cV',cO,cO',cS,cG,a4,b4,hka,hkb,his⟩:=hO
  have hnn:(n != n)=false:=by simp
  have hn1:decide (n < -1)=false:=decide_eq_false (by rcases his with h|⟨m,_,h,_⟩ <;> omega)
  have hnw:decide (n>(w:Int))=false:=decide_eq_false (by rcases his with h|⟨m,h1,h,_⟩ <;> omega)
  obtain ⟨z,hz⟩:∃ z,(n==0)=z:=⟨_,rfl⟩
  have hzz:(!(z==z))=false:=by simp
  rw [hz] at cS
  have hsh:ishl .i64 1 (w:Int)=((2^w:Nat):Int):=pow_nat (by omega)
  have hw0:(0:Int)<=(w:Int):=Int.natCast_nonneg _
  have lA:=vc_len va ka (2^w)
  have lB:=vc_len vb kb (2^w)
  have gA:∀ q:Nat,q<2^w->(vcL va ka (2^w))[(q:Int).toNat]?=some (amL (va q) ka):=fun q hq=>vc_get hq
  have gB:∀ q:Nat,q<2^w->(vcL vb kb (2^w))[(q:Int).toNat]?=some (amL (vb q) kb):=fun q hq=>vc_get hq
  generalize vcL va ka (2^w)=V at cV lA gA
  generalize vcL vb kb (2^w)=U at cV' lB gB
  have hl1:(((V.length:Nat):Int) != ((2^w:Nat):Int))=false:=by rw [lA];simp
  have hl2:(((U.length:Nat):Int) != ((V.length:Nat):Int))=false:=by rw [lA,lB];simp
  have hp16:2^w<=16:=Nat.pow_le_pow_right (n:=2) (by decide) hw8.2
  obtain ⟨f,hf⟩:∃ f:Nat->Cx,f=fun k=>cip (vecC va k) (vecC vb k):=⟨_,rfl⟩
  have hfb:∀ k,P4.Bd 1 (emb (f k)):=fun k=>by rw [hf];exact cip_bd (va k) (vb k)
  conv=>whnf
  repeat' first|((first|refine LookP.mk _ rfl ?_|refine ShlP.mk _ (by first|(simp only [List.set,over,List.take,List.drop,List.append_eq,List.nil_append,List.cons_append,List.length];rfl)|rfl) ?_|refine And.intro (by first|exact hw0|assumption|exact ⟨by kernel_rfl,rfl⟩|decide|omega) ?_|refine pc_use cV ?_|refine pc_use (cV') ?_|refine pc_use cO ?_|refine pc_use (cO') ?_|refine pc_use cS ?_|refine knownB z0 ?_|rw [hnn]|rw [hn1]|rw [hnw]|refine knownB hz ?_|rw [hzz]|rw [hsh]|rw [hl1]|rw [hl2]|refine HpP.force ?_);conv=>whnf)
  refine for_use pok (fun i=>⟨[(7,.ptr 0 3 0 0),(9,.d (iD w)),(10,.ptr 2 2 0 0),(12,.ptr 3 2 0 0),(16,.d (iD n)),(19,.d (iD 0)),(20,.d (.sl V false)),(22,.d (.sl U false)),(26,.ptr 4 5 0 0),(159,.d (iD V.length)),(160,.d (iD i))],[(0,some (storeB a u nx2 st2)),(2,some (.arr 2 [[.d (iD w),.d (rowsD l lt)]])),(3,some (.arr 2 [[.d (iD w),.d (rowsD l' lt2)]])),(4,some (.arr 5 [nmE (P4.lsz (ka+kb) (emb (sq i f)))]))],5⟩) (V.length) (fun _=>True) (trivial) ?_ (by kernel_rfl) ?_ ?_
  ·refine keep_env (by first|exact Nat.zero_le _|exact Nat.le_of_ble_eq_true rfl) ?_ ?_ trivial
   ·repeat' first|exact trivial|refine ⟨⟨by first|rfl|assumption,rfl⟩,?_⟩
   ·repeat' first|exact trivial|refine ⟨⟨ltB rfl,_,rfl,by first|rfl|assumption,by first|exact below1 rfl|exact below_dblk _ _ _|exact below_arr rfl⟩,?_⟩
  ·intro i A_i h_i I_i N_i
   have e_i:iadd .i64 (i:Int) 1=((i+1:Nat):Int):=iadd_nat (by first|omega|(simp at *;omega))
   have hgA:=gA i (by omega)
   have hgB:=gB i (by omega)
   have cJ:=conjA (G:=GK) (m:=ka) (a4 i) (by omega)
   have cM:=mulA (G:=GK) (v:=va i) (m:=ka) (m':=kb) (b4 i) (by omega) (by omega)
   have cA:=addA (G:=GK) (S:=sq i f) (y:=f i) (K:=ka+kb) (by omega) ((sq_bd hfb i).mono (by omega)) ((hfb i).mono (by omega))
   have eA:=am_nD (m:=ka) (a4 i)
   have eB:=am_nD (m:=kb) (b4 i)
   rw [eA] at cJ
   rw [eB] at cM
   rw [show amL (va i) ka=_ from D.agg.inj eA] at hgA
   rw [show amL (vb i) kb=_ from D.agg.inj eB] at hgB
   have ef:f i=cip (amC (va i)) (amC (vb i)):=by rw [hf];rfl
   rw [<- ef] at cM
   have eS:sq (i+1) f=cadd (sq i f) (f i):=rfl
   rw [eS] at N_i
   generalize P4.lsz (ka+kb) (emb (cadd (sq i f) (f i)))=s2 at cA N_i
   generalize P4.lsz (ka+kb) (emb (sq i f))=s1 at cA ⊢
   generalize P4.lsz (ka+kb) (emb (f i))=y at cM cA
   generalize (emb (amC (va i))).con=x2 at cJ cM
   generalize emb (amC (va i))=x at hgA cJ
   generalize emb (amC (vb i))=z at hgB cM
   generalize ek (va i) ka=e1 at hgA cJ cM
   generalize ek (vb i) kb=e2 at hgB cM
   conv=>whnf
   repeat (refine LookP.mk _ rfl ?_;conv=>whnf)
   intro t ht
   cases t
   ·exfalso;first|(simp at ht;done)|(simp at ht;omega)
   conv=>whnf
   repeat' first|((first|refine LookP.mk _ (by first|rfl|exact hgA|exact hgB) ?_|refine ShlP.mk _ (by first|(simp only [List.set,over,List.take,List.drop,List.append_eq,List.nil_append,List.cons_append,List.length];rfl)|rfl) ?_|refine And.intro (by first|assumption|exact ⟨by kernel_rfl,rfl⟩|decide|omega) ?_|refine pc_use cJ ?_|refine pc_head cM ?_|refine pc_use cA ?_|refine knownB z0 ?_|refine HpP.force ?_);conv=>whnf)
   refine N_i _ ?_ ?_
   ·first|trivial|assumption|omega
   ·refine keep_env (by first|exact Nat.zero_le _|exact Nat.le_of_ble_eq_true rfl) ?_ ?_ trivial
    ·repeat' first|exact trivial|refine ⟨⟨by first|rfl|assumption|exact congrArg (fun n=>AV.d (iD n)) e_i,rfl⟩,?_⟩
    ·repeat' first|exact trivial|refine ⟨⟨ltB rfl,_,rfl,by first|rfl|assumption,by first|exact below1 rfl|exact below_dblk _ _ _|exact below_arr rfl⟩,?_⟩
  ·intro A_last I_last
   have eI:sq V.length f=inn w (vecC va) (vecC vb):=by rw [lA,sq_sm,hf];rfl
   have hbI:=sq_bd hfb V.length
   rw [eI] at hbI ⊢
   generalize inn w (vecC va) (vecC vb)=I at his hbI ⊢
   have hbI:=hbI.mono (show ((V.length:Nat):Int)<=500 by omega)
   rcases his with ⟨rfl,rfl⟩|⟨m,hm,rfl,h2⟩
   ·have c77:=norm0 (G:=GK)
    have hge:decide ((-1:Int)>=0)=false:=by decide
    have hzz:(!([(0:Int),0,0,0,0]==[0,0,0,0,0]))=false:=rfl
    rw [show P4.lsz (ka+kb) (emb (0,0))=(P4.z,0) from rfl]
    conv=>whnf
    repeat (refine LookP.mk _ rfl ?_;conv=>whnf)
    intro t ht
    cases t
    rotate_left
    ·exfalso;first|(simp at ht;done)|(simp at ht;omega)
    conv=>whnf
    repeat' first|((first|refine LookP.mk _ rfl ?_|refine ShlP.mk _ (by first|(simp only [List.set,over,List.take,List.drop,List.append_eq,List.nil_append,List.cons_append,List.length];rfl)|rfl) ?_|refine pc_use c77 ?_|refine knownB z0 ?_|refine HpP.force ?_);conv=>whnf)
    refine sk_useN (sn:=0) (nx:=nx2) (st:=st2) k65 (by decide) (by omega) rfl ?_
    intro g st4 nx4 b4 hg
    have cX:=apply47d hs hg lt
    have cY:=apply47d hs3 hg lt2
    have cZ:=cG g hg
    generalize appG w g l=m1 at cX cZ
    generalize appG w g l'=m2 at cY cZ
    have hee:((-1:Int) == -1)=true:=by decide
    conv=>whnf
    repeat' first|((first|refine LookP.mk _ rfl ?_|refine ShlP.mk _ (by first|(simp only [List.set,over,List.take,List.drop,List.append_eq,List.nil_append,List.cons_append,List.length];rfl)|rfl) ?_|refine pc_use cX ?_|refine pc_use cY ?_|refine pc_use cZ ?_|refine pc_use c15 ?_|rw [hee]|refine HpP.force ?_);conv=>whnf)|(intro t ht;cases t <;> conv=>whnf)
    all_goals first|exact fin rfl|(exfalso;simp at ht;done)
   ·have c77:=normA (G:=GK) (n:=m) (by omega) hbI h2
    have c78:=up (root78 (m:=2*m) (by omega))
    obtain ⟨x0,x1,x2,x3,x4,hx⟩:=am_ex (some 0) (2*m)
    unfold amD at c77 c78
    rw [hx] at c77 c78
    have hge:decide (((m:Nat):Int)>=0)=true:=decide_eq_true (by omega)
    have e2m:imul .i64 2 (m:Int)=((2*m:Nat):Int):=imul_nat (a:=2) (by omega)
    have hxx:(!([x0,x1,x2,x3,x4]==[x0,x1,x2,x3,x4]))=false:=by simp
    generalize P4.lsz (ka+kb) (emb I)=s1 at c77 ⊢
    conv=>whnf
    repeat (refine LookP.mk _ rfl ?_;conv=>whnf)
    intro t ht
    cases t
    rotate_left
    ·exfalso;first|(simp at ht;done)|(simp at ht;omega)
    conv=>whnf
    repeat' first|((first|refine LookP.mk _ rfl ?_|refine ShlP.mk _ (by first|(simp only [List.set,over,List.take,List.drop,List.append_eq,List.nil_append,List.cons_append,List.length];rfl)|rfl) ?_|refine pc_use c77 ?_|refine knownB z0 ?_|refine knownB hge ?_|rw [e2m]|refine pc_use c78 ?_|refine knownB hxx ?_|refine HpP.force ?_);conv=>whnf)
    refine sk_useN (sn:=0) (nx:=nx2) (st:=st2) k65 (by decide) (by omega) rfl ?_
    intro g st4 nx4 b4 hg
    have cX:=apply47d hs hg lt
    have cY:=apply47d hs3 hg lt2
    have cZ:=cG g hg
    generalize appG w g l=m1 at cX cZ
    generalize appG w g l'=m2 at cY cZ
    have hee:(((m:Nat):Int)==((m:Nat):Int))=true:=by simp
    conv=>whnf
    repeat' first|((first|refine LookP.mk _ rfl ?_|refine ShlP.mk _ (by first|(simp only [List.set,over,List.take,List.drop,List.append_eq,List.nil_append,List.cons_append,List.length];rfl)|rfl) ?_|refine pc_use cX ?_|refine pc_use cY ?_|refine pc_use cZ ?_|refine pc_use c15 ?_|rw [hee]|refine HpP.force ?_);conv=>whnf)|(intro t ht;cases t <;> conv=>whnf)
    all_goals first|exact fin rfl|(exfalso;simp at ht;done)
end Go.Tz
