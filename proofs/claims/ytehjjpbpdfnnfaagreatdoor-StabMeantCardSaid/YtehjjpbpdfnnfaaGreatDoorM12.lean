import Derived.Test.YtehjjpbpdfnnfaaGreatDoorM00
import Derived.Test.YtehjjpbpdfnnfaaGreatDoorM11
namespace Go.Tz
open Go Go.AL Go.Proofs
variable{w:Nat}
abbrev nmL(s:P4×Nat):List D:=[iD s.1.a,iD s.1.b,iD s.1.c,iD s.1.d,iD s.2]
abbrev vN(l:List (P4×Nat))(t:Bool):D:=.sl (l.map nmL) t
def NumOk(s:P4×Nat):Prop:=s.2<=60/\P4.Bd 1073741824 s.1
theorem zug{l:List (P4×Nat)}{k:Nat}(h:k<l.length):(l.map nmL)[(k:Int).toNat]?=some (nmL l[k]):=by
 rw[Int.toNat_natCast,List.getElem?_map,List.getElem?_eq_getElem h];rfl
theorem vn_el(l:List (P4×Nat)):∀ el,el∈l.map nmL->el.length=5:=fun el h=>by
 obtain⟨k,_,rfl⟩:=List.mem_map.1 h;rfl
theorem vn_sc(l:List (P4×Nat)):(((l.map nmL).map (·.map AV.d)).all fun el=>el.all AV.scalar)=true:=by
 refine List.all_eq_true.2 fun el h=>?_
 obtain⟨x,hx,rfl⟩:=List.mem_map.1 h
 obtain⟨k,_,rfl⟩:=List.mem_map.1 hx
 rfl
theorem zp6{l:List (P4×Nat)}(h:∀ s,s∈l->NumOk s)(hl:l.length=2^w)(hw:w<=6)(t:Bool):PC Pr GK 158 [vN l t] (.tup [iD w,iD 0]):=by
 have hvl:(l.map nmL).length=2^w:=by rw[List.length_map,hl]
 have hg:∀ k:Nat,(hk:k<l.length)->(l.map nmL)[(k:Int).toNat]?=some (nmL l[k]):=fun k hk=>zug hk
 have hp:2^w<=64:=Nat.pow_le_pow_right (n:=2) qag hw
 unfold vN
 generalize l.map nmL=V at hvl hg⊢
 refine zai pok Tryz.func158 chk158 ?_
 conv=>whnf
 skip
 refine zef (σ:={ n:Nat // n<=w }) (fun s=>⟨[(0,.d (.sl V t)),(8,.d (iD s.1))],[],0⟩) (fun s=>w-s.1) ⟨0,Nat.zero_le _⟩ ?_ qah ?_
 ·exact qf2
 ·rintro⟨n,hn⟩ A hA
  dsimp only at hA⊢
  have e1:iadd .i64 (n:Int) 1=((n+1:Nat):Int):=zah (b:=1) qad
  have h7:decide ((n:Int)<7)=true:=decide_eq_true qad
  have hsh:ishl .i64 1 (n:Int)=((2^n:Nat):Int):=zcg qad
  by_cases e:n=w
  ·have hne:(((V.length:Nat):Int) != ((2^n:Nat):Int))=false:=by rw[hvl,e];simp
   conv=>whnf
   repeat' first|((first|refine And.intro qbp ?_|refine knownB h7 ?_|rw[hsh]|refine knownB hne ?_);conv=>whnf)
   refine zaq pok (fun k=>⟨[(4,.d (iD n)),(16,.d (.sl V t)),(17,.d (iD V.length)),(18,.d (iD k))],[],0⟩) (V.length) (fun _=>True) (trivial) ?_ qah ?_ ?_
   ·exact qf2
   ·intro k A_k h_k I_k N_k
    have e_k:iadd .i64 (k:Int) 1=((k+1:Nat):Int):=zah qbl
    have hgk:=hg k qad
    have hs:=h (l[k]'qad) (List.getElem_mem _)
    have cc:=zi2 (G:=GK) hs.1 hs.2
    generalize (l[k]'qad)=s at hgk cc
    have z0:((0:Int) != 0)=false:=rfl
    conv=>whnf
    repeat (refine LookP.mk _ rfl ?_;conv=>whnf)
    intro t ht
    cases t
    ·exact qbh
    conv=>whnf
    repeat' first|((first|refine LookP.mk _ (by first|rfl|exact hgk) ?_|refine ShlP.mk _ qaa ?_|refine And.intro qbi ?_|refine zak cc ?_|refine knownB z0 ?_|refine HpP.force ?_);conv=>whnf)
    refine N_k _ ?_ ?_
    ·exact qbj
    ·exact qf4
   ·intro A_last I_last
    conv=>whnf
    repeat (refine LookP.mk _ rfl ?_;conv=>whnf)
    intro t ht
    cases t
    rotate_left
    ·exact qbh
    conv=>whnf
    skip
    subst e
    exact fin rfl
  ·have hne:(((V.length:Nat):Int) != ((2^n:Nat):Int))=true:=by
    rw[hvl]
    have:2^n<2^w:=Nat.pow_lt_pow_right qag qad
    exact bne_iff_ne.2 fun q=>by have:=Int.ofNat.inj q;omega
   conv=>whnf
   repeat' first|((first|refine And.intro qbp ?_|refine knownB h7 ?_|rw[hsh]|refine knownB hne ?_);conv=>whnf)
   refine hA _ ⟨n+1,by omega⟩ ?_ (by show w-(n+1)<w-n;omega)
   refine zac qac ?_ ?_ trivial
   ·exact qar
   ·exact qab
theorem zmq{l:List (P4×Nat)}(h:∀ s,s∈l->NumOk s)(hl:l.length=2^w)(hw:w<=6)(t:Bool):PC Pr GK 163 [vN l t] (iD 0):=by
 have c:=zp6 h hl hw t
 refine zai pok Tryz.func163 chk163 ?_
 conv=>whnf
 repeat' first|(refine zak c ?_;conv=>whnf)
 exact fin rfl
theorem chk228:chkFn Tryz.f228=true:=qah
theorem least228g{s:P4×Nat}(h:NumOk s)(he:P4.lsz s.2 s.1=s):PC Pr GK 228 [.agg (nmL s)] (.tup [.agg (nmL s),iD 0]):=by
 have c1:=zi2 (G:=GK) h.1 h.2
 have c2:=zec (G:=GK) s.1 s.2
 have c3:=zku (G:=GK) h.1 h.2
 rw[he]at c3
 have z0:((0:Int) != 0)=false:=rfl
 refine zai pok Tryz.func228 chk228 ?_
 conv=>whnf
 repeat' first|((first|refine LookP.mk _ rfl ?_|refine ShlP.mk _ qaa ?_|refine zak c1 ?_|refine zak c2 ?_|refine zak c3 ?_|refine knownB z0 ?_|refine HpP.force ?_);conv=>whnf)
 exact fin rfl
theorem zl5{l:List (P4×Nat)}(h:∀ s,s∈l->NumOk s)(he:∀ s,s∈l->P4.lsz s.2 s.1=s)(hn:l.length<=64)(t:Bool):PO Pr GK 164 [vN l t] (.sl 0 5 0 l.length l.length true) [(0,some (dblk 5 (l.map nmL)))] 1:=by
 have hl:(l.map nmL).length=l.length:=List.length_map ..
 have hg:∀ k:Nat,(hk:k<l.length)->(l.map nmL)[(k:Int).toNat]?=some (nmL l[k]):=fun k hk=>zug hk
 have hs:∀ k,(hk:k<l.length)->(l.map nmL).set k (nmL l[k])=l.map nmL:=fun k hk=>by
  have e:nmL l[k]=(l.map nmL)[k]'(by rw[List.length_map];exact hk):=by rw[List.getElem_map]
  rw[e];exact List.set_getElem_self _
 have hel:=vn_el l
 have hsc:=vn_sc l
 unfold vN
 generalize l.map nmL=V at hl hel hsc hg hs⊢
 refine⟨za3 Tryz.func164 chk164,zaz (K:=fun v H _=>v = .sl 0 5 0 V.length V.length true/\H.get 0=some (dblk 5 V)) (za4 pok Tryz.func164 chk164 ?_) ?_⟩
 ·conv=>whnf
  repeat' first|((first|refine ShlP.mk _ (by first|exact zks qc3|rfl) ?_|(refine And.intro (by first|exact⟨Int.natCast_nonneg _,rfl,by show 40*((V.length:Nat):Int).toNat<=281474976710656;rw[Int.toNat_natCast];omega,by decide,by decide⟩|exact hel|exact qb4|assumption|exact⟨by kernel_rfl,rfl⟩|decide|omega) ?_)|rw[hsc]|refine HpP.force ?_);conv=>whnf)
  have eN:((V.length:Nat):Int).toNat=V.length:=Int.toNat_natCast _
  refine zaq pok (fun k=>⟨[(3,.sl 0 5 0 V.length V.length true),(12,.d (.sl V t)),(13,.d (iD V.length)),(14,.d (iD k))],[(0,some (dblk 5 V))],1⟩) (V.length) (fun _=>True) (trivial) ?_ qah ?_ ?_
  ·exact qf2
  ·intro k A_k h_k I_k N_k
   have e_k:iadd .i64 (k:Int) 1=((k+1:Nat):Int):=zah qbl
   have hgk:=hg k qad
   have hsk:=hs k qad
   have hok:=h (l[k]'qad) (List.getElem_mem _)
   have hle:=he (l[k]'qad) (List.getElem_mem _)
   generalize (l[k]'qad)=s at hgk hsk hok hle
   have cc:=least228g hok hle
   have hset:some (Blk.arr 5 ((V.map fun el=>el.map AV.d).set (0+((k:Nat):Int).toNat) ((nmL s).map AV.d)))=some (dblk 5 V):=by
    unfold dblk
    rw[Nat.zero_add,Int.toNat_natCast,<- List.map_set,hsk]
   have hgv:(V.map fun el=>el.map AV.d)[0+((k:Nat):Int).toNat]?=some ((nmL s).map AV.d):=by
    rw[Nat.zero_add,List.getElem?_map,hgk];rfl
   conv=>whnf
   repeat (refine LookP.mk _ rfl ?_;conv=>whnf)
   intro t ht
   cases t
   ·exact qbh
   conv=>whnf
   repeat' first|((first|refine LookP.mk _ (by first|rfl|exact hgk|exact hgv) ?_|refine ShlP.mk _ qaa ?_|refine And.intro qbi ?_|refine zak cc ?_|refine HpP.force ?_);conv=>whnf)
   refine N_k _ ?_ ?_
   ·exact qbj
   ·refine zac qac ?_ ?_ trivial
    ·exact qaj
    ·repeat' first|exact trivial|refine⟨⟨ltB rfl,_,rfl,by first|rfl|assumption|exact hset,by first|exact zae rfl|exact zaa _ _ _|exact zab rfl⟩,?_⟩
  ·exact qgs
 ·rintro v H n ⟨rfl,h4⟩
  refine⟨.sl 0 5 0 V.length V.length true,[(0,some (dblk 5 V))],1,?_,by rw[hl],rfl,rfl⟩
  exact zac (Nat.zero_le _) ⟨⟨rfl,rfl⟩,trivial⟩ ⟨⟨ltB rfl,_,rfl,h4,zaa _ _ _⟩,trivial⟩ trivial
theorem po_vn{f:FuncId}{ds:List D}{l:List (P4×Nat)}{t:Bool}(h:PO Pr GK f ds (.sl 0 5 0 l.length l.length t) [(0,some (dblk 5 (l.map nmL)))] 1):PC Pr GK f ds (vN l t):=by
 refine zck h.fn (zbc h.call ?_)
 rintro v H _ ⟨rfl,rfl,_⟩
 exact zda (zaf _ _ _) (by rw[List.length_map])
def zB(s:P4×Nat):Bool:=[s.1.a,s.1.b,s.1.c,s.1.d,(s.2:Int)]==[0,0,0,0,0]
theorem chk236:chkFn Tryz.f236=true:=qah
theorem zero236(s:P4×Nat):PC Pr GK 236 [.agg (nmL s)] (.bool (zB s)):=by
 refine zai pok Tryz.func236 chk236 ?_
 conv=>whnf
 repeat' first|(refine LookP.mk _ rfl ?_;conv=>whnf)|(intro t ht;cases t<;>conv=>whnf)
 all_goals (refine fin ?_;rw[zB,ht])
theorem chk267:chkFn Tryz.f267=true:=qah
theorem ev267(s:P4×Nat):PC Pr GK 267 [.agg (nmL s),.rop [.fn 236 [] []] 0] (.bool (!zB s)):=by
 have c:=zero236 s
 refine zai pok Tryz.func267 chk267 ?_
 conv=>whnf
 repeat' first|(refine LookP.mk _ rfl ?_;conv=>whnf)|(refine zhw c ?_)|(intro t ht;cases t<;>conv=>whnf)
 all_goals rw[ht];exact fin rfl
theorem chk276:chkFn Tryz.f276=true:=qah
theorem idx276(l:List (P4×Nat))(t:Bool)(f:FuncId)(first cap:List D)(p:P4×Nat->Bool)(hn:l.length<=1000)(hf:∀ q,q∈l->PC Pr GK f (first++[.agg (nmL q)]++cap) (.bool (p q))):PC Pr GK 276 [vN l t,.fn f first cap] (iD (idxI p l)):=by
 refine zai pok Tryz.func276 chk276 ?_
 conv=>whnf
 skip
 refine zaq pok (fun i=>⟨[(0,.d (vN l t)),(1,.d (.fn f first cap)),(7,.d (iD (l.map nmL).length)),(8,.d (iD i))],[],0⟩) (l.length) (fun i=>∀ q,q∈l.take i->p q=false) qc3 ?_ qah ?_ ?_
 ·exact qf2
 ·intro i A_i h_i I_i N_i
  have e_i:iadd .i64 (i:Int) 1=((i+1:Nat):Int):=zah qbl
  have hq:=hf l[i] (List.getElem_mem h_i)
  conv=>whnf
  repeat' first|((first|refine LookP.mk _ (by first|rfl|exact zug h_i) ?_|refine And.intro qbi ?_|rw[za2]|refine zbk hq rfl ?_);conv=>whnf)|(intro t ht;cases t<;>conv=>whnf)
  ·exact qbw
  ·exact qgu
  ·exact qhs
 ·exact qf7
theorem chk266:chkFn Tryz.f266=true:=qah
theorem has266(l:List (P4×Nat))(t:Bool)(f:FuncId)(first cap:List D)(p:P4×Nat->Bool)(hn:l.length<=1000)(hf:∀ q,q∈l->PC Pr GK f (first++[.agg (nmL q)]++cap) (.bool (p q))):PC Pr GK 266 [vN l t,.fn f first cap] (.bool (l.any p)):=by
 have hi:=idx276 l t f first cap p hn hf
 rw[<- zmd]
 generalize idxI p l=i at hi⊢
 refine zai pok Tryz.func266 chk266 ?_
 conv=>whnf
 repeat' first|(refine zak hi ?_;conv=>whnf)|(intro t ht;cases t<;>conv=>whnf)
 all_goals rw[ht];exact fin rfl
theorem chk235:chkFn Tryz.f235=true:=qah
theorem chk172:chkFn Tryz.f172=true:=qah
theorem zero172(l:List (P4×Nat))(t:Bool)(hn:l.length<=1000):PC Pr GK 172 [vN l t] (.bool (l.all zB)):=by
 have hi:=has266 l t 267 [] [.rop [.fn 236 [] []] 0] (fun q=>!zB q) hn fun q _=>ev267 q
 have hc:PC Pr GK 235 [vN l t,.fn 236 [] []] (.bool (l.all zB)):=by
  refine zai pok Tryz.func235 chk235 ?_
  conv=>whnf
  have e:l.all zB = !l.any (fun q=>!zB q):=by
   rw[List.all_eq_not_any_not]
  rw[e]
  repeat' first|(refine zb4 hi rfl ?_)|(intro t ht;cases t<;>conv=>whnf)
  all_goals rw[ht];exact fin rfl
 refine zai pok Tryz.func172 chk172 ?_
 conv=>whnf
 repeat' first|(refine zak hc ?_;conv=>whnf)
 exact fin rfl
end Go.Tz
namespace Go.Tz
open Go Go.AL Go.Proofs
abbrev zN:P4×Nat:=(P4.z,0)
def mkL(n o:Nat)(l:List (P4×Nat)):List (P4×Nat):=(List.range l.length).map fun k=>if k.testBit n=decide (o=1) then l.getD k zN else zN
def mkI(n o:Nat)(l:List (P4×Nat))(i:Nat):List (P4×Nat):=(List.range l.length).map fun k=>if k<i /\ ¬ k.testBit n=decide (o=1) then zN else l.getD k zN
theorem mkI_0(n o:Nat)(l:List (P4×Nat)):mkI n o l 0=l:=by
 unfold mkI
 refine List.ext_getElem qc3 fun i h1 h2=>?_
 simp[h2]
theorem mkI_all(n o:Nat)(l:List (P4×Nat)):mkI n o l l.length=mkL n o l:=by
 unfold mkI mkL
 refine List.map_congr_left fun k hk=>?_
 have:=List.mem_range.1 hk
 by_cases e:k.testBit n=decide (o=1)
 ·rw[if_neg fun h=>h.2 e,if_pos e]
 ·rw[if_pos ⟨this,e⟩,if_neg e]
theorem mkI_keep{n o:Nat}{l:List (P4×Nat)}{i:Nat}(h:i.testBit n=decide (o=1)):mkI n o l (i+1)=mkI n o l i:=by
 unfold mkI
 refine List.map_congr_left fun k _=>?_
 by_cases e:k=i
 ·subst e;rw[if_neg fun q=>q.2 h,if_neg fun q=>q.2 h]
 ·have:(k<i+1) ↔ (k<i):=by omega
  simp only[this]
theorem mkI_set{n o:Nat}{l:List (P4×Nat)}{i:Nat}(hi:i<l.length)(h:¬ i.testBit n=decide (o=1)):mkI n o l (i+1)=(mkI n o l i).set i zN:=by
 unfold mkI
 refine List.ext_getElem qc3 fun k h1 h2=>?_
 simp only[List.getElem_set,List.getElem_map,List.getElem_range]
 by_cases e:i=k
 ·subst e;rw[if_pos ⟨by omega,h⟩,if_pos rfl]
 ·rw[if_neg e]
  have:(k<i+1) ↔ (k<i):=qad
  simp only[this]
theorem bits64{r n:Nat}(hr:r<64)(hn:n<6):iand .i64 (ishr .i64 (r:Int) (n:Int)) 1=((r.testBit n).toNat:Nat):=by
 have h:((List.range 64).all fun r:Nat=>(List.range 6).all fun n:Nat=>decide (iand .i64 (ishr .i64 (r:Int) (n:Int)) 1=((r.testBit n).toNat:Nat)))=true:=qah
 exact of_decide_eq_true (List.all_eq_true.1 (List.all_eq_true.1 h r (List.mem_range.2 hr)) n (List.mem_range.2 hn))
theorem chk233:chkFn Tryz.f233=true:=qah
theorem found233{l:List (P4×Nat)}{n o:Nat}(h:∀ s,s∈l->NumOk s)(he:∀ s,s∈l->P4.lsz s.2 s.1=s)(hN:l.length<=64)(hn:n<6)(ho:o<=1)(t:Bool):PC Pr GK 233 [vN l t,iD n,iD o] (vN (mkL n o l) true):=by
 have c:=zl5 h he hN t
 have hlen:∀ i,(mkI n o l i).length=l.length:=fun i=>by unfold mkI;simp
 have hml:(mkL n o l).length=l.length:=by unfold mkL;simp
 refine po_vn ⟨za3 Tryz.func233 chk233,zaz (K:=fun v H _=>v = .sl 0 5 0 l.length l.length true/\H.get 0=some (dblk 5 ((mkL n o l).map nmL))) (za4 pok Tryz.func233 chk233 ?_) ?_⟩
 ·conv=>whnf
  repeat' first|(refine zlx c ?_;conv=>whnf)
  refine zaq pok (fun i=>⟨[(1,.d (iD n)),(2,.d (iD o)),(7,.sl 0 5 0 l.length l.length true),(12,.d (iD l.length)),(13,.d (iD i))],[(0,some (dblk 5 ((mkI n o l i).map nmL)))],1⟩) (l.length) (fun _=>True) (trivial) ?_ qah ?_ ?_
  ·refine zac qac ?_ ?_ trivial
   ·exact qae
   ·repeat' first|exact trivial|refine⟨⟨ltB rfl,_,rfl,by first|rfl|assumption|(rw[mkI_0];exact congrArg some (zbf _ _ _)),by first|exact zae rfl|exact zaa _ _ _|exact zab rfl⟩,?_⟩
  ·intro i A_i h_i I_i N_i
   have e_i:iadd .i64 (i:Int) 1=((i+1:Nat):Int):=zah qbl
   have hb:=bits64 (r:=i) (n:=n) qad hn
   have hnn:(0:Int)<=(n:Int):=Int.natCast_nonneg _
   by_cases e:i.testBit n=decide (o=1)
   ·have hne:(((i.testBit n).toNat:Int) != (o:Int))=false:=by
     rw[e]
     have:o=0\/o=1:=qad
     rcases this with rfl|rfl<;>rfl
    conv=>whnf
    repeat (refine LookP.mk _ rfl ?_;conv=>whnf)
    intro t ht
    cases t
    ·exact qbh
    conv=>whnf
    repeat' first|((first|refine And.intro qbx ?_|rw[hb]|refine knownB hne ?_);conv=>whnf)
    refine N_i _ ?_ ?_
    ·exact qbj
    ·refine zac qac ?_ ?_ trivial
     ·exact qai
     ·repeat' first|exact trivial|refine⟨⟨ltB rfl,_,rfl,by first|rfl|assumption|(rw[mkI_keep e];rfl),by first|exact zae rfl|exact zaa _ _ _|exact zab rfl⟩,?_⟩
   ·have hne:(((i.testBit n).toNat:Int) != (o:Int))=true:=by
     have:o=0\/o=1:=qad
     rcases this with rfl|rfl<;>(revert e;cases i.testBit n<;>simp)
    have hset:=mkI_set h_i e
    have hl2:=hlen i
    have hgv:(((mkI n o l i).map nmL).map fun el=>el.map AV.d)[0+((i:Nat):Int).toNat]?=some ((nmL ((mkI n o l i)[i]'qad)).map AV.d):=by
     rw[Nat.zero_add,Int.toNat_natCast,List.getElem?_map,List.getElem?_map,List.getElem?_eq_getElem qad];rfl
    have hs:some (Blk.arr 5 ((((mkI n o l i).map nmL).map fun el=>el.map AV.d).set (0+((i:Nat):Int).toNat) ((nmL zN).map AV.d)))=some (dblk 5 ((mkI n o l (i+1)).map nmL)):=by
     unfold dblk
     rw[hset,Nat.zero_add,Int.toNat_natCast,List.map_set,List.map_set]
    conv=>whnf
    repeat (refine LookP.mk _ rfl ?_;conv=>whnf)
    intro t ht
    cases t
    ·exact qbh
    conv=>whnf
    repeat' first|((first|refine LookP.mk _ (by first|rfl|exact hgv) ?_|refine ShlP.mk _ rfl ?_|refine And.intro qbx ?_|rw[hb]|refine knownB hne ?_|refine HpP.force ?_);conv=>whnf)
    refine N_i _ ?_ ?_
    ·exact qbj
    ·refine zac qac ?_ ?_ trivial
     ·exact qai
     ·repeat' first|exact trivial|refine⟨⟨ltB rfl,_,rfl,by first|rfl|assumption|exact hs,by first|exact zae rfl|exact zaa _ _ _|exact zab rfl⟩,?_⟩
  ·intro A_last I_last
   rw[mkI_all]
   conv=>whnf
   repeat (refine LookP.mk _ rfl ?_;conv=>whnf)
   intro t ht
   cases t
   rotate_left
   ·exact qbh
   conv=>whnf
   skip
   exact fin ⟨rfl,rfl⟩
 ·rintro v H m ⟨rfl,h4⟩
  refine⟨.sl 0 5 0 l.length l.length true,[(0,some (dblk 5 ((mkL n o l).map nmL)))],1,?_,by rw[hml],rfl,rfl⟩
  exact zac (Nat.zero_le _) ⟨⟨rfl,rfl⟩,trivial⟩ ⟨⟨ltB rfl,_,rfl,h4,zaa _ _ _⟩,trivial⟩ trivial
end Go.Tz
namespace Go.Tz
open Go Go.AL Go.Proofs
def mt(k b c:Nat):Option Nat:=match k with
 | 1=>if b+c=1 then some 0 else none
 | 2=>if b+c=1 then(if b=0 then some 3 else some 1) else none
 | 3=>if b=c then some (2*b) else none
 | 4=>if b=1/\c=1 then some 2 else some 0
 | 5=>if b=c then some b else none
 | 6=>if b=c then some (3*b) else none
 | 9=>if c=(if b=1 then 3 else if b=3 then 1 else b) then some 0 else none
 | 10=>if b=c then(if b=3 then some 2 else some 0) else none
 | _=>if c=(if b=1 then 2 else if b=2 then 1 else b) then some 0 else none
def mtA(k:Nat):Nat:=if k<=8 then 2 else 4
def mtE(k:Nat):Nat:=if k=4 then 1 else 0
def mrow(k b:Nat):List (List D):=(List.range (mtA k)).map fun c=>amL (mt k b c) (mtE k)
abbrev mxD(k:Nat):D:=.sl ((List.range (mtA k)).map fun b=>[.sl (mrow k b) true]) true
def CK(k:Nat):Prop:=(1<=k/\k<=6)\/(9<=k/\k<=11)
theorem zk4{k:Nat}(h:CK k):k=1\/k=2\/k=3\/k=4\/k=5\/k=6\/k=9\/k=10\/k=11:=by unfold CK at h;omega
theorem mx_1:rv 278 [iD (2:Int),.fn 279 [] []]=mxD 1:=qah
theorem mx_3:rv 280 [.sl [unL 0 0,unL 4 0] true]=mxD 3:=qah
theorem mx_5:rv 280 [.sl [unL 0 0,unL 2 0] true]=mxD 5:=qah
theorem mx_6:rv 280 [.sl [unL 0 0,unL 6 0] true]=mxD 6:=qah
theorem mx_9:rv 278 [iD (4:Int),.fn 282 [] []]=mxD 9:=qah
theorem mx_10:rv 280 [.sl [unL 0 0,unL 0 0,unL 0 0,unL 4 0] true]=mxD 10:=qah
theorem mx_11:rv 278 [iD (4:Int),.fn 283 [] []]=mxD 11:=qah
theorem mx_in{k:Nat}(h:CK k):((k:Int),mxD k)∈ins275.map (·.2):=by
 rcases zk4 h with rfl|rfl|rfl|rfl|rfl|rfl|rfl|rfl|rfl
 ·rw[<- mx_1];exact List.mem_of_getElem? (i:=0) rfl
 ·exact List.mem_of_getElem? (i:=1) rfl
 ·rw[<- mx_3];exact List.mem_of_getElem? (i:=2) rfl
 ·exact List.mem_of_getElem? (i:=3) rfl
 ·rw[<- mx_5];exact List.mem_of_getElem? (i:=4) rfl
 ·rw[<- mx_6];exact List.mem_of_getElem? (i:=5) rfl
 ·rw[<- mx_9];exact List.mem_of_getElem? (i:=8) rfl
 ·rw[<- mx_10];exact List.mem_of_getElem? (i:=9) rfl
 ·rw[<- mx_11];exact List.mem_of_getElem? (i:=10) rfl
def MapOk(M:List (Int×D)):Prop:=∀ q,q∈M->q∈ins275.map (·.2)
theorem zo0{q q':Int×D}(h:q∈ins275.map (·.2))(h':q'∈ins275.map (·.2))(e:q.1=q'.1):q=q':=by
 obtain⟨p,hp,rfl⟩:=List.mem_map.1 h
 obtain⟨p',hp',rfl⟩:=List.mem_map.1 h'
 rw[zgz zo6 hp hp' e]
theorem chk226':chkFn Tryz.f226=true:=qah
theorem of226{k:Nat}(hk:CK k){M:List (Int×D)}(hM:MapOk M):ACall Pr GK 226 [.map 6,.d (iD k)] [(6,some (.map (M.map toK)))] 20 fun v H _=>∃ M':List (Int×D),MapOk M'/\v = .d (mxD k)/\H=[(6,some (.map (M'.map toK)))]:=by
 have c263:=of263 (mx_in hk)
 have hin:=mx_in hk
 have hd:∃ v,v=mxD k:=⟨_,rfl⟩
 obtain⟨v,hv⟩:=hd
 rw[<- hv]at c263 hin⊢
 refine zaz (K:=fun x H _=>∃ M':List (Int×D),MapOk M'/\x = .d v/\H.get 6=some (.map (M'.map toK))) (za4 pok Tryz.func226 chk226' ?_) ?_
 ·by_cases hm:((k:Int),v)∈M
  ·obtain⟨j,j1,j2⟩:=zir M 0 hm fun q hq e=>zo0 (hM q hq) hin e
   rw[Nat.zero_add]at j1
   conv=>whnf
   repeat' first|((first|rw[keysK]|rw[allK]|rw[j1]|rw[j2]);conv=>whnf)
   all_goals first|exact fin ⟨M,hM,rfl,rfl⟩|(exfalso;simp at ht;done)
  ·have hno:=zmc (k:=(k:Int)) M 0 fun q hq e=>hm (by rw[<- zo0 (hM q hq) hin e];exact hq)
   have eM:List.map toK M++[(iD (k:Int),v)]=List.map toK (M++[((k:Int),v)]):=qck
   have hM2:MapOk (M++[((k:Int),v)]):=fun q hq=>by
    rcases List.mem_append.1 hq with h|h
    ·exact hM q h
    ·rw[List.mem_singleton.1 h];exact hin
   obtain⟨j,j1,j2⟩:=zir (M++[((k:Int),v)]) 0 qc3 fun q hq e=>zo0 (hM2 q hq) hin e
   rw[Nat.zero_add]at j1
   conv=>whnf
   repeat' first|((first|rw[keysK]|rw[allK]|rw[hno]|refine zak c263 ?_|rw[zbo,eM]|rw[j1]|rw[j2]|refine HpP.force ?_);conv=>whnf)
   all_goals first|exact fin ⟨_,hM2,rfl,rfl⟩|(exfalso;simp at ht;done)
 ·rintro x H n ⟨M',h1,rfl,h4⟩
  refine⟨.d v,[(6,some (.map (M'.map toK)))],20,?_,M',h1,rfl,rfl⟩
  exact zac (Nat.le_refl _) ⟨⟨rfl,rfl⟩,trivial⟩ ⟨⟨ltB rfl,_,rfl,h4,trivial⟩,trivial⟩ trivial
end Go.Tz
namespace Go.Tz
open Go Go.AL Go.Proofs
namespace P4
theorem mul_twc(x q:P4):x.mul q.twc=(x.mul q).twc:=by
 simp only[mul,twc,mk.injEq]
 refine⟨?_,?_,?_,?_⟩<;>grind
theorem mul_rse(x:P4):∀(d:Nat) (q:P4),x.mul (rse d q)=rse d (x.mul q)
 | 0,_=>rfl
 | d+1,q=>by
  show x.mul (rse d q.twc)=rse d (x.mul q).twc
  rw[mul_rse x d,mul_twc]
theorem lsz_mul{K e:Nat}{S:P4}(x:P4):lsz (e+(lsz K S).2) (x.mul (lsz K S).1)=lsz (e+K) (x.mul S):=by
 obtain⟨h1,h2⟩:=rse_lsz K S
 conv=>rhs;rw[<- h2,mul_rse]
 have:=lsz_rse (e+(lsz K S).2) (K-(lsz K S).2) (x.mul (lsz K S).1)
 rw[show e+(lsz K S).2+(K-(lsz K S).2)=e+K by omega]at this
 exact this.symm
theorem z_add(p:P4):z.add p=p:=by
 obtain⟨a,b,c,d⟩:=p
 simp[add,z]
end P4
theorem emb_trn(p:Nat)(u:Cx):(emb (trn p (1,0))).mul (emb u)=emb (trn p u):=by
 unfold emb P4.mul trn
 rcases zcy p with h|h|h|h<;>(simp[h])
abbrev ln(M:Nat)(u:Cx):P4×Nat:=P4.lsz M (emb u)
theorem ln_ok{M:Nat}{u:Cx}(hM:M<=20)(hu:P4.Bd 500 (emb u)):NumOk (ln M u)/\P4.lsz (ln M u).2 (ln M u).1=ln M u:=by
 have:=(P4.rse_lsz M (emb u)).1
 exact⟨⟨by show(P4.lsz M (emb u)).2<=60;omega,(P4.lsz_bd M qag hu).mono qag⟩,P4.lsz_lsz _ _⟩
theorem trn_bd{n:Int}{u:Cx}(p:Nat)(h:P4.Bd n (emb u)):P4.Bd n (emb (trn p u)):=by
 unfold P4.Bd emb trn at *
 rcases zcy p with e|e|e|e<;>(simp only[e]at *;simp at *;omega)
theorem mulX{p e M:Nat}{u:Cx}(hp:p<4)(he:e<=1)(hM:M<=20)(hu:P4.Bd 500 (emb u)):PC Pr GK 75 [amD (some p) e,.agg (nmL (ln M u))] (.tup [.agg (nmL (ln (e+M) (trn p u))),iD 0]):=by
 have r1:=(P4.rse_lsz M (emb u)).1
 have b1:=P4.lsz_bd M qag hu
 have hb:P4.Bd 1073741824 ((emb (trn p (1,0))).mul (P4.lsz M (emb u)).1):=by
  generalize (P4.lsz M (emb u)).1=q at b1
  unfold P4.Bd at *
  rcases trn_1 p with h|h|h|h<;>(rw[h];simp only[emb,P4.mul];omega)
 have h:=zq6 (G:=GK) (p:=emb (amC (some p))) (q:=(P4.lsz M (emb u)).1) (k:=e) (j:=(P4.lsz M (emb u)).2) qad ((am_bd (some p)).mono qag) (b1.mono qag) hb
 rw[show amC (some p)=trn p (1,0) from rfl,P4.lsz_mul,emb_trn]at h
 rw[am_nD (v:=some p) (m:=e) fun q hq=>by cases hq;exact hp]
 exact h
theorem chk264:chkFn Tryz.f264=true:=qah
theorem chk227:chkFn Tryz.f227=true:=qah
def acc2(s r:P4×Nat):Nat->P4×Nat
 | 0=>zN
 | 1=>s
 | _+2=>r
theorem addW{K:Nat}{A B:Cx}(hK:K<=20)(hA:P4.Bd 500 (emb A))(hB:P4.Bd 500 (emb B)):PC Pr GK 156 [wD (ln K A).1 (ln K A).2,nD (ln K B).1 (ln K B).2] (.tup [.agg (nmL (ln K (cadd A B))),iD 0]):=by
 obtain⟨k,hk⟩:∃ k,k=max (P4.lsz K (emb A)).2 (P4.lsz K (emb B)).2:=⟨_,rfl⟩
 obtain⟨h1,h2⟩:=P4.lsz_sum hk
 have b1:=P4.lsz_bd K qag hA
 have b2:=P4.lsz_bd K qag hB
 have r1:=(P4.rse_lsz K (emb A)).1
 have r2:=(P4.rse_lsz K (emb B)).1
 have hp:(2:Int)^(20:Nat)*500+2^(20:Nat)*500<=1073741824:=qag
 have mono:∀{j:Nat},j<=20->(2:Int)^j*500<=2^(20:Nat)*500:=fun{j} hj=>by
  have:=Nat.pow_le_pow_right (n:=2) qag hj
  have e:((2^j:Nat):Int)=2^j:=by push_cast;rfl
  have e2:((2^20:Nat):Int)=2^(20:Nat):=qe5
  omega
 have hb:=P4.add_bd ((P4.rse_bd (k-(P4.lsz K (emb A)).2) b1).mono (mono qad)) ((P4.rse_bd (k-(P4.lsz K (emb B)).2) b2).mono (mono qad))
 have h:=add156 (G:=GK) hk qad (fun i hi=>bd_big b1 qad qag qag) (fun i hi=>bd_big b2 qad qag qag) (hb.mono hp)
 rw[h2,emb_add]at h
 exact h
theorem addZ{s:P4×Nat}(h:NumOk s)(he:P4.lsz s.2 s.1=s):PC Pr GK 156 [wD P4.z ((0:Nat):Int),nD s.1 s.2] (.tup [.agg (nmL s),iD 0]):=by
 have hz:∀ i,P4.rse i P4.z=P4.z:=P4.z_rse
 have c:=add156 (G:=GK) (p:=P4.z) (q:=s.1) (k:=0) (j:=s.2) (K:=s.2) qad h.1 (fun i _=>by rw[hz];decide) (fun i hi=>by
  obtain rfl:i=0:=qad
  exact zn2 h.2 qag) (by
  rw[hz,Nat.sub_self]
  show P4.Bd 1073741824 (P4.z.add s.1)
  rw[P4.z_add];exact h.2)
 rw[hz,Nat.sub_self,show P4.rse 0 s.1=s.1 from rfl,P4.z_add,he]at c
 exact c
theorem sum264{s1 s2 r:P4×Nat}(h1:NumOk s1)(h2:NumOk s2)(e1:P4.lsz s1.2 s1.1=s1)(hc:PC Pr GK 156 [wD s1.1 s1.2,nD s2.1 s2.2] (.tup [.agg (nmL r),iD 0]))(t:Bool):PC Pr GK 264 [.sl [nmL s1,nmL s2] t] (.tup [.agg (nmL r),iD 0]):=by
 have cz:=addZ h1 e1
 have c0:=zrr (G:=GK) [s1,s2] true qc3 (fun s hs=>by
  simp only[List.mem_cons,List.not_mem_nil,or_false]at hs
  rcases hs with rfl|rfl
  ·exact h1
  ·exact h2)
 have cw0:=zec (G:=GK) P4.z ((0:Nat):Int)
 have cw1:=zec (G:=GK) s1.1 s1.2
 have z0:((0:Int) != 0)=false:=rfl
 refine zai pok Tryz.func264 chk264 ?_
 conv=>whnf
 repeat' first|((first|refine LookP.mk _ rfl ?_|refine ShlP.mk _ qa8 ?_|(refine And.intro (by first|exact⟨Int.natCast_nonneg _,rfl,by show 40*(((2:Nat):Int)).toNat<=281474976710656;decide,by decide,by decide⟩|exact(fun el h=>by simp at h;rcases h with rfl|rfl<;>rfl)|exact qb4|assumption|exact⟨by kernel_rfl,rfl⟩|decide|omega) ?_)|refine zot c0 (zda rfl rfl) rfl ?_|refine knownB z0 ?_|refine HpP.force ?_);conv=>whnf)
 refine zaq pok (fun i=>⟨[(2,.ptr 0 5 0 0),(6,.ptr 2 5 0 0),(24,.sl 1 5 0 2 2 true),(25,.d (iD 2)),(26,.d (iD i))],[(0,some (.arr 5 [[.d (iD 0),.d (iD 0),.d (iD 0),.d (iD 0),.d (iD 0)]])),(1,some (dblk 5 [nmL s1,nmL s2])),(2,some (.arr 5 [(nmL (acc2 s1 r i)).map AV.d]))],3⟩) (2) (fun _=>True) (trivial) ?_ qah ?_ ?_
 ·exact qf2
 ·intro i A_i h_i I_i N_i
  have e_i:iadd .i64 (i:Int) 1=((i+1:Nat):Int):=zah qbl
  have hi2:i=0\/i=1:=qad
  rcases hi2 with rfl|rfl
  ·conv=>whnf
   repeat (refine LookP.mk _ rfl ?_;conv=>whnf)
   intro t ht
   cases t
   ·exact qbh
   conv=>whnf
   repeat' first|((first|refine LookP.mk _ rfl ?_|refine ShlP.mk _ qaa ?_|refine And.intro qbi ?_|refine zam cw0 ?_|refine zam cz ?_|refine knownB z0 ?_|refine HpP.force ?_);conv=>whnf)
   refine N_i _ ?_ ?_
   ·exact qbj
   ·exact qf3
  ·conv=>whnf
   repeat (refine LookP.mk _ rfl ?_;conv=>whnf)
   intro t ht
   cases t
   ·exact qbh
   conv=>whnf
   repeat' first|((first|refine LookP.mk _ rfl ?_|refine ShlP.mk _ qaa ?_|refine And.intro qbi ?_|refine zam cw1 ?_|refine zam hc ?_|refine knownB z0 ?_|refine HpP.force ?_);conv=>whnf)
   refine N_i _ ?_ ?_
   ·exact qbj
   ·exact qf3
 ·exact qga
theorem zwv{s1 s2 r:P4×Nat}(h1:NumOk s1)(h2:NumOk s2)(e1:P4.lsz s1.2 s1.1=s1)(hc:PC Pr GK 156 [wD s1.1 s1.2,nD s2.1 s2.2] (.tup [.agg (nmL r),iD 0]))(t:Bool):PC Pr GK 227 [.sl [nmL s1,nmL s2] t] (.tup [.agg (nmL r),iD 0]):=by
 have c:=sum264 h1 h2 e1 hc t
 refine zai pok Tryz.func227 chk227 ?_
 conv=>whnf
 repeat' first|((first|refine LookP.mk _ rfl ?_|refine ShlP.mk _ qaa ?_|refine zak c ?_|refine HpP.force ?_);conv=>whnf)
 exact fin rfl
theorem add2{K:Nat}{A B:Cx}(hK:K<=20)(hA:P4.Bd 500 (emb A))(hB:P4.Bd 500 (emb B))(t:Bool):PC Pr GK 227 [.sl [nmL (ln K A),nmL (ln K B)] t] (.tup [.agg (nmL (ln K (cadd A B))),iD 0]) :=
 zwv (ln_ok hK hA).1 (ln_ok hK hB).1 (ln_ok hK hA).2 (addW hK hA hB) t
end Go.Tz
namespace Go.Tz
open Go Go.AL Go.Proofs Go.Ma
def inI(r:Nat)(ws:List Nat)(q:Nat):Int:=(List.range q).foldl (fun x i=>ior .i64 x (ishl .i64 (iand .i64 (ishr .i64 (r:Int) (ws.getD i 0:Nat)) 1) (i:Nat))) 0
def rsI2(r:Nat)(ws:List Nat)(q:Nat):Int:=(List.range q).foldl (fun x i=>iandNot .i64 x (ishl .i64 1 (ws.getD i 0:Nat))) (r:Int)
def frI(r:Nat)(ws:List Nat)(c q:Nat):Int:=(List.range q).foldl (fun x i=>ior .i64 x (ishl .i64 (iand .i64 (ishr .i64 (c:Int) (i:Nat)) 1) (ws.getD i 0:Nat))) (rsI2 r ws ws.length)
theorem inI_s(r:Nat)(ws:List Nat)(q:Nat):inI r ws (q+1)=ior .i64 (inI r ws q) (ishl .i64 (iand .i64 (ishr .i64 (r:Int) (ws.getD q 0:Nat)) 1) (q:Nat)):=by
 unfold inI;rw[List.range_succ,List.foldl_append];rfl
theorem rsI_s(r:Nat)(ws:List Nat)(q:Nat):rsI2 r ws (q+1)=iandNot .i64 (rsI2 r ws q) (ishl .i64 1 (ws.getD q 0:Nat)):=by
 unfold rsI2;rw[List.range_succ,List.foldl_append];rfl
theorem frI_s(r:Nat)(ws:List Nat)(c q:Nat):frI r ws c (q+1)=ior .i64 (frI r ws c q) (ishl .i64 (iand .i64 (ishr .i64 (c:Int) (q:Nat)) 1) (ws.getD q 0:Nat)):=by
 unfold frI;rw[List.range_succ,List.foldl_append];rfl
def wsN(k a b:Nat):List Nat:=if k<=8 then [a] else [a,b]
def inN(k a b r:Nat):Nat:=if k<=8 then(r.testBit a).toNat else(r.testBit a).toNat+2*(r.testBit b).toNat
def frN(k a b r c:Nat):Nat:=if k<=8 then r^^^cd (c.testBit 0 != r.testBit a) (2^a) else r^^^(cd (c.testBit 0 != r.testBit a) (2^a)^^^cd (c.testBit 1 != r.testBit b) (2^b))
theorem in_1{r a:Nat}(hr:r<16)(ha:a<4):inI r [a] 1=((r.testBit a).toNat:Nat):=by
 have h:((List.range 16).all fun r=>(List.range 4).all fun a=>decide (inI r [a] 1=((r.testBit a).toNat:Nat)))=true:=qah
 exact of_decide_eq_true (List.all_eq_true.1 (List.all_eq_true.1 h r (List.mem_range.2 hr)) a (List.mem_range.2 ha))
theorem in_2{r a b:Nat}(hr:r<16)(ha:a<4)(hb:b<4):inI r [a,b] 2=((r.testBit a).toNat+2*(r.testBit b).toNat:Nat):=by
 have h:((List.range 16).all fun r=>(List.range 4).all fun a=>(List.range 4).all fun b=>decide (inI r [a,b] 2=((r.testBit a).toNat+2*(r.testBit b).toNat:Nat)))=true:=qah
 exact of_decide_eq_true (List.all_eq_true.1 (List.all_eq_true.1 (List.all_eq_true.1 h r (List.mem_range.2 hr)) a (List.mem_range.2 ha)) b (List.mem_range.2 hb))
theorem fr_1{r a c:Nat}(hr:r<16)(ha:a<4)(hc:c<2):frI r [a] c 1=((r^^^cd (c.testBit 0 != r.testBit a) (2^a):Nat):Int):=by
 have h:((List.range 16).all fun r=>(List.range 4).all fun a=>(List.range 2).all fun c=>decide (frI r [a] c 1=((r^^^cd (c.testBit 0 != r.testBit a) (2^a):Nat):Int)))=true:=qah
 exact of_decide_eq_true (List.all_eq_true.1 (List.all_eq_true.1 (List.all_eq_true.1 h r (List.mem_range.2 hr)) a (List.mem_range.2 ha)) c (List.mem_range.2 hc))
theorem fr_2{r a b c:Nat}(hr:r<16)(ha:a<4)(hb:b<4)(hab:a≠b)(hc:c<4):frI r [a,b] c 2=((r^^^(cd (c.testBit 0 != r.testBit a) (2^a)^^^cd (c.testBit 1 != r.testBit b) (2^b)):Nat):Int):=by
 have h:((List.range 16).all fun r=>(List.range 4).all fun a=>(List.range 4).all fun b=>Nat.beq a b||(List.range 4).all fun c=>decide (frI r [a,b] c 2=((r^^^(cd (c.testBit 0 != r.testBit a) (2^a)^^^cd (c.testBit 1 != r.testBit b) (2^b)):Nat):Int)))=true:=qah
 have h1:=List.all_eq_true.1 (List.all_eq_true.1 (List.all_eq_true.1 h r (List.mem_range.2 hr)) a (List.mem_range.2 ha)) b (List.mem_range.2 hb)
 rcases Bool.or_eq_true _ _ |>.mp h1 with h2|h2
 ·exact absurd (Nat.eq_of_beq_eq_true h2) hab
 ·exact of_decide_eq_true (List.all_eq_true.1 h2 c (List.mem_range.2 hc))
theorem in_all{k r a b:Nat}(hk:gOk k a b)(hr:r<16)(ha:a<4)(hb:9<=k->b<4):inI r (wsN k a b) (wsN k a b).length=(inN k a b r:Nat):=by
 unfold wsN inN
 by_cases e:k<=8
 ·rw[if_pos e,if_pos e];exact in_1 hr ha
 ·rw[if_neg e,if_neg e];exact in_2 hr ha (hb qad)
theorem fr_all{k r a b c:Nat}(hk:gOk k a b)(hr:r<16)(ha:a<4)(hb:9<=k->b<4)(hc:c<mtA k):frI r (wsN k a b) c (wsN k a b).length=(frN k a b r c:Nat):=by
 unfold wsN frN
 unfold mtA at hc
 by_cases e:k<=8
 ·rw[if_pos e,if_pos e]
  rw[if_pos e]at hc
  exact fr_1 hr ha hc
 ·rw[if_neg e,if_neg e]
  rw[if_neg e]at hc
  exact fr_2 hr ha (hb qad) (by unfold gOk at hk;omega) hc
theorem frN_lt{k r a b c w:Nat}(hr:r<2^w)(ha:a<w)(hb:9<=k->b<w):frN k a b r c<2^w:=by
 have cl:∀(t:Bool) (m:Nat),m<2^w->cd t m<2^w:=fun t m hm=>by cases t;exact Nat.two_pow_pos w;exact hm
 have hA:2^a<2^w:=Nat.pow_lt_pow_right qag ha
 unfold frN
 split
 ·exact Nat.xor_lt_two_pow hr (cl _ _ hA)
 ·exact Nat.xor_lt_two_pow hr (Nat.xor_lt_two_pow (cl _ _ hA) (cl _ _ (Nat.pow_lt_pow_right qag (hb qad))))
theorem inN_lt(k a b r:Nat):inN k a b r<mtA k:=by
 unfold inN mtA
 split<;>(cases r.testBit a<;>cases r.testBit b<;>decide)
def accF(k b:Nat)(fr:Nat->Nat)(u:Nat->Cx):Nat->Option Cx
 | 0=>none
 | c+1=>match mt k b c with
  | none=>accF k b fr u c
  | some p=>some (match accF k b fr u c with
   | none=>trn p (u (fr c))
   | some x=>cadd x (trn p (u (fr c))))
def cntF(k b:Nat):Nat->Nat
 | 0=>0
 | c+1=>cntF k b c+if(mt k b c).isSome then 1 else 0
theorem accF_bd{k b:Nat}{fr:Nat->Nat}{u:Nat->Cx}(h:∀ c,c<mtA k->P4.Bd 128 (emb (u (fr c)))):∀ c,c<=mtA k->∀ x,accF k b fr u c=some x->P4.Bd (128*cntF k b c) (emb x)
 | 0,_,x,hx=>by cases hx
 | c+1,hc,x,hx=>by
  have ih:=accF_bd (b:=b) h c qad
  have hu:=h c qad
  unfold accF at hx
  unfold cntF
  cases e:mt k b c with
  | none =>
   rw[e]at hx
   exact(ih x hx).mono qc3
  | some p =>
   rw[e]at hx
   have hx:=Option.some.inj hx
   have ht:=trn_bd p hu
   cases e2:accF k b fr u c with
   | none =>
    rw[e2]at hx
    rw[<- hx]
    exact ht.mono qbo
   | some y =>
    rw[e2]at hx
    rw[<- hx]
    exact(P4.add_bd (ih y e2) ht).mono qbo
theorem cntF_le{k b:Nat}(hk:CK k)(hb:b<mtA k):∀ c,c<=mtA k->cntF k b c<=2:=by
 have h:([1,2,3,4,5,6,9,10,11].all fun k=>(List.range (mtA k)).all fun b=>(List.range (mtA k+1)).all fun c=>Nat.ble (cntF k b c) 2)=true:=qah
 intro c hc
 have hm:k∈[1,2,3,4,5,6,9,10,11]:=by
  rcases zk4 hk with rfl|rfl|rfl|rfl|rfl|rfl|rfl|rfl|rfl<;>simp
 exact Nat.le_of_ble_eq_true (List.all_eq_true.1 (List.all_eq_true.1 (List.all_eq_true.1 h k hm) b (List.mem_range.2 hb)) c (List.mem_range.2 qad))
theorem mt_lt{k b c p:Nat}(hk:CK k)(hb:b<mtA k)(h:mt k b c=some p):p<4:=by
 unfold mtA at hb
 rcases zk4 hk with rfl|rfl|rfl|rfl|rfl|rfl|rfl|rfl|rfl
 all_goals
  simp at hb
  simp only[mt]at h
  (repeat' split at h)<;>(first|(cases h;done)|(injection h with h;omega))
theorem accF_gC{k a b:Nat}(hk:gOk k a b)(u:Nat->Cx)(r:Nat):accF k (inN k a b r) (frN k a b r) u (mtA k)=some (gC k a b u r):=by
 have hab:a=b->k<=8:=fun e=>by unfold gOk at hk;omega
 have hck:CK k:=by unfold gOk at hk;unfold CK;omega
 have x1:∀ m:Nat,r^^^(m^^^0)=r^^^m:=fun m=>by rw[Nat.xor_zero]
 rcases zk4 hck with rfl|rfl|rfl|rfl|rfl|rfl|rfl|rfl|rfl
 all_goals cases ha:r.testBit a<;>cases hb:r.testBit b<;>(simp[accF,mtA,inN,frN,mt,gC,ha,hb,cd,Nat.testBit_succ,trn];try rfl)
end Go.Tz
namespace Go.Tz
open Go Go.AL Go.Proofs Go.Ma
theorem low6(b:Blk)(hb:b.Below 20):∀ nm bl,AHeap.get [(6,some b)] nm=some bl->nm<20/\bl.Below 20:=fun nm bl h=>by
 rw[zaj]at h
 by_cases e:nm=6
 ·rw[if_pos e]at h
  rw[<- Option.some.inj h]
  exact⟨by omega,hb⟩
 ·rw[if_neg e]at h;cases h
theorem zoz{f:FuncId}{args:List AV}{M:List (Int×D)}{d:D}{H:AHeap}{nx:Nat}{k:AV->AHeap->Nat->Prop}(hf:IsFn Pr f)(h:ACall Pr GK f args [(6,some (.map (M.map toK)))] 20 fun v H _=>∃ M':List (Int×D),MapOk M'/\v = .d d/\H=[(6,some (.map (M'.map toK)))])
  (hn:20<=nx) (harg:∀(i:Nat) (v:AV),args[i]?=some v->v.bel 20=true) (hg:H.get 6=some (.map (M.map toK))) (hk:∀ M':List (Int×D),MapOk M'->k (.d d) ((6,some (.map (M'.map toK)))::H) nx):CallVC Pr GK f args H nx k:=by
 refine⟨hf,zbj (zjz h hn (low6 _ trivial) harg ?_) (Nat.le_refl _) (fun m b hm=>?_) ?_⟩
 ·rintro v H1 n ⟨M',h1,rfl,rfl⟩
  exact⟨rfl,low6 _ trivial⟩
 ·rw[zaj]at hm
  by_cases e:m=6
  ·exact qdb
  ·exact qdk
 ·rintro v H1 n ⟨⟨n',M',h1,rfl,rfl⟩,rfl⟩
  refine⟨_,fun m b hm=>?_,hk M' h1⟩
  rw[zaj]at hm
  by_cases e:m=6
  ·exact qb7
  ·rw[if_neg e]at hm
   right
   exact⟨by rw[zaj,if_neg e];rfl,hm⟩
def lN(u:Nat->Cx)(M N:Nat):List (P4×Nat):=(List.range N).map fun q=>ln M (u q)
theorem zhl(u:Nat->Cx)(M N:Nat):(lN u M N).length=N:=by unfold lN;simp
theorem lN_get{u:Nat->Cx}{M N q:Nat}(h:q<N):((lN u M N).map nmL)[(q:Int).toNat]?=some (nmL (ln M (u q))):=by
 rw[zug (by rw[zhl];exact h)]
 unfold lN
 rw[List.getElem_map,List.getElem_range]
theorem lN_ok{u:Nat->Cx}{M N:Nat}(hM:M<=20)(h:∀ q,q<N->P4.Bd 500 (emb (u q))):∀ s,s∈lN u M N->NumOk s/\P4.lsz s.2 s.1=s:=fun s hs=>by
 obtain⟨q,hq,rfl⟩:=List.mem_map.1 hs
 exact ln_ok hM (h q (List.mem_range.1 hq))
def accN(M:Nat):Option Cx->P4×Nat
 | none=>zN
 | some x=>ln M x
def outR(R:Nat->P4×Nat)(r:Nat)(x:P4×Nat)(N:Nat):List (P4×Nat):=(List.range N).map fun q=>if q<r then R q else if q=r then x else zN
theorem outR_0(R:Nat->P4×Nat)(N:Nat):outR R 0 zN N=List.replicate N zN:=by
 unfold outR
 refine List.ext_getElem qc3 fun i h1 h2=>?_
 simp
theorem outR_next(R:Nat->P4×Nat)(r N:Nat):outR R r (R r) N=outR R (r+1) zN N:=by
 unfold outR
 refine List.map_congr_left fun q _=>?_
 by_cases h1:q<r
 ·rw[if_pos h1,if_pos qad]
 ·by_cases h2:q=r
  ·rw[if_neg h1,if_pos h2,if_pos qad,h2]
  ·rw[if_neg h1,if_neg h2,if_neg qad]
   split<;>rfl
theorem outR_all(R:Nat->P4×Nat)(N:Nat):outR R N zN N=(List.range N).map R:=by
 unfold outR
 refine List.map_congr_left fun q hq=>?_
 rw[if_pos (List.mem_range.1 hq)]
theorem outR_set(R:Nat->P4×Nat){r N:Nat}(x y:P4×Nat):(outR R r x N).set r y=outR R r y N:=by
 unfold outR
 refine List.ext_getElem qc3 fun i h1 h2=>?_
 simp only[List.getElem_set,List.getElem_map,List.getElem_range]
 by_cases e:r=i
 ·subst e;rw[if_pos rfl,if_neg (Nat.lt_irrefl _),if_pos rfl]
 ·rw[if_neg e]
  by_cases h:i<r
  ·rw[if_pos h,if_pos h]
  ·rw[if_neg h,if_neg h,if_neg (Ne.symm e),if_neg (Ne.symm e)]
theorem outR_at(R:Nat->P4×Nat){r N:Nat}(x:P4×Nat)(h:r<N):(((outR R r x N).map nmL).map fun el=>el.map AV.d)[0+((r:Nat):Int).toNat]?=some ((nmL x).map AV.d):=by
 rw[Nat.zero_add,Int.toNat_natCast,List.getElem?_map,List.getElem?_map]
 unfold outR
 rw[List.getElem?_map,List.getElem?_range h]
 show some ((nmL (if r<r then R r else if r=r then x else zN)).map AV.d)=_
 rw[if_neg (Nat.lt_irrefl _),if_pos rfl]
theorem outR_blk(R:Nat->P4×Nat){r N:Nat}(x y:P4×Nat):some (Blk.arr 5 ((((outR R r x N).map nmL).map fun el=>el.map AV.d).set (0+((r:Nat):Int).toNat) ((nmL y).map AV.d)))=some (dblk 5 ((outR R r y N).map nmL)):=by
 unfold dblk
 rw[<- outR_set R x y,Nat.zero_add,Int.toNat_natCast,List.map_set,List.map_set]
theorem zpq:chkFn Tryz.f162=true:=qah
theorem zn3{w k a b M:Nat}{u:Nat->Cx}{gb gi:Int}{wu t:Bool}{Mp:List (Int×D)}(hk:gOk k a b)(hw:w<=4)(ha:a<w)(hb:9<=k->b<w)(hM:M<=18)(hu:∀ q,q<2^w->P4.Bd 128 (emb (u q)))(hMp:MapOk Mp) :
  ACall Pr GK 162 [.map 6,.d (vN (lN u M (2^w)) t),.d (.agg [iD k,intsD ((wsN k a b).map fun n:Nat=>(n:Int)) wu,iD gb,iD gi])] [(6,some (.map (Mp.map toK)))] 20 fun v H _=>∃ M':List (Int×D),MapOk M'/\v = .d (.tup [vN (lN (gC k a b u) (mtE k+M) (2^w)) true,iD 0])/\H=[(6,some (.map (M'.map toK)))]:=by
 have hck:CK k:=by unfold gOk at hk;unfold CK;omega
 have c226:=fun{M:List (Int×D)} (hM:MapOk M)=>of226 hck hM
 obtain⟨N,hN⟩:∃ N,N=2^w:=⟨_,rfl⟩
 have hp:N<=16:=by rw[hN];exact Nat.pow_le_pow_right (n:=2) qag hw
 have hfl:∀ r c,r<N->frN k a b r c<N:=fun r c hr=>by rw[hN]at hr⊢;exact frN_lt hr ha hb
 rw[<- hN]at hu⊢
 have hVl:((lN u M N).map nmL).length=N:=qey
 have hVg:∀ q:Nat,q<N->((lN u M N).map nmL)[(q:Int).toNat]?=some (nmL (ln M (u q))):=fun q hq=>lN_get hq
 unfold vN
 generalize (lN u M N).map nmL=V at hVl hVg⊢
 clear hN
 subst hVl
 obtain⟨ws,hws⟩:∃ ws,ws=wsN k a b:=⟨_,rfl⟩
 have hwl:ws.length<=2:=by rw[hws];unfold wsN;split<;>simp
 have hin:∀ r,r<16->inI r ws ws.length=(inN k a b r:Nat):=fun r hr=>by rw[hws];exact in_all hk hr qad (fun q=>by have:=hb q;omega)
 have hfr:∀ r c,r<16->c<mtA k->frI r ws c ws.length=(frN k a b r c:Nat):=fun r c hr hc=>by rw[hws];exact fr_all hk hr qad (fun q=>by have:=hb q;omega) hc
 have hWl:((ws.map fun n:Nat=>(n:Int)).map fun x=>[iD x]).length=ws.length:=qc3
 have hWg:∀ q:Nat,q<ws.length->((ws.map fun n:Nat=>(n:Int)).map fun x=>[iD x])[(q:Int).toNat]?=some [iD (ws.getD q 0:Nat)]:=fun q hq=>by
  rw[Int.toNat_natCast,List.getElem?_map,List.getElem?_map,List.getElem?_eq_getElem hq,List.getD_eq_getElem?_getD,List.getElem?_eq_getElem hq];rfl
 rw[<- hws]
 unfold intsD
 clear hws
 generalize ((ws.map fun n:Nat=>(n:Int)).map fun x=>[iD x])=W at hWl hWg⊢
 have hMl:((List.range (mtA k)).map fun b=>[D.sl (mrow k b) true]).length=mtA k:=qc3
 have hMg:∀ q:Nat,q<mtA k->((List.range (mtA k)).map fun b=>[D.sl (mrow k b) true])[(q:Int).toNat]?=some [.sl (mrow k q) true]:=fun q hq=>by
  rw[Int.toNat_natCast,List.getElem?_map,List.getElem?_range hq];rfl
 have hA4:mtA k<=4:=by unfold mtA;split<;>decide
 have hE1:mtE k<=1:=by unfold mtE;split<;>decide
 refine zaz (K:=fun x H _=>∃ M':List (Int×D),MapOk M'/\x = .d (.tup [.sl ((lN (gC k a b u) (mtE k+M) V.length).map nmL) true,iD 0])/\H.get 6=some (.map (M'.map toK))) (zfx (K:=fun x H _=>∃ M':List (Int×D),MapOk M'/\x = .tup [.sl 21 5 0 V.length V.length true,.d (iD 0)]/\H.get 6=some (.map (M'.map toK))/\H.get 21=some (dblk 5 ((lN (gC k a b u) (mtE k+M) V.length).map nmL))) (za4 pok Tryz.func162 zpq ?_) ?_) ?_
 ·conv=>whnf
  repeat' first|(refine LookP.mk _ rfl ?_;conv=>whnf)
  refine zoz (za3 Tryz.func226 chk226') (c226 hMp) qag (fun i v h=>by
   match i,h with
   | 0,h=>cases h;rfl
   | 1,h=>cases h;rfl
   | i+2,h=>cases h) rfl ?_
  intro M1 hM1
  unfold mxD
  generalize ((List.range (mtA k)).map fun b=>[D.sl (mrow k b) true])=MT at hMl hMg⊢
  have hz0:some (Blk.arr 5 (List.replicate ((V.length:Nat):Int).toNat [AV.d (iD 0),.d (iD 0),.d (iD 0),.d (iD 0),.d (iD 0)]))=some (dblk 5 ((outR (fun q=>ln (mtE k+M) (gC k a b u q)) 0 zN V.length).map nmL)):=by
   rw[outR_0,Int.toNat_natCast]
   unfold dblk
   rw[List.map_replicate,List.map_replicate];rfl
  conv=>whnf
  repeat' first|((first|refine ShlP.mk _ rfl ?_|(refine And.intro (by first|exact⟨Int.natCast_nonneg _,rfl,by show 40*((V.length:Nat):Int).toNat<=281474976710656;rw[Int.toNat_natCast];omega,by decide,by decide⟩|assumption|exact⟨by kernel_rfl,rfl⟩|decide|omega) ?_)|fail);conv=>whnf)|fail
  refine zaq pok (fun r=>⟨[(1,.d (.sl V t)),(5,.ptr 20 4 0 0),(8,.d (.sl MT true)),(9,.sl 21 5 0 V.length V.length true),(31,.d (iD V.length)),(32,.d (iD r))],[(6,some (.map (M1.map toK))),(20,some (.arr 4 [[.d (iD k),.d (.sl W wu),.d (iD gb),.d (iD gi)]])),(21,some (dblk 5 ((outR (fun q=>ln (mtE k+M) (gC k a b u q)) r zN V.length).map nmL)))],22⟩) (V.length) (fun _=>True) (trivial) ?_ qah ?_ ?_
  ·refine zac qac ?_ ?_ trivial
   ·exact qae
   ·repeat' first|exact trivial|refine⟨⟨ltB rfl,_,rfl,by first|rfl|assumption|exact hz0,by first|exact zae rfl|exact zaa _ _ _|exact zab rfl|exact trivial⟩,?_⟩
  ·intro r A_r h_r I_r N_r
   have e_r:iadd .i64 (r:Int) 1=((r+1:Nat):Int):=zah qbl
   have hr16:r<16:=qad
   have hinr:=hin r hr16
   have hib:=inN_lt k a b r
   have hacc:=accF_gC hk u r
   have hnext:=outR_next (fun q=>ln (mtE k+M) (gC k a b u q)) r V.length
   have hnn:∀ n:Nat,(0:Int)<=(n:Int):=fun n=>Int.natCast_nonneg n
   rw[<- hnext]at N_r
   have hfrr:=fun c (hc:c<mtA k)=>hfr r c hr16 hc
   have hfll:=fun c=>hfl r c h_r
   have hub:∀ c,c<mtA k->P4.Bd 128 (emb (u (frN k a b r c))):=fun c _=>hu _ (hfll c)
   have habd:=accF_bd (b:=inN k a b r) (fr:=frN k a b r) hub
   have hcnt:=cntF_le hck hib
   have hVgg:=fun c=>hVg (frN k a b r c) (hfll c)
   have hmrow:=hMg (inN k a b r) hib
   have hml:(mrow k (inN k a b r)).length=mtA k:=by unfold mrow;simp
   have hmg:∀ c:Nat,c<mtA k->(mrow k (inN k a b r))[(c:Int).toNat]?=some (amL (mt k (inN k a b r) c) (mtE k)):=fun c hc=>by
    unfold mrow
    rw[Int.toNat_natCast,List.getElem?_map,List.getElem?_range hc];rfl
   have hm4:=fun c p (h:mt k (inN k a b r) c=some p)=>mt_lt hck hib h
   generalize inN k a b r=bi at hinr hacc habd hcnt hmrow hml hmg hm4
   generalize frN k a b r=fr at hacc habd hVgg hfrr hfll hub
   conv=>whnf
   repeat (refine LookP.mk _ rfl ?_;conv=>whnf)
   intro t ht
   cases t
   ·exact qbh
   conv=>whnf
   repeat' first|(refine LookP.mk _ rfl ?_;conv=>whnf)
   refine zaq pok (fun q=>⟨[(1,.d (.sl V t)),(5,.ptr 20 4 0 0),(8,.d (.sl MT true)),(9,.sl 21 5 0 V.length V.length true),(10,.d (iD r)),(11,.d (iD (inI r ws q))),(12,.d (iD (rsI2 r ws q))),(31,.d (iD V.length)),(32,.d (iD r)),(37,.d (.sl W wu)),(38,.d (iD W.length)),(39,.d (iD q))],[(6,some (.map (M1.map toK))),(20,some (.arr 4 [[.d (iD k),.d (.sl W wu),.d (iD gb),.d (iD gi)]])),(21,some (dblk 5 ((outR (fun q=>ln (mtE k+M) (gC k a b u q)) r zN V.length).map nmL)))],22⟩) (ws.length) (fun _=>True) (trivial) ?_ qah ?_ ?_
   ·exact qho
   ·intro q A_q h_q I_q N_q
    have e_q:iadd .i64 (q:Int) 1=((q+1:Nat):Int):=zah qbl
    have hq2:decide ((q:Int)<(W.length:Int))=true:=decide_eq_true qad
    have hWq:=hWg q h_q
    rw[inI_s,rsI_s]at N_q
    conv=>whnf
    repeat' first|((first|refine LookP.mk _ (by first|rfl|exact hWq) ?_|refine And.intro qbs ?_|refine knownB hq2 ?_);conv=>whnf)
    refine N_q _ ?_ ?_
    ·exact qbj
    ·refine zac qac ?_ ?_ trivial
     ·exact qa1
     ·exact qau
   ·intro A_last I_last
    have hq2:decide ((ws.length:Int)<(W.length:Int))=false:=decide_eq_false qad
    conv=>whnf
    repeat' first|((first|refine LookP.mk _ (by first|rfl|exact hmrow) ?_|refine And.intro qbs ?_|refine knownB hq2 ?_|rw[hinr]);conv=>whnf)
    generalize mrow k bi=R at hml hmg⊢
    refine zaq pok (fun c=>⟨[(1,.d (.sl V t)),(5,.ptr 20 4 0 0),(8,.d (.sl MT true)),(9,.sl 21 5 0 V.length V.length true),(10,.d (iD r)),(12,.d (iD (rsI2 r ws ws.length))),(15,.d (.bool (accF k bi fr u c).isNone)),(31,.d (iD V.length)),(32,.d (iD r)),(60,.d (.sl R true)),(61,.d (iD R.length)),(62,.d (iD c))],[(6,some (.map (M1.map toK))),(20,some (.arr 4 [[.d (iD k),.d (.sl W wu),.d (iD gb),.d (iD gi)]])),(21,some (dblk 5 ((outR (fun q=>ln (mtE k+M) (gC k a b u q)) r (accN (mtE k+M) (accF k bi fr u c)) V.length).map nmL)))],22⟩) ((mtA k)) (fun _=>True) (trivial) ?_ qah ?_ ?_
    ·exact qho
    ·intro c A_c h_c I_c N_c
     have e_c:iadd .i64 (c:Int) 1=((c+1:Nat):Int):=zah qbl
     have hc2:decide ((c:Int)<(R.length:Int))=true:=decide_eq_true qad
     have hgc:=hmg c h_c
     have hbc:=habd c qad
     have hcc:=hcnt c qad
     have eA:accF k bi fr u (c+1)=match mt k bi c with
      | none=>accF k bi fr u c
      | some p=>some (match accF k bi fr u c with
       | none=>trn p (u (fr c))
       | some x=>cadd x (trn p (u (fr c)))):=rfl
     cases hm:mt k bi c with
     | none =>
      have zz:([(0:Int),0,0,0,0]==[0,0,0,0,0])=true:=rfl
      rw[hm]at eA hgc
      have eA:accF k bi fr u (c+1)=accF k bi fr u c:=eA
      rw[eA]at N_c
      rw[show amL none (mtE k)=[iD 0,iD 0,iD 0,iD 0,iD 0] from rfl]at hgc
      generalize accF k bi fr u c=o at N_c⊢
      conv=>whnf
      repeat' first|((first|refine LookP.mk _ (by first|rfl|exact hgc) ?_|refine ShlP.mk _ qaa ?_|refine And.intro qbi ?_|refine knownB hc2 ?_|refine knownB zz ?_|refine HpP.force ?_);conv=>whnf)
      refine N_c _ ?_ ?_
      ·exact qbj
      ·refine zac qac ?_ ?_ trivial
       ·exact qb0
       ·exact qau
     | some p =>
      have hp4:=hm4 c p hm
      have hu1:=hub c h_c
      have hf:=hfrr c h_c
      have hV1:=hVgg c
      have cM:=mulX (p:=p) (e:=mtE k) (M:=M) (u:=u (fr c)) hp4 hE1 qad (hu1.mono qag)
      have htb:=trn_bd p hu1
      obtain⟨x0,x1,x2,x3,x4,hx⟩:=zt9 (some p) (mtE k)
      have hnz:=am_nz hp4 hx
      rw[hm]at eA hgc
      unfold amD at cM
      rw[hx]at hgc cM
      conv=>whnf
      repeat' first|((first|refine LookP.mk _ (by first|rfl|exact hgc) ?_|refine ShlP.mk _ qaa ?_|refine And.intro qbi ?_|refine knownB hc2 ?_|refine knownB hnz ?_|refine HpP.force ?_);conv=>whnf)
      refine zaq pok (fun q=>⟨[(1,.d (.sl V t)),(5,.ptr 20 4 0 0),(8,.d (.sl MT true)),(9,.sl 21 5 0 V.length V.length true),(10,.d (iD r)),(12,.d (iD (rsI2 r ws ws.length))),(15,.d (.bool (accF k bi fr u c).isNone)),(16,.d (iD c)),(17,.ptr 22 5 0 0),(18,.d (iD (frI r ws c q))),(31,.d (iD V.length)),(32,.d (iD r)),(60,.d (.sl R true)),(61,.d (iD R.length)),(62,.d (iD c)),(72,.d (.sl W wu)),(73,.d (iD W.length)),(74,.d (iD q))],[(6,some (.map (M1.map toK))),(20,some (.arr 4 [[.d (iD k),.d (.sl W wu),.d (iD gb),.d (iD gi)]])),(21,some (dblk 5 ((outR (fun q=>ln (mtE k+M) (gC k a b u q)) r (accN (mtE k+M) (accF k bi fr u c)) V.length).map nmL))),(22,some (.arr 5 [[iD x0,iD x1,iD x2,iD x3,iD x4].map AV.d]))],23⟩) (ws.length) (fun _=>True) (trivial) ?_ qah ?_ ?_
      ·exact qho
      ·intro q A_q h_q I_q N_q
       have e_q:iadd .i64 (q:Int) 1=((q+1:Nat):Int):=zah qbl
       have hq2:decide ((q:Int)<(W.length:Int))=true:=decide_eq_true qad
       have hWq:=hWg q h_q
       rw[frI_s]at N_q
       conv=>whnf
       repeat' first|((first|refine LookP.mk _ (by first|rfl|exact hWq) ?_|refine And.intro qbs ?_|refine knownB hq2 ?_);conv=>whnf)
       refine N_q _ ?_ ?_
       ·exact qbj
       ·refine zac qac ?_ ?_ trivial
        ·exact qa1
        ·exact qau
      ·intro A_last I_last
       have hq2:decide ((ws.length:Int)<(W.length:Int))=false:=decide_eq_false qad
       have z0:((0:Int) != 0)=false:=rfl
       have z1:((0:Int)==0)=true:=rfl
       have hat:=fun x=>outR_at (fun q=>ln (mtE k+M) (gC k a b u q)) (r:=r) (N:=V.length) x h_r
       have hset:=fun x y=>outR_blk (fun q=>ln (mtE k+M) (gC k a b u q)) (r:=r) (N:=V.length) x y
       cases ho:accF k bi fr u c with
       | none =>
        rw[ho]at eA
        have eA:accF k bi fr u (c+1)=some (trn p (u (fr c))):=eA
        rw[eA,show accN (mtE k+M) (some (trn p (u (fr c))))=ln (mtE k+M) (trn p (u (fr c))) from rfl]at N_c
        have hg1:=hat (accN (mtE k+M) none)
        have hs1:=hset (accN (mtE k+M) none) (ln (mtE k+M) (trn p (u (fr c))))
        generalize ln (mtE k+M) (trn p (u (fr c)))=y at cM hs1 N_c
        conv=>whnf
        repeat' first|((first|refine LookP.mk _ (by first|rfl|exact hV1|exact hg1) ?_|refine ShlP.mk _ qaa ?_|refine And.intro qbs ?_|refine knownB hq2 ?_|rw[hf]|refine zam cM ?_|refine knownB z1 ?_|refine knownB z0 ?_|refine HpP.force ?_);conv=>whnf)
        refine N_c _ ?_ ?_
        ·exact qbj
        ·refine zac qac ?_ ?_ trivial
         ·exact qb0
         ·exact qci
       | some x =>
        rw[ho]at eA
        have eA:accF k bi fr u (c+1)=some (cadd x (trn p (u (fr c)))):=eA
        rw[eA]at N_c
        have hxb:=(hbc x ho).mono (show(128:Int)*((cntF k bi c:Nat):Int)<=500 by omega)
        have c2:=add2 (K:=mtE k+M) qad hxb (htb.mono qag) true
        have hg1:=hat (accN (mtE k+M) (some x))
        have hs1:=hset (accN (mtE k+M) (some x)) (ln (mtE k+M) (cadd x (trn p (u (fr c)))))
        have eX:accN (mtE k+M) (some x)=ln (mtE k+M) x:=rfl
        rw[eX]at hg1 hs1
        rw[show accN (mtE k+M) (some (cadd x (trn p (u (fr c)))))=ln (mtE k+M) (cadd x (trn p (u (fr c)))) from rfl]at N_c
        rw[eX]
        generalize ln (mtE k+M) (cadd x (trn p (u (fr c))))=s2 at c2 hs1 N_c
        generalize ln (mtE k+M) (trn p (u (fr c)))=y at cM c2
        generalize ln (mtE k+M) x=s1 at c2 hg1 hs1⊢
        conv=>whnf
        repeat' first|((first|refine LookP.mk _ (by first|rfl|exact hV1|exact hg1) ?_|refine ShlP.mk _ qaa ?_|refine And.intro qbs ?_|refine knownB hq2 ?_|rw[hf]|refine zam cM ?_|refine zam c2 ?_|refine knownB z1 ?_|refine knownB z0 ?_|refine HpP.force ?_);conv=>whnf)
        refine N_c _ ?_ ?_
        ·exact qbj
        ·refine zac qac ?_ ?_ trivial
         ·exact qb0
         ·exact qci
    ·intro A_last I_last
     have hc2:decide (((mtA k:Nat):Int)<(R.length:Int))=false:=decide_eq_false qad
     rw[hacc]
     conv=>whnf
     repeat' first|(refine knownB hc2 ?_;conv=>whnf)
     refine N_r _ ?_ ?_
     ·exact qbj
     ·refine zac qac ?_ ?_ trivial
      ·repeat' first|exact trivial|refine⟨⟨by first|rfl|assumption|exact congrArg (fun n=>AV.d (iD n)) e_r,rfl⟩,?_⟩
      ·exact qau
  ·intro A_last I_last
   have hr2:decide (((V.length:Nat):Int)<((V.length:Nat):Int))=false:=decide_eq_false qad
   rw[outR_all]
   conv=>whnf
   repeat' first|(refine knownB hr2 ?_;conv=>whnf)
   exact fin ⟨M1,hM1,rfl,rfl,rfl⟩
 ·rintro x H n ⟨M',h1,rfl,h4,h5⟩
  refine⟨21,_,.tup [.sl ((lN (gC k a b u) (mtE k+M) V.length).map nmL) true,iD 0],h5,zwo (zda (zaf _ _ _) qey) (.d _),M',h1,rfl,?_⟩
  show AHeap.get (AHeap.del H 21) 6=_
  rw[za8,if_neg qag];exact h4
 ·rintro x H n ⟨M',h1,rfl,h4⟩
  refine⟨_,[(6,some (.map (M'.map toK)))],20,?_,M',h1,rfl,rfl⟩
  exact zac (Nat.le_refl _) ⟨⟨rfl,rfl⟩,trivial⟩ ⟨⟨ltB rfl,_,rfl,h4,trivial⟩,trivial⟩ trivial
end Go.Tz
namespace Go.Tz
open Go Go.AL Go.Proofs
variable{G:Nat->Option (List D)}
def a8(l:List Int):List D:=(l++List.replicate (8-l.length) 0).map iD
theorem a8_len{l:List Int}(h:l.length<=8):(a8 l).length=8:=by
 unfold a8;simp;omega
theorem int_el(l:List Int):∀ el,el∈l.map (fun k=>[iD k])->el.length=1:=fun el h=>by
 obtain⟨q,_,rfl⟩:=List.mem_map.1 h;rfl
theorem a8_ne{l:List Int}(h:l.length<=8):(a8 l).map AV.d≠[]:=fun e=>by
 have:=congrArg List.length e
 rw[List.length_map,a8_len h]at this
 cases this
theorem a8_ex{l:List Int}(h:l.length<=8):∃ x0 x1 x2 x3 x4 x5 x6 x7:Int,l++List.replicate (8-l.length) 0=[x0,x1,x2,x3,x4,x5,x6,x7]/\a8 l=[iD x0,iD x1,iD x2,iD x3,iD x4,iD x5,iD x6,iD x7]:=by
 have e:(l++List.replicate (8-l.length) 0).length=8:=qbo
 unfold a8
 match l++List.replicate (8-l.length) 0,e with
 | [x0,x1,x2,x3,x4,x5,x6,x7],_=>exact⟨x0,x1,x2,x3,x4,x5,x6,x7,rfl,rfl⟩
theorem over_a8{l:List Int}(h:l.length<=8):over ((a8 []).map fun v=>[AV.d v]) 0 (((l.map fun k=>[iD k]).map fun x=>x.map AV.d).take 8)=((a8 l).map AV.d).map fun v=>[v]:=by
 have e1:((a8 []).map fun v=>[AV.d v])=List.replicate 8 [AV.d (iD 0)]:=rfl
 have e2:(((l.map fun k=>[iD k]).map fun x=>x.map AV.d).take 8)=l.map fun k=>[AV.d (iD k)]:=by
  rw[List.take_of_length_le qa6,List.map_map];rfl
 rw[e1,e2]
 unfold over a8
 rw[List.take_zero,List.nil_append,Nat.zero_add,List.length_map,List.drop_replicate,List.map_append,List.map_append,List.map_append,List.map_map,List.map_map,List.map_replicate,List.map_replicate,List.map_replicate]
 rfl
theorem arr215:Pr.underlying 215=some (.array 8 3):=qah
theorem elt3:∃ B z,EOk Pr 3 1 B z:=⟨_,_,(tab_ok.get (t:=3) (by rfl)).1⟩
theorem chk171:chkFnH [2] Tryz.f171=true:=qah
theorem zq9{l:List Int}(t:Bool)(h:l.length<=8):PC Pr G 171 [intsD l t] (.agg (a8 l)):=by
 refine zva pok [2] Tryz.func171 chk171 ?_
 conv=>whnf
 skip
 refine zqr pok (l1:=[]) rfl rfl (fun c h=>nomatch h) qah ?_
 conv=>whnf
 obtain⟨B,z,he⟩:=elt3
 refine OneVC.mk _ _ (zun (nm:=0+1) rfl (H':=(0+1,some (.arr 1 ((a8 []).map fun v=>[AV.d v])))::_) (fun m hm=>zad _ _ hm) (zaf _ _ _)) (zhj rfl arr215 he rfl (zaf _ _ _) qag (Nat.le_refl _) qag rfl) ?_
 conv=>whnf
 repeat' first|((first|refine ShlP.mk _ (by first|exact over_a8 h|rfl) ?_|refine And.intro (by first|exact int_el l|decide|assumption|exact⟨by kernel_rfl,rfl⟩|decide|omega) ?_|rw[ints_sc l]|refine HpP.force ?_);conv=>whnf)
 refine fin ⟨_,sub_shut (nm:=0+1) (sz:=8) (H':=(0+1,some (.arr 8 [(a8 l).map AV.d]))::_) (by rw[List.length_map];exact a8_len h) (a8_ne h) (zaf _ _ _) (fun m hm=>zad _ _ hm) (zaf _ _ _),?_⟩
 obtain⟨x0,x1,x2,x3,x4,x5,x6,x7,hy,hx⟩:=a8_ex h
 rw[hx]
 conv=>whnf
 repeat' first|((first|refine LookP.mk _ rfl ?_|refine ShlP.mk _ qaa ?_|refine HpP.force ?_);conv=>whnf)
 exact fin rfl
theorem flats_d:∀ l:List D,AV.flats (l.map AV.d)=D.flats l
 | []=>rfl
 | x::l=>by show(x.flat&&AV.flats (l.map AV.d))=_;rw[flats_d l];rfl
theorem lend24{nm N R nx:Nat}{t:Bool}{es:List (List D)}{H:AHeap}{k:AV->AHeap->Nat->Prop}(hg:H.get nm=some (dblk 1 es))(hes:∀ el,el∈es->el.length=1)(hfl:∀ el,el∈es->D.flats el=true)(hsc:((es.map (·.map AV.d)).all fun el=>el.all AV.scalar)=true)(h0:0<N)(hN:N<=es.length)(hR:N<=R/\R<=es.length)(hbig:es.length<=1000000)
  (hk:k (.sl nx 1 0 N N false) ((nx,some (dblk 1 (es.take N)))::H) (nx+1)):CallVC Pr G 24 [.sl nm 1 0 N R t] H nx k:=by
 have hl:(es.take N).length=N:=qbu
 have ha:=zea (H:=H) (lo:=0) (len:=N) (room:=R) (t:=t) hg qad
 refine⟨za3 Tryz.func24 chk24,zj0 (ds:=[.sl (es.take N) (t&&decide (R=N))]) (clone24n (es.take N) _ (fun el h=>hes el (List.mem_of_mem_take h)) ?_ qad) rfl (fun i v d a1 a2=>?_) ?_⟩
 ·rw[List.map_take]
  exact List.all_eq_true.2 fun x hx=>List.all_eq_true.1 hsc x (List.mem_of_mem_take hx)
 ·match i,a1,a2 with
  | 0,a1,a2=>simp at a1 a2;subst a1 a2;simpa using ha
  | i+1,a1,_=>simp at a1
 ·rintro v M m (⟨rfl,he,_⟩|⟨rfl,rfl,rfl⟩)
  ·rw[he]at hl;simp at hl;omega
  ·rw[hl]
   refine⟨rfl,fun m bl hm=>?_,?_⟩
   ·rw[zaj]at hm
    by_cases e:m=0
    ·rw[if_pos e]at hm
     cases hm
     show(((es.take N).map fun el=>el.map AV.d).all AV.flats)=true
     refine List.all_eq_true.2 fun x hx=>?_
     obtain⟨el,h1,rfl⟩:=List.mem_map.1 hx
     rw[flats_d];exact hfl el (List.mem_of_mem_take h1)
    ·exact qdk
   ·have e:(dblk 1 (es.take N)).ren (· + nx)=dblk 1 (es.take N):=zbf _ _ _
    show k (.sl (0+nx) 1 0 N N false) ((0+nx,some ((dblk 1 (es.take N)).ren (· + nx)))::H) (nx+1)
    rw[e,Nat.zero_add]
    exact hk
theorem chk234:chkFnH [3] Tryz.f234=true:=qah
def pathD(l:List Int):D:=.agg (a8 l++[iD l.length])
theorem zs7{l:List Int}(hl:l.length<=8):PC Pr G 234 [pathD l] (intsD l l.isEmpty):=by
 unfold pathD
 obtain⟨x0,x1,x2,x3,x4,x5,x6,x7,hy,hx⟩:=a8_ex hl
 refine zck (zio Tryz.func234 chk234) (zk0 pok [3] Tryz.func234 chk234 ?_)
 cases l with
 | nil =>
  rw[hx,List.cons_append,List.cons_append,List.cons_append,List.cons_append,List.cons_append,List.cons_append,List.cons_append,List.cons_append,List.nil_append]
  conv=>whnf
  have hz:((([]:List Int).length:Int)==0)=true:=rfl
  repeat' first|((first|refine LookP.mk _ rfl ?_|refine knownB hz ?_);conv=>whnf)
  exact fin (AsD.d _)
 | cons y l =>
  have hne:(((y::l).length:Int)==0)=false:=qbo
  have hle:((y::l).length:Int)<=8:=qad
  have hnn:(0:Int)<=((y::l).length:Nat):=Int.natCast_nonneg _
  have hlen:(y::l).length<=8:=hl
  have h0:0<(y::l).length:=qc3
  generalize hN:(y::l).length=N at hne hle hnn hlen h0
  rw[hx,List.cons_append,List.cons_append,List.cons_append,List.cons_append,List.cons_append,List.cons_append,List.cons_append,List.cons_append,List.nil_append]
  conv=>whnf
  repeat' first|((first|refine LookP.mk _ rfl ?_|refine knownB hne ?_);conv=>whnf)
  refine zqr pok (l1:=[_,_,_]) rfl rfl (fun c h=>nomatch h) qah ?_
  conv=>whnf
  repeat' first|(refine LookP.mk _ rfl ?_;conv=>whnf)
  obtain⟨B,z,he⟩:=elt3
  refine OneVC.mk _ _ (zun (nm:=0) rfl (H':=(0,some (dblk 1 ([x0,x1,x2,x3,x4,x5,x6,x7,(N:Int)].map fun k=>[iD k])))::_) (fun m hm=>zad _ _ hm) (zaf _ _ _)) (zhj (h:=N) rfl arr215 he rfl (zaf _ _ _) (Nat.le_of_ble_eq_true rfl) hlen qag ⟨_,_,rfl,hnn,Int.toNat_natCast _⟩) ?_
  conv=>whnf
  skip
  refine lend24 (es:=[x0,x1,x2,x3,x4,x5,x6,x7,(N:Int)].map fun k=>[iD k]) rfl (int_el _) (fun el h=>by obtain⟨q,_,rfl⟩:=List.mem_map.1 h;rfl) (ints_sc _) h0 (show N<=9 by omega) ⟨hlen,Nat.le_of_ble_eq_true rfl⟩ (Nat.le_of_ble_eq_true rfl) ?_
  conv=>whnf
  skip
  refine fin ⟨_,Sub.refl,?_⟩
  conv=>whnf
  skip
  refine fin ?_
  have e1:([x0,x1,x2,x3,x4,x5,x6,x7,(N:Int)].map fun k=>[iD k]).take N=(y::l).map fun k=>[iD k]:=by
   rw[<- List.map_take]
   refine congrArg _ ?_
   have e2:[x0,x1,x2,x3,x4,x5,x6,x7,(N:Int)]=(y::l)++(List.replicate (8-(y::l).length) 0++[(N:Int)]):=by
    rw[<- List.append_assoc,hy];rfl
   rw[e2,<- hN,List.take_left]
  rw[e1]
  exact zda (t:=false) (zaf _ _ _) (by rw[List.length_map,hN])
end Go.Tz
namespace Go.Tz
open Go Go.AL Go.Proofs Go.Ma
variable{w:Nat}{b:Int}{wa:List Int}{l:List Ps}{gs:List Gt}
theorem sm_pos:∀(k:Nat) (f:Nat->Cx),(∀ v,v<2^k->0<=(f v).1)->0<=(sm k f).1 /\ ∀ v,v<2^k->(f v).1<=(sm k f).1
 | 0,f,h=>⟨h 0 qag,fun v hv=>by
   have:v=0:=by simpa using hv
   subst this;exact Int.le_refl _⟩
 | k+1,f,h=>by
  have e:2^(k+1)=2^k+2^k:=qb1
  have hk:(2:Nat)^k<2^(k+1):=by have:=Nat.two_pow_pos k;omega
  obtain⟨a1,a2⟩:=sm_pos k f fun v hv=>h v qad
  obtain⟨b1,b2⟩:=sm_pos k (fun v=>f (v^^^2^k)) fun v hv=>h _ (Nat.xor_lt_two_pow qad hk)
  have es:(sm (k+1) f).1=(sm k f).1+(sm k fun v=>f (v^^^2^k)).1:=rfl
  refine⟨by omega,fun v hv=>?_⟩
  rcases Nat.lt_or_ge v (2^k) with q|q
  ·have:=a2 v q;omega
  ·have h1:v^^^2^k<2^k:=by
    have hb:v.testBit k=true:=by
     rw[Nat.testBit_eq_decide_div_mod_eq]
     have:v / 2^k=1:=by
      refine Nat.div_eq_of_lt_le ?_ ?_<;>omega
     rw[this];rfl
    refine Nat.lt_pow_two_of_testBit _ fun i hi=>?_
    rw[Nat.testBit_xor,Nat.testBit_two_pow]
    rcases Nat.lt_or_ge k i with q2|q2
    ·have:v.testBit i=false:=Nat.testBit_lt_two_pow (Nat.lt_of_lt_of_le hv (Nat.pow_le_pow_right qag q2))
     rw[this];simp;omega
    ·have:i=k:=by omega
     subst this;rw[hb];simp
   have:=b2 _ h1
   rw[zau]at this
   omega
theorem znf{a c n:Int}(hn:0<=n)(h:a*a+c*c<=n*n):-n<=a/\a<=n:=by
 have hc:0<=c*c:=by
  rcases Int.le_total 0 c with q|q
  ·exact qew
  ·exact qco
 refine⟨Int.not_lt.1 fun q=>?_,Int.not_lt.1 fun q=>?_⟩
 ·have:(n+1)*(n+1)<=(-a)*(-a):=Int.mul_le_mul qad qad qad qad
  rw[Int.neg_mul_neg,Int.add_mul,Int.mul_add]at this
  omega
 ·have:(n+1)*(n+1)<=a*a:=Int.mul_le_mul qad qad qad qad
  rw[Int.add_mul,Int.mul_add]at this
  omega
theorem jv_bd{r:List Ps}{c:Nat}{f:Fs}(h:Jv w r c f)(hm:f.m<=14):∀ k,k<2^w->P4.Bd 128 (emb (f.u k)):=fun k hk=>by
 have hc:∀ v,(cip (f.u v) (f.u v)).1=(f.u v).1*(f.u v).1+(f.u v).2*(f.u v).2:=fun v=>rfl
 have sqn:∀ c:Int,0<=c*c:=fun c=>by
  rcases Int.le_total 0 c with q|q
  ·exact qew
  ·exact qco
 obtain⟨h0,h1⟩:=sm_pos w (fun v=>cip (f.u v) (f.u v)) fun v _=>by
  rw[hc];exact Int.add_nonneg (sqn _) (sqn _)
 have hn:(2^c:Int)*(inn w f.u f.u).1=2^f.m:=congrArg Prod.fst h.nrm
 have h2:=h1 k hk
 rw[hc]at h2
 change 0<=(inn w f.u f.u).1 at h0
 change _<=(inn w f.u f.u).1 at h2
 generalize (inn w f.u f.u).1=X at h0 h2 hn
 have hp:(1:Int)<=2^c:=by
  have:(0:Int)<2^c:=Int.pow_pos qag
  omega
 have hX:X<=16384:=by
  have a1:1*X<=2^c*X:=Int.mul_le_mul_of_nonneg_right hp h0
  have a2:(2:Int)^f.m<=2^14:=by
   have:=Nat.pow_le_pow_right (n:=2) qag hm
   exact_mod_cast this
  have a3:(2:Int)^14=16384:=qag
  omega
 have b1:=znf (n:=128) qag (show(f.u k).1*(f.u k).1+(f.u k).2*(f.u k).2<=128*128 by omega)
 have b2:=znf (n:=128) qag (show(f.u k).2*(f.u k).2+(f.u k).1*(f.u k).1<=128*128 by omega)
 exact⟨b1.1,b1.2,(by decide:(-128:Int)<=0),(by decide:(0:Int)<=128),b2.1,b2.2,(by decide:(-128:Int)<=0),(by decide:(0:Int)<=128)⟩
theorem zmi(B:Nat->Bool):∀ n,(∀ j,j<n->B j=false) \/ ∃ j,j<n/\B j=true /\ ∀ i,i<j->B i=false
 | 0=>.inl fun _ h=>by omega
 | n+1=>by
  rcases zmi B n with h|⟨j,h1,h2,h3⟩
  ·cases e:B n with
   | false =>
    refine .inl fun j hj=>?_
    rcases Nat.lt_or_ge j n with q|q
    ·exact h j q
    ·rw[show j=n by omega];exact e
   | true=>exact .inr ⟨n,by omega,e,h⟩
  ·exact .inr ⟨j,by omega,h2,h3⟩
def badI(w:Nat)(wa:List Int)(b:Int)(gs:List Gt)(j:Nat):Bool:=badA w wa b (zeroS w) gs j (gs.getD j g00)
theorem zh2{j:Nat}(h:j<gs.length):badI w wa b gs j=badA w wa b (zeroS w) gs j gs[j]:=by
 unfold badI
 rw[List.getD_eq_getElem?_getD,List.getElem?_eq_getElem h];rfl
theorem run_bd(hw:1<=w/\w<=12)(hA:AOk w b gs wa)(h0:SOk w (zeroS w)){i:Nat}(hi:i<=gs.length)(h14:i<=14):∀ k,k<2^w->P4.Bd 128 (emb ((runF w wa b (zeroS w) gs i).u k)):=fun k hk=>by
 have hm:=runF_m (w:=w) (b:=b) (wa:=wa) (l:=zeroS w) (gs:=gs) i
 rcases zmi (badI w wa b gs) i with h|⟨j,h1,h2,h3⟩
 ·exact jv_bd (zvp hw hA h0 i hi fun j hj hji=>by rw[<- zh2 hj];exact h j hji) qad k hk
 ·have hj:j<gs.length:=by omega
  rw[zwf hw hA h0 hj (by rw[<- zh2 hj];exact h2) (fun q hq hqj=>by rw[<- zh2 hq];exact h3 q hqj) i h1 hi k hk]
  exact⟨by decide,by decide,by decide,by decide,by decide,by decide,by decide,by decide⟩
theorem run_k:∀ i,i<=gs.length->(runA w wa b l (gs.take i)).k=(gs.take i).countP mB
 | 0,_=>rfl
 | i+1,h=>by
  have ih:=run_k i qad
  rw[zee h,zbe h,List.countP_append,<- ih]
  unfold stepA
  by_cases e:mB gs[i]=true
  ·rw[if_pos e];simp[e]
  ·rw[if_neg e]
   simp only[List.countP_cons,List.countP_nil,if_neg e]
   split<;>rfl
theorem run_bs(hA:AOk w b gs wa):∀ i,i<=gs.length->((runA w wa b l (gs.take i)).bs.length:Int)=b /\ ∀ x,x∈(runA w wa b l (gs.take i)).bs->x=0\/x=1
 | 0,_=>⟨by show((List.replicate b.toNat (0:Int)).length:Int)=b;rw[List.length_replicate];have:=hA.hb;omega,fun x hx=>.inl (List.eq_of_mem_replicate hx)⟩
 | i+1,h=>by
  obtain⟨h1,h2⟩:=run_bs hA i qad
  rw[zee h]
  generalize runA w wa b l (gs.take i)=s at h1 h2⊢
  unfold stepA
  by_cases e:mB gs[i]=true
  ·rw[if_pos e]
   dsimp only
   split
   ·refine⟨by rw[List.length_set];exact h1,fun x hx=>?_⟩
    rcases List.mem_or_eq_of_mem_set hx with q|q
    ·exact h2 x q
    ·rw[q];exact(zho hA.bit s.k).1
   ·exact⟨h1,h2⟩
  ·rw[if_neg e]
   split<;>exact⟨h1,h2⟩
end Go.Tz
namespace Go.Tz
open Go Go.AL Go.Proofs Go.Ma
def bitsN:List Int->Nat
 | []=>0
 | x::l=>x.toNat+2*bitsN l
def B01(l:List Int):Prop:=∀ x,x∈l->x=0\/x=1
theorem B01.tail{x:Int}{l:List Int}(h:B01 (x::l)):B01 l:=fun y hy=>h y (List.mem_cons_of_mem _ hy)
theorem B01.head{x:Int}{l:List Int}(h:B01 (x::l)):x=0\/x=1:=h x (List.mem_cons_self ..)
theorem zk5:∀{l:List Int},B01 l->bitsN l<2^l.length
 | [],_=>by decide
 | x::l,h=>by
  have ih:=zk5 h.tail
  have:=h.head
  show x.toNat+2*bitsN l<2^(l.length+1)
  rw[Nat.pow_succ];omega
theorem zmv:∀{l:List Int},B01 l->∀ j,(bitsN l).testBit j=decide (l.getD j 0=1)
 | [],_,j=>by simp[bitsN]
 | x::l,h,0=>by
  have:=h.head
  show(x.toNat+2*bitsN l).testBit 0=decide (x=1)
  rw[Nat.testBit_zero]
  have:(x.toNat+2*bitsN l)%2=x.toNat:=qad
  rw[this]
  rcases h.head with rfl|rfl<;>rfl
 | x::l,h,j+1=>by
  have:=h.head
  show(x.toNat+2*bitsN l).testBit (j+1)=decide (l.getD j 0=1)
  rw[Nat.testBit_succ,show(x.toNat+2*bitsN l) / 2=bitsN l by omega]
  exact zmv h.tail j
theorem zrv{o:Int}(ho:o=0\/o=1):∀{l:List Int},B01 l->∀ j,j<l.length->bitsN (l.set j o)+((bitsN l).testBit j).toNat*2^j=bitsN l+o.toNat*2^j
 | [],_,j,hj=>by simp at hj
 | x::l,h,0,_=>by
  rw[zmv h]
  show o.toNat+2*bitsN l+(decide (x=1)).toNat*1=x.toNat+2*bitsN l+o.toNat*1
  rcases h.head with rfl|rfl
  ·show o.toNat+2*bitsN l+0*1=0+2*bitsN l+o.toNat*1;omega
  ·show o.toNat+2*bitsN l+1*1=1+2*bitsN l+o.toNat*1;omega
 | x::l,h,j+1,hj=>by
  have ih:=zrv ho h.tail j qd3
  have hx:=h.head
  have e:(bitsN (x::l)).testBit (j+1)=(bitsN l).testBit j:=by
   show(x.toNat+2*bitsN l).testBit (j+1)=_
   rw[Nat.testBit_succ,show(x.toNat+2*bitsN l) / 2=bitsN l by omega]
  rw[e]
  show x.toNat+2*bitsN (l.set j o)+_*2^(j+1)=x.toNat+2*bitsN l+o.toNat*2^(j+1)
  rw[Nat.pow_succ]
  have e1:((bitsN l).testBit j).toNat*(2^j*2)=2*(((bitsN l).testBit j).toNat*2^j):=by rw[<- Nat.mul_assoc];omega
  have e2:o.toNat*(2^j*2)=2*(o.toNat*2^j):=by rw[<- Nat.mul_assoc];omega
  rw[e1,e2];omega
theorem zrw:∀ n:Nat,bitsN (List.replicate n 0)=0
 | 0=>rfl
 | n+1=>by show(0:Int).toNat+2*bitsN (List.replicate n 0)=0;rw[zrw n];rfl
theorem bit_put{n j o:Nat}(hn:n<64)(hj:j<6)(ho:o<2):ior .i64 (iandNot .i64 (n:Int) (ishl .i64 1 (j:Int))) (ishl .i64 (o:Int) (j:Int))=((n-(n.testBit j).toNat*2^j+o*2^j:Nat):Int):=by
 have h:((List.range 64).all fun n:Nat=>(List.range 6).all fun j:Nat=>(List.range 2).all fun o:Nat=>decide (ior .i64 (iandNot .i64 (n:Int) (ishl .i64 1 (j:Int))) (ishl .i64 (o:Int) (j:Int))=((n-(n.testBit j).toNat*2^j+o*2^j:Nat):Int)))=true:=qah
 exact of_decide_eq_true (List.all_eq_true.1 (List.all_eq_true.1 (List.all_eq_true.1 h n (List.mem_range.2 hn)) j (List.mem_range.2 hj)) o (List.mem_range.2 ho))
theorem bit_set{l:List Int}{j:Int}{o:Int}(h:B01 l)(hl:l.length<=6)(hj:0<=j/\j<l.length)(ho:o=0\/o=1):ior .i64 (iandNot .i64 (bitsN l:Nat) (ishl .i64 1 j)) (ishl .i64 o j)=(bitsN (l.set j.toNat o):Nat):=by
 have hj2:(j.toNat:Int)=j:=qad
 have ho2:(o.toNat:Int)=o:=qad
 have hlt:bitsN l<64:=Nat.lt_of_lt_of_le (zk5 h) (Nat.le_trans (Nat.pow_le_pow_right qag hl) qag)
 have:=bit_put (n:=bitsN l) (j:=j.toNat) (o:=o.toNat) hlt qad qad
 rw[hj2,ho2]at this
 rw[this]
 have h1:=zrv ho h j.toNat qad
 refine congrArg _ ?_
 have h2:((bitsN l).testBit j.toNat).toNat*2^j.toNat<=bitsN l:=by
  cases e:(bitsN l).testBit j.toNat with
  | false=>simp
  | true =>
   have:=Nat.ge_two_pow_of_testBit e
   simpa using this
 omega
theorem bit_ask{l:List Int}{j:Int}(h:B01 l)(hl:l.length<=6)(hj:0<=j/\j<l.length):iand .i64 (ishr .i64 (bitsN l:Nat) j) 1=l.getD j.toNat 0:=by
 have hj2:(j.toNat:Int)=j:=qad
 have hlt:bitsN l<64:=Nat.lt_of_lt_of_le (zk5 h) (Nat.le_trans (Nat.pow_le_pow_right qag hl) qag)
 have:=bits64 (r:=bitsN l) (n:=j.toNat) hlt qad
 rw[hj2]at this
 rw[this,zmv h]
 have hm:l.getD j.toNat 0=0\/l.getD j.toNat 0=1:=by
  rw[List.getD_eq_getElem?_getD,List.getElem?_eq_getElem qad]
  exact h _ (List.getElem_mem _)
 rcases hm with e|e<;>rw[e]<;>rfl
theorem zx8{l:List Int}(h:B01 l):∀{i:Nat},(hi:i<l.length)->bitsN (l.take (i+1))=bitsN (l.take i)+l[i].toNat*2^i:=by
 induction l with
 | nil=>intro i hi;simp at hi
 | cons x l ih =>
  intro i hi
  cases i with
  | zero=>show x.toNat+2*bitsN (l.take 0)=0+x.toNat*1;rw[List.take_zero];show x.toNat+2*0=_;omega
  | succ i =>
   have:=ih h.tail (i:=i) qd7
   show x.toNat+2*bitsN (l.take (i+1))=x.toNat+2*bitsN (l.take i)+(l[i]'qd7).toNat*2^(i+1)
   rw[this,Nat.pow_succ,<- Nat.mul_assoc,Nat.mul_add];omega
end Go.Tz
namespace Go.Tz
open Go Go.AL Go.Proofs Go.Ma
variable{w:Nat}{b:Int}{wa:List Int}{gs:List Gt}
abbrev aS(w:Nat)(wa:List Int)(b:Int)(gs:List Gt)(i:Nat):As:=runA w wa b (zeroS w) (gs.take i)
abbrev fS(w:Nat)(wa:List Int)(b:Int)(gs:List Gt)(i:Nat):Fs:=runF w wa b (zeroS w) gs i
def vFs(w:Nat)(f:Fs):D:=vN (lN f.u f.m (2^w)) true
def vS(w:Nat)(wa:List Int)(b:Int)(gs:List Gt)(i:Nat):D:=vFs w (fS w wa b gs i)
theorem ln_0(M:Nat):ln M (0,0)=zN:=rfl
theorem mkL_lN(n o:Nat)(u:Nat->Cx)(M N:Nat):mkL n o (lN u M N)=lN (mkC n o u) M N:=by
 have hl:(lN u M N).length=N:=zhl u M N
 unfold mkL
 rw[hl]
 unfold lN
 refine List.map_congr_left fun k hk=>?_
 have hk:=List.mem_range.1 hk
 unfold mkC
 split
 ·rw[List.getD_eq_getElem?_getD,List.getElem?_map,List.getElem?_range hk];rfl
 ·exact(ln_0 M).symm
theorem mk_bd{n o:Nat}{u:Nat->Cx}{N:Nat}(h:∀ k,k<N->P4.Bd 128 (emb (u k))):∀ k,k<N->P4.Bd 128 (emb (mkC n o u k)):=fun k hk=>by
 unfold mkC
 split
 ·exact h k hk
 ·exact⟨by decide,by decide,by decide,by decide,by decide,by decide,by decide,by decide⟩
structure FOk (w:Nat) (b:Int) (gs:List Gt) (wa:List Int):Prop where
 a:AOk w b gs wa
 w4:w<=4
 z:SOk w (zeroS w)
 g14:gs.length<=14
 b3:b<=6
 m8:wa.length<=8
theorem fs_bd(h:FOk w b gs wa){i:Nat}(hi:i<=gs.length):∀ k,k<2^w->P4.Bd 128 (emb ((fS w wa b gs i).u k)):=run_bd h.a.hw h.a h.z hi (by have:=h.g14;omega)
theorem fs_m(h:FOk w b gs wa){i:Nat}(hi:i<=gs.length):(fS w wa b gs i).m<=14:=Nat.le_trans (runF_m i) (by have:=h.g14;omega)
theorem gate162(h:FOk w b gs wa){i:Nat}(hi:i<gs.length)(hk:kindB gs[i].k=true){Mp:List (Int×D)}(hMp:MapOk Mp) :
  ACall Pr GK 162 [.map 6,.d (vS w wa b gs i),.d gs[i].d] [(6,some (.map (Mp.map toK)))] 20 fun v H _=>∃ M':List (Int×D),MapOk M'/\v = .d (.tup [vFs w ⟨gC (gK gs[i]) (gA gs[i]) (gB gs[i]) (fS w wa b gs i).u,if gK gs[i]=4 then(fS w wa b gs i).m+1 else(fS w wa b gs i).m⟩,iD 0])/\H=[(6,some (.map (M'.map toK)))]:=by
 obtain⟨h1,h2,h3⟩:=zrg (h.a.gc _ (List.getElem_mem hi)) hk
 have hO:=zmf h.a.hw.2 h1
 have:=zn3 (w:=w) (k:=gK gs[i]) (a:=gA gs[i]) (b:=gB gs[i]) (M:=(fS w wa b gs i).m) (u:=(fS w wa b gs i).u) (gb:=gs[i].b) (gi:=gs[i].i) (wu:=gs[i].u) (t:=true) (Mp:=Mp) hO h.w4 (by unfold gR at h1;omega) (fun q=>by unfold gR at h1;omega) qdd (fs_bd h (Nat.le_of_lt hi)) hMp
 have e1:D.agg [iD (gK gs[i]),intsD ((wsN (gK gs[i]) (gA gs[i]) (gB gs[i])).map fun n:Nat=>(n:Int)) gs[i].u,iD gs[i].b,iD gs[i].i]=gs[i].d:=by
  show _=D.agg gs[i].l
  unfold Gt.l
  rw[h2,h3]
  have e:(wsN (gK gs[i]) (gA gs[i]) (gB gs[i])).map (fun n:Nat=>(n:Int))=wsOf (gK gs[i]) (gA gs[i]) (gB gs[i]):=by
   unfold wsN wsOf
   unfold gR at h1
   by_cases q:gK gs[i]<=6
   ·rw[if_pos q,if_pos qad];rfl
   ·rw[if_neg q,if_neg qad];rfl
  rw[e]
 have e2:mtE (gK gs[i])+(fS w wa b gs i).m=if gK gs[i]=4 then(fS w wa b gs i).m+1 else(fS w wa b gs i).m:=by
  unfold mtE
  split<;>omega
 rw[e1,e2]at this
 exact this
theorem flip162(h:FOk w b gs wa){i:Nat}(hi:i<gs.length)(hm:mB gs[i]=true)(o:Nat){Mp:List (Int×D)}(hMp:MapOk Mp) :
  ACall Pr GK 162 [.map 6,.d (vFs w ⟨mkC (gA gs[i]) o (fS w wa b gs i).u,(fS w wa b gs i).m⟩),.d (.agg [iD 1,intsD gs[i].ws gs[i].u,iD 0,iD 0])] [(6,some (.map (Mp.map toK)))] 20 fun v H _=>∃ M':List (Int×D),MapOk M'/\v = .d (.tup [vFs w ⟨gC 1 (gA gs[i]) 0 (mkC (gA gs[i]) o (fS w wa b gs i).u),(fS w wa b gs i).m⟩,iD 0])/\H=[(6,some (.map (M'.map toK)))]:=by
 obtain⟨h1,h2,_⟩:=zfo (h.a.gc _ (List.getElem_mem hi)) hm
 have:=zn3 (w:=w) (k:=1) (a:=gA gs[i]) (b:=0) (M:=(fS w wa b gs i).m) (u:=mkC (gA gs[i]) o (fS w wa b gs i).u) (gb:=0) (gi:=0) (wu:=gs[i].u) (t:=true) (Mp:=Mp) (x_ok h.a.hw.2 h2) h.w4 h2 (fun q=>by omega) qdd (mk_bd (fs_bd h (Nat.le_of_lt hi))) hMp
 have e2:mtE 1+(fS w wa b gs i).m=(fS w wa b gs i).m:=Nat.zero_add _
 rw[e2]at this
 rw[h1]
 exact this
theorem mea233(h:FOk w b gs wa){i:Nat}(hi:i<gs.length)(hm:mB gs[i]=true){o:Nat}(ho:o<=1):PC Pr GK 233 [vS w wa b gs i,iD (gA gs[i]),iD o] (vFs w ⟨mkC (gA gs[i]) o (fS w wa b gs i).u,(fS w wa b gs i).m⟩):=by
 obtain⟨_,h2,_⟩:=zfo (h.a.gc _ (List.getElem_mem hi)) hm
 have h4:=h.w4
 have hN:2^w<=16:=Nat.pow_le_pow_right (n:=2) qag h4
 have hok:=lN_ok (M:=(fS w wa b gs i).m) (N:=2^w) qdd fun q hq=>(fs_bd h (Nat.le_of_lt hi) q hq).mono qag
 have:=found233 (n:=gA gs[i]) (o:=o) (fun s hs=>(hok s hs).1) (fun s hs=>(hok s hs).2) (by rw[zhl];omega) qad ho true
 rw[mkL_lN]at this
 exact this
end Go.Tz
namespace Go.Tz
open Go Go.AL Go.Proofs Go.Ma
variable{w:Nat}{b:Int}{wa:List Int}{gs:List Gt}{gt wt:Bool}
abbrev R0Y:List AV:=[.d (.sl [] true),.d (iD 0),.d (.sl [] true)]
noncomputable abbrev lpY(E:List (Nat×AV))(s:LoopState)(p:Option Code):Blk:=.lp E Tryz.f85.ntmps #[42,43] (rgA Tryz.f85) (rgB Tryz.f85) s p 10
abbrev E0Y:List (Nat×AV):=[(5,.ptr 1 1 0 0),(6,.ptr 2 3 0 0),(7,.ptr 3 1 0 0)]
abbrev runY(w:Nat)(b:Int)(gs:List Gt)(gt:Bool):Blk:=.arr 6 [[.d (iD w),.d (iD b),.d (gatesD gs gt),.map 6,.fn 169 [] [.ptr 1 1 0 0],.d (.bool true)]]
abbrev onY:Blk:=.arr 1 [[.fn 232 [] [.ptr 8 6 0 0,.ptr 12 1 0 0,.ptr 13 1 0 0]]]
abbrev hOn(w:Nat)(b:Int)(gs:List Gt)(gt:Bool)(wa:List Int)(wt:Bool)(R:List AV)(M:List (Int×D))(L:Blk):AHeap :=
 [(1,some (.arr 1 [[.d (intsD wa wt)]])),(2,some (.arr 3 [R])),(3,some (.arr 1 [[.d (iD 0)]])),(6,some (.map (M.map toK))),(8,some (runY w b gs gt)),(10,some (.raw (.deferred (some [])))),(11,some L),(12,some (.arr 1 [[.yld 11]])),(13,some onY)]
def pS(w:Nat)(wa:List Int)(b:Int)(gs:List Gt)(i:Nat):D:=pathD (wa.take (aS w wa b gs i).k)
def bS(w:Nat)(wa:List Int)(b:Int)(gs:List Gt)(i:Nat):Int:=(bitsN (aS w wa b gs i).bs:Nat)
def ddS(w:Nat)(wa:List Int)(b:Int)(gs:List Gt):Bool:=(lN (fS w wa b gs gs.length).u (fS w wa b gs gs.length).m (2^w)).all zB
def brS(w:Nat)(wa:List Int)(b:Int)(gs:List Gt):List D:=[intsD wa wa.isEmpty,iD (bS w wa b gs gs.length),vS w wa b gs gs.length]
noncomputable def postY(w:Nat)(b:Int)(gs:List Gt)(gt:Bool)(wa:List Int)(wt:Bool)(M:List (Int×D)):AHeap :=
 if ddS w wa b gs=true then hOn w b gs gt wa wt R0Y M (lpY E0Y .ready none) else hOn w b gs gt wa wt ((brS w wa b gs).map AV.d) M (lpY E0Y .done (some .ret))
theorem bel3{a b c:AV}{n:Nat}(ha:a.bel n=true)(hb:b.bel n=true)(hc:c.bel n=true):∀(i:Nat) (v:AV),[a,b,c][i]?=some v->v.bel n=true:=fun i v hv=>by
 match i,hv with
 | 0,hv=>exact Option.some.inj hv ▸ ha
 | 1,hv=>exact Option.some.inj hv ▸ hb
 | 2,hv=>exact Option.some.inj hv ▸ hc
 | i+3,hv=>simp at hv
theorem take_set{wa:List Int}{k:Nat}{o:Int}(hk:k<wa.length)(h8:wa.length<=8)(ho:o=wa.getD k 0):wa.take (k+1)++List.replicate (8-(wa.take (k+1)).length) 0=(wa.take k++List.replicate (8-(wa.take k).length) 0).set k o:=by
 have e1:(wa.take k).length=k:=qbu
 have e2:(wa.take (k+1)).length=k+1:=qbu
 rw[e1,e2,List.set_append_right _ _ qad,e1,Nat.sub_self,show 8-k=(8-(k+1))+1 by omega,List.replicate_succ,List.set_cons_zero,List.take_add_one,List.append_assoc]
 refine congrArg _ ?_
 rw[ho,List.getD_eq_getElem?_getD,List.getElem?_eq_getElem hk];rfl
theorem chk169:chkFn Tryz.f169=true:=qah
theorem chk232:chkFnH [15,29] Tryz.f232=true:=qah
theorem allp_of{α:Type}{p:α->Prop}:∀{l:List α},(∀ x,x∈l->p x)->AllP p l
 | [],_=>trivial
 | _::_,h=>⟨h _ (List.mem_cons_self ..),allp_of fun x hx=>h x (List.mem_cons_of_mem _ hx)⟩
theorem znu{k:Nat}:∀{H:AHeap},AllP (fun p:Nat×Option Blk=>p.1<k /\ ∀ b,p.2=some b->b.Below k) H->∀ nm b,H.get nm=some b->nm<k/\b.Below k
 | [],_,nm,b,h=>nomatch h
 | (m,bl)::H,⟨h1,h2⟩,nm,b,h=>by
  rw[zaj]at h
  by_cases e:nm=m
  ·rw[if_pos e]at h;rw[e];exact⟨h1.1,h1.2 b h⟩
  ·rw[if_neg e]at h;exact znu h2 nm b h
theorem lowS{k m:Nat}{b:Blk}(h:m<k)(hb:b.Below k):m<k /\ ∀ b',some b=some b'->b'.Below k:=⟨h,fun _ e=>Option.some.inj e ▸ hb⟩
theorem zo9{R:List AV}{M:List (Int×D)}{s:LoopState}{p:Option Code}(hR:AV.bels 20 R=true):AllP (fun p:Nat×Option Blk=>p.1<20 /\ ∀ b,p.2=some b->b.Below 20) (hOn w b gs gt wa wt R M (lpY E0Y s p)) :=
 ⟨lowS (ltB rfl) (zae rfl),lowS (ltB rfl) (zae hR),lowS (ltB rfl) (zae rfl),lowS (ltB rfl) trivial,lowS (ltB rfl) (zae rfl),lowS (ltB rfl) trivial,lowS (ltB rfl) ⟨rfl,ltB rfl⟩,lowS (ltB rfl) (zae rfl),lowS (ltB rfl) (zae rfl),trivial⟩
def nmY:List Nat:=[1,2,3,6,8,10,11,12,13]
theorem hOn_nm{R:List AV}{M:List (Int×D)}{L:Blk}:(hOn w b gs gt wa wt R M L).map (·.1)=nmY:=rfl
theorem zvz{R:List AV}{M:List (Int×D)}{L:Blk}{m:Nat}(h:m∈nmY):∃ bl,(hOn w b gs gt wa wt R M L).get m=some bl:=by
 unfold nmY at h
 simp only[List.mem_cons,List.not_mem_nil,or_false]at h
 rcases h with rfl|rfl|rfl|rfl|rfl|rfl|rfl|rfl|rfl<;>exact⟨_,rfl⟩
theorem zfq{R:List AV}{M:List (Int×D)}{L:Blk}{m:Nat}(h:m ∉ nmY):∀ p,p∈hOn w b gs gt wa wt R M L->p.1≠m:=fun p hp e=>h (by
 rw[<- hOn_nm (w:=w) (b:=b) (gs:=gs) (gt:=gt) (wa:=wa) (wt:=wt) (R:=R) (M:=M) (L:=L),<- e]
 exact List.mem_map.2 ⟨p,hp,rfl⟩)
theorem zij(w:Nat)(b:Int)(gs:List Gt)(gt:Bool)(wa:List Int)(wt:Bool)(M:List (Int×D)):∃ R s p,AV.bels 20 R=true/\postY w b gs gt wa wt M=hOn w b gs gt wa wt R M (lpY E0Y s p):=by
 unfold postY
 split
 ·exact⟨_,_,_,rfl,rfl⟩
 ·exact⟨_,_,_,rfl,rfl⟩
theorem zo8{R:List AV}{M:List (Int×D)}{L:Blk}{H:AHeap}(h:∀ m,m∈nmY->H.get m=(hOn w b gs gt wa wt R M L).get m):∀ m bl,(hOn w b gs gt wa wt R M L).get m=some bl->H.get m=some bl:=fun m bl hm=>by
 by_cases q:m∈nmY
 ·rw[h m q];exact hm
 ·have:=zcu (H:=[]) (zfq (w:=w) (b:=b) (gs:=gs) (gt:=gt) (wa:=wa) (wt:=wt) (R:=R) (M:=M) (L:=L) q)
  rw[List.append_nil]at this
  rw[this]at hm;cases hm
theorem zt5{n:Nat}:∀{l:List AV},AV.bels n l=true->∀(i:Nat) (v:AV),l[i]?=some v->v.bel n=true
 | [],_,i,v,hv=>by simp at hv
 | a::l,h,0,v,hv=>by
  have h:(a.bel n&&AV.bels n l)=true:=h
  rw[Bool.and_eq_true]at h
  exact Option.some.inj hv ▸ h.1
 | a::l,h,i+1,v,hv=>by
  have h:(a.bel n&&AV.bels n l)=true:=h
  rw[Bool.and_eq_true]at h
  exact zt5 h.2 i v (by simpa using hv)
theorem on_use{args:List AV}{M:List (Int×D)}{H:AHeap}{nx:Nat}{k:AV->AHeap->Nat->Prop}(hf:IsFn Pr 232)(h:ACall Pr GK 232 args (hOn w b gs gt wa wt R0Y M (lpY E0Y .ready none)) 20 fun v H _=>∃ M',MapOk M'/\v = .d (.bool (ddS w wa b gs))/\H=postY w b gs gt wa wt M')
  (hn:20<=nx) (harg:∀(i:Nat) (v:AV),args[i]?=some v->v.bel 20=true) (hg:∀ m bl,AHeap.get (hOn w b gs gt wa wt R0Y M (lpY E0Y .ready none)) m=some bl->H.get m=some bl) (hk:∀ M':List (Int×D),MapOk M'->k (.d (.bool (ddS w wa b gs))) (postY w b gs gt wa wt M'++H) nx):CallVC Pr GK 232 args H nx k:=by
 refine⟨hf,zbj (zjz h hn (znu (zo9 rfl)) harg ?_) (Nat.le_refl _) hg ?_⟩
 ·exact qg8
 ·rintro v H1 n ⟨⟨n',M',h1,rfl,rfl⟩,rfl⟩
  refine⟨_,fun m bl hm=>?_,hk M' h1⟩
  obtain⟨R,s,p,hR,e⟩:=zij w b gs gt wa wt M'
  rw[e]at hm⊢
  by_cases q:m∈nmY
  ·exact qgr
  ·right
   rw[zcu (zfq q)]at hm
   have:=zcu (H:=[]) (zfq (w:=w) (b:=b) (gs:=gs) (gt:=gt) (wa:=wa) (wt:=wt) (R:=R0Y) (M:=M) (L:=lpY E0Y .ready none) q)
   rw[List.append_nil]at this
   exact⟨this,hm⟩
theorem isFn232:IsFn Pr 232:=zio Tryz.func232 chk232
set_option maxHeartbeats 4000000 in
theorem on232(h:FOk w b gs wa):∀ n i,i+n=gs.length->∀ M,MapOk M ->
  ACall Pr GK 232 [.d (iD i),.d (iD (bS w wa b gs i)),.d (pS w wa b gs i),.d (vS w wa b gs i),.ptr 8 6 0 0,.ptr 12 1 0 0,.ptr 13 1 0 0] (hOn w b gs gt wa wt R0Y M (lpY E0Y .ready none)) 20 fun v H _=>∃ M',MapOk M'/\v = .d (.bool (ddS w wa b gs))/\H=postY w b gs gt wa wt M':=by
 have clean:∀{args:List AV} {M:List (Int×D)},(ACall Pr GK 232 args (hOn w b gs gt wa wt R0Y M (lpY E0Y .ready none)) 20 fun v H _=>∃ M',MapOk M'/\v = .d (.bool (ddS w wa b gs)) /\ ∀ m bl,AHeap.get (postY w b gs gt wa wt M') m=some bl->H.get m=some bl) ->
   ACall Pr GK 232 args (hOn w b gs gt wa wt R0Y M (lpY E0Y .ready none)) 20 fun v H _=>∃ M',MapOk M'/\v = .d (.bool (ddS w wa b gs))/\H=postY w b gs gt wa wt M':=fun hc=>by
  refine zaz hc ?_
  rintro v H n ⟨M',h1,rfl,h3⟩
  refine⟨.d (.bool (ddS w wa b gs)),postY w b gs gt wa wt M',20,?_,M',h1,rfl,rfl⟩
  obtain⟨R,s,p,hR,e⟩:=zij w b gs gt wa wt M'
  rw[e]at h3⊢
  have hl:=zo9 (w:=w) (b:=b) (gs:=gs) (gt:=gt) (wa:=wa) (wt:=wt) (R:=R) (M:=M') (s:=s) (p:=p) hR
  refine zac (Nat.le_refl _) ⟨⟨rfl,rfl⟩,trivial⟩ ?_ trivial
  have key:∀ q,q∈hOn w b gs gt wa wt R M' (lpY E0Y s p)->∃ bl,q.2=some bl/\AHeap.get (hOn w b gs gt wa wt R M' (lpY E0Y s p)) q.1=some bl:=fun q hq=>by
   simp only[List.mem_cons,List.not_mem_nil,or_false]at hq
   rcases hq with rfl|rfl|rfl|rfl|rfl|rfl|rfl|rfl|rfl<;>exact⟨_,rfl,rfl⟩
  refine allp_of fun q hq=>?_
  obtain⟨bl,h4,h5⟩:=key q hq
  obtain⟨h6,h7⟩:=znu hl _ _ h5
  exact⟨h6,bl,h4,h3 _ _ h5,h7⟩
 intro n
 induction n using Nat.strongRecOn with
 | _ n ih =>
 intro i hi M hM
 have hk8:(wa.take (aS w wa b gs i).k).length<=8:=by
  have:=h.m8
  rw[List.length_take];omega
 obtain⟨x0,x1,x2,x3,x4,x5,x6,x7,hxx,hxa⟩:=a8_ex hk8
 have hp:pS w wa b gs i = .agg [iD x0,iD x1,iD x2,iD x3,iD x4,iD x5,iD x6,iD x7,iD (wa.take (aS w wa b gs i).k).length]:=by
  unfold pS pathD
  rw[hxa];rfl
 have c234:PC Pr GK 234 [.agg [iD x0,iD x1,iD x2,iD x3,iD x4,iD x5,iD x6,iD x7,iD (wa.take (aS w wa b gs i).k).length]] (intsD (wa.take (aS w wa b gs i).k) (wa.take (aS w wa b gs i).k).isEmpty):=by
  have:=zs7 (G:=GK) hk8
  unfold pathD at this
  rw[hxa]at this
  exact this
 rw[hp]
 have hX:(∃ X:Int,X=(wa.take (aS w wa b gs i).k).length):=⟨_,rfl⟩
 obtain⟨X,hX⟩:=hX
 rw[<- hX]at c234⊢
 obtain⟨BI,hBI⟩:∃ BI,BI=bS w wa b gs i:=⟨_,rfl⟩
 rw[<- hBI]
 have h14:=h.g14
 refine clean (zk0 pok [15,29] Tryz.func232 chk232 ?_)
 conv=>whnf
 skip
 refine zri pok [15,29] (fun j M=>⟨[(1,.d (iD BI)),(3,.d (vS w wa b gs (i+j))),(4,.ptr 8 6 0 0),(5,.ptr 12 1 0 0),(6,.ptr 13 1 0 0),(9,.ptr 20 9 0 0),(12,.d (iD (i+j:Nat)))],[(1,some (.arr 1 [[.d (intsD wa wt)]])),(2,some (.arr 3 [R0Y])),(3,some (.arr 1 [[.d (iD 0)]])),(6,some (.map (M.map toK))),(8,some (runY w b gs gt)),(10,some (.raw (.deferred (some [])))),(11,some (lpY E0Y .ready none)),(12,some (.arr 1 [[.yld 11]])),(13,some onY),(20,some (.arr 9 [[.d (iD x0),.d (iD x1),.d (iD x2),.d (iD x3),.d (iD x4),.d (iD x5),.d (iD x6),.d (iD x7),.d (iD X)]]))],21⟩) (n) (fun j M=>MapOk M/\(aS w wa b gs (i+j)).k=(aS w wa b gs i).k/\(aS w wa b gs (i+j)).bs=(aS w wa b gs i).bs) (M) (⟨hM,rfl,rfl⟩) ?_ qah ?_ ?_
 ·exact qgw
 ·intro j M A_j h_j I_j N_j
  have e_j:iadd .i64 (j:Int) 1=((j+1:Nat):Int):=zah qbl
  obtain⟨I1,I2,I3⟩:=I_j
  have e2:iadd .i64 ((i+j:Nat):Int) 1=((i+(j+1):Nat):Int):=zah (a:=i+j) (b:=1) qad
  have hlt:i+j<gs.length:=qad
  have hgc:=h.a.gc _ (List.getElem_mem hlt)
  have hBe:BI=(bitsN (aS w wa b gs (i+j)).bs:Nat):=by rw[I3];exact hBI
  obtain⟨hb1,hb2⟩:=run_bs h.a (l:=zeroS w) (i+j) (Nat.le_of_lt hlt)
  have hb1:((aS w wa b gs (i+j)).bs.length:Int)=b:=hb1
  have hbl:(aS w wa b gs (i+j)).bs.length<=6:=by have:=h.b3;omega
  have hr:=zlo (w:=w) (b:=b) (wa:=wa) (l:=zeroS w) hlt
  have hra:=zee (w:=w) (b:=b) (wa:=wa) (l:=zeroS w) hlt
  by_cases hm:mB gs[i+j]=true
  ·obtain⟨g1,g2,g3⟩:=zfo hgc hm
   have hkk:=run_k (w:=w) (b:=b) (wa:=wa) (l:=zeroS w) (gs:=gs) (i+j) (Nat.le_of_lt hlt)
   have hkl:=cnt_le hlt hm
   rw[<- hkk,<- h.a.cnt]at hkl
   have hkl:(aS w wa b gs (i+j)).k<wa.length:=hkl
   have hXk:X=(aS w wa b gs (i+j)).k:=by
    rw[hX,List.length_take,I2];omega
   have hm8:=h.m8
   obtain⟨k,hk⟩:∃ k,k=(aS w wa b gs (i+j)).k:=⟨_,rfl⟩
   rw[<- hk]at hkl hXk
   obtain⟨o,ho⟩:∃ o,o=wa.getD k 0:=⟨_,rfl⟩
   have ho01:=zho h.a.bit k
   rw[<- ho]at ho01
   have eK1:iadd .i64 (k:Int) 1=((k+1:Nat):Int):=zah (a:=k) (b:=1) qad
   have hnn:(0:Int)<=((k+1:Nat):Int):=Int.natCast_nonneg _
   have hch:((k:Nat):Int).toNat<=((k+1:Nat):Int).toNat/\((k+1:Nat):Int).toNat<=(wa.map fun k=>[iD k]).length /\ ∀ el,el∈wa.map (fun k=>[iD k])->el.length=1:=by
    refine⟨by omega,by rw[List.length_map];omega,int_el wa⟩
   have hone:((wa.map fun k=>[iD k]).drop ((k:Nat):Int).toNat).take (((k+1:Nat):Int).toNat-((k:Nat):Int).toNat)=[[iD o]]:=by
    rw[Int.toNat_natCast,Int.toNat_natCast,show k+1-k=1 by omega,ho,<- List.map_drop,<- List.map_take,List.drop_eq_getElem_cons hkl,List.take_succ_cons,List.take_zero,List.getD_eq_getElem?_getD,List.getElem?_eq_getElem hkl];rfl
   subst hXk
   have hk1:(wa.take (k+1)).length<=8:=qbu
   obtain⟨y0,y1,y2,y3,y4,y5,y6,y7,hyy,hya⟩:=a8_ex hk1
   have hset:[y0,y1,y2,y3,y4,y5,y6,y7]=[x0,x1,x2,x3,x4,x5,x6,x7].set k o:=by
    rw[<- hyy,<- hxx,<- I2,<- hk]
    exact take_set hkl hm8 ho
   have c233:=mea233 h hlt hm (o:=o.toNat) ho01.2.1
   rw[ho01.2.2]at c233
   have c162:=fun(M:List (Int×D)) (hM:MapOk M)=>flip162 h hlt hm o.toNat hM
   have hra':aS w wa b gs (i+(j+1))=stepA w wa (aS w wa b gs (i+j)) gs[i+j]:=hra
   have hrf':fS w wa b gs (i+(j+1))=stepF wa (aS w wa b gs (i+j)) (fS w wa b gs (i+j)) gs[i+j]:=hr
   have hak:(aS w wa b gs (i+(j+1))).k=k+1:=by rw[hra',hk];unfold stepA;rw[if_pos hm]
   have hpp:pS w wa b gs (i+(j+1)) = .agg [iD y0,iD y1,iD y2,iD y3,iD y4,iD y5,iD y6,iD y7,iD (k+1:Nat)]:=by
    unfold pS pathD
    rw[hak,hya,List.length_take,Nat.min_eq_left qad];rfl
   have c232:=ih (n-j-1) qad (i+(j+1)) qad
   rw[hpp]at c232
   have hok:(wa.getD (aS w wa b gs (i+j)).k 0)=o:=by rw[ho,hk]
   have hBq:bS w wa b gs (i+j)=BI:=by rw[hBe];rfl
   have hnb:(0:Int)<=gs[i+j].b:=by
    rcases of_decide_eq_true hm with e|e
    ·exact(mB_bit hgc e).1
    ·obtain⟨_,_,_,q4⟩:=zgk (zej hgc).2.2.2.2
     rw[q4 qad];exact Int.le_refl _
   have hcase:gs[i+j].k=13\/(gs[i+j].k=14/\o=0)\/(gs[i+j].k=14/\o=1):=by
    have:=of_decide_eq_true hm
    have:=ho01.1
    omega
   rcases hcase with h1|⟨h1,h2⟩|⟨h1,h2⟩
   have hk13:(gs[i+j].k != 13)=false:=qeb
   have hk14:(gs[i+j].k != 14)=true:=qeb
   have h19:(gs[i+j].k==13)=true:=qeb
   have hoo:(o==1)=(o==1):=rfl
   have eV:vS w wa b gs (i+(j+1))=vFs w ⟨mkC (gA gs[i+j]) o.toNat (fS w wa b gs (i+j)).u,(fS w wa b gs (i+j)).m⟩:=by
    unfold vS
    rw[hrf']
    unfold stepF
    rw[if_pos hm,hok,if_neg (fun e=>by omega)]
   have hbs:ior .i64 (iandNot .i64 BI (ishl .i64 1 gs[i+j].b)) (ishl .i64 o gs[i+j].b)=bS w wa b gs (i+(j+1)):=by
    have hbb:=mB_bit hgc h1
    rw[hBe,bit_set hb2 hbl qad ho01.1]
    unfold bS
    rw[hra']
    unfold stepA
    rw[if_pos hm]
    dsimp only
    rw[if_pos h1,hok]
   rw[eV]at c232
   rotate_left
   have hk13:(gs[i+j].k != 13)=true:=qeb
   have hk14:(gs[i+j].k != 14)=false:=qeb
   have h19:(gs[i+j].k==13)=false:=qeb
   have hoo:(o==1)=false:=by rw[h2];rfl
   have eV:vS w wa b gs (i+(j+1))=vFs w ⟨mkC (gA gs[i+j]) o.toNat (fS w wa b gs (i+j)).u,(fS w wa b gs (i+j)).m⟩:=by
    unfold vS
    rw[hrf']
    unfold stepF
    rw[if_pos hm,hok,if_neg (fun e=>by omega)]
   have hbs:bS w wa b gs (i+(j+1))=BI:=by
    rw[<- hBq]
    unfold bS
    rw[hra']
    unfold stepA
    rw[if_pos hm]
    dsimp only
    rw[if_neg qad]
   rw[eV,hbs]at c232
   rotate_left
   have hk13:(gs[i+j].k != 13)=true:=qeb
   have hk14:(gs[i+j].k != 14)=false:=qeb
   have h19:(gs[i+j].k==13)=false:=qeb
   have hoo:(o==1)=true:=by rw[h2];rfl
   have hflip:True:=trivial
   have eV:vS w wa b gs (i+(j+1))=vFs w ⟨gC 1 (gA gs[i+j]) 0 (mkC (gA gs[i+j]) o.toNat (fS w wa b gs (i+j)).u),(fS w wa b gs (i+j)).m⟩:=by
    unfold vS
    rw[hrf']
    unfold stepF
    rw[if_pos hm,hok,if_pos ⟨h1,by rw[h2];rfl⟩]
   have hbs:bS w wa b gs (i+(j+1))=BI:=by
    rw[<- hBq]
    unfold bS
    rw[hra']
    unfold stepA
    rw[if_pos hm]
    dsimp only
    rw[if_neg qad]
   rw[eV,hbs]at c232
   rotate_left
   all_goals
    generalize vFs w ⟨mkC (gA gs[i+j]) o.toNat (fS w wa b gs (i+j)).u,(fS w wa b gs (i+j)).m⟩=V1 at c233 c162 c232
    clear eV hra' hrf' hak hr hra
    conv=>whnf
    conv=>whnf
    repeat (refine LookP.mk _ rfl ?_;conv=>whnf)
    intro t ht
    cases t
    ·exact qbh
    conv=>whnf
    repeat' first|((first|refine LookP.mk _ qdg ?_|refine ShlP.mk _ qaa ?_|refine And.intro qbi ?_|refine knownB hk13 ?_|refine knownB hk14 ?_|refine HpP.force ?_);conv=>whnf)
    refine zbb pok Tryz.func169 chk169 ?_
    conv=>whnf
    repeat' first|((first|refine LookP.mk _ rfl ?_|refine And.intro (by first|exact hnn|exact hch|assumption|exact⟨by kernel_rfl,rfl⟩|decide|omega) ?_|rw[eK1]|rw[hone]);conv=>whnf)
    obtain⟨tt,htt⟩:∃ tt,tt=(wt&&decide (((k+1:Nat):Int).toNat=(wa.map fun k=>[iD k]).length)):=⟨_,rfl⟩
    rw[<- htt]
    refine zri pok [15,29] (fun q M2=>⟨[(1,.d (iD BI)),(3,.d (vS w wa b gs (i+j))),(4,.ptr 8 6 0 0),(6,.ptr 13 1 0 0),(9,.ptr 20 9 0 0),(12,.d (iD (i+j:Nat))),(13,.ptr 21 4 0 0),(76,.d (.sl [[iD o]] tt)),(77,.d (iD 1)),(78,.d (iD q))],[(1,some (.arr 1 [[.d (intsD wa wt)]])),(2,some (.arr 3 [R0Y])),(3,some (.arr 1 [[.d (iD 0)]])),(6,some (.map (M2.map toK))),(8,some (runY w b gs gt)),(10,some (.raw (.deferred (some [])))),(11,some (lpY E0Y .ready none)),(12,some (.arr 1 [[.yld 11]])),(13,some onY),(20,some (.arr 9 [[.d (iD x0),.d (iD x1),.d (iD x2),.d (iD x3),.d (iD x4),.d (iD x5),.d (iD x6),.d (iD x7),.d (iD k)]])),(21,some (.arr 4 [gs[i+j].l.map AV.d]))],22⟩) (1) (fun q M2=>MapOk M2/\(q=1->ddS w wa b gs=true)) (M) (⟨I1,fun e=>nomatch e⟩) ?_ qah ?_ ?_
    ·exact qgw
    ·intro q M2 A_q h_q I_q N_q
     have e_q:iadd .i64 (q:Int) 1=((q+1:Nat):Int):=zah qbl
     obtain rfl:q=0:=qad
     have z01:decide (((0:Nat):Int)<1)=true:=rfl
     conv=>whnf
     repeat' first|((first|refine LookP.mk _ rfl ?_|refine ShlP.mk _ qaa ?_|refine And.intro qbi ?_|refine knownB z01 ?_|refine HpP.force ?_);conv=>whnf)
     refine regvh_to pok ⟨[(1,.d (iD BI)),(3,.d (vS w wa b gs (i+j))),(4,.ptr 8 6 0 0),(6,.ptr 13 1 0 0),(9,.ptr 20 9 0 0),(12,.d (iD (i+j:Nat))),(13,.ptr 21 4 0 0),(17,.d (iD o)),(18,.ptr 22 9 0 0),(76,.d (.sl [[iD o]] tt)),(77,.d (iD 1)),(78,.d (iD 0))],(22,some (.arr 9 [[.d (iD y0),.d (iD y1),.d (iD y2),.d (iD y3),.d (iD y4),.d (iD y5),.d (iD y6),.d (iD y7),.d (iD (k+1:Nat))]]))::(21,some (.arr 4 [gs[i+j].l.map AV.d]))::(20,some (.arr 9 [[.d (iD x0),.d (iD x1),.d (iD x2),.d (iD x3),.d (iD x4),.d (iD x5),.d (iD x6),.d (iD x7),.d (iD k)]]))::hOn w b gs gt wa wt R0Y M2 (lpY E0Y .ready none),23⟩ qah ?_ ?_
     ·clear hone hch ih c232 c162 c233 hbs
      have h8:k=0\/k=1\/k=2\/k=3\/k=4\/k=5\/k=6\/k=7:=qad
      rcases h8 with rfl|rfl|rfl|rfl|rfl|rfl|rfl|rfl
      all_goals
       simp at hset
       obtain⟨rfl,rfl,rfl,rfl,rfl,rfl,rfl,rfl⟩:=hset
       conv=>whnf
       repeat' first|((first|refine LookP.mk _ rfl ?_|refine ShlP.mk _ qaa ?_|refine And.intro qbi ?_|rw[eK1]|refine HpP.force ?_);conv=>whnf)
       refine fin ?_
       refine zac qac ?_ ?_ trivial
       ·exact qae
       ·exact qan
     ·conv=>whnf
      repeat' first|((first|refine LookP.mk _ (by first|rfl|(rw[g1];rfl)) ?_|refine And.intro (by first|exact hnb|assumption|exact⟨by kernel_rfl,rfl⟩|decide|omega) ?_|refine zak c233 ?_|refine knownB h19 ?_|refine knownB hoo ?_|refine HpP.force ?_);conv=>whnf)
      have hM2:=I_q.1
      first
      |
       have hfl2:=hflip
       refine zoz (za3 Tryz.func162 zpq) (c162 M2 hM2) (Nat.le_of_ble_eq_true rfl) (bel3 rfl rfl rfl) rfl ?_
       intro M2 hM2
       conv=>whnf
       repeat' first|(refine LookP.mk _ rfl ?_;conv=>whnf)
       skip
      | skip
      all_goals
       rw[e2]
       try rw[hbs]
       refine on_use isFn232 (c232 M2 hM2) (Nat.le_of_ble_eq_true rfl) (zt5 rfl) (zo8 fun m hm=>by unfold nmY at hm;simp only[List.mem_cons,List.not_mem_nil,or_false]at hm;rcases hm with rfl|rfl|rfl|rfl|rfl|rfl|rfl|rfl|rfl<;>rfl) ?_
       intro M3 hM3
       cases hdd:ddS w wa b gs
       ·have hp:postY w b gs gt wa wt M3=hOn w b gs gt wa wt ((brS w wa b gs).map AV.d) M3 (lpY E0Y .done (some .ret)):=by unfold postY;rw[hdd];rfl
        rw[hp]
        conv=>whnf
        skip
        refine fin ⟨M3,hM3,rfl,?_⟩
        rw[hp]
        exact(zo8 fun m hm=>by unfold nmY at hm;simp only[List.mem_cons,List.not_mem_nil,or_false]at hm;rcases hm with rfl|rfl|rfl|rfl|rfl|rfl|rfl|rfl|rfl<;>rfl)
       ·have hp:postY w b gs gt wa wt M3=hOn w b gs gt wa wt R0Y M3 (lpY E0Y .ready none):=by unfold postY;rw[hdd];rfl
        rw[hp]
        conv=>whnf
        skip
        refine N_q _ (M3) ?_ ?_
        ·exact⟨hM3,fun _=>hdd⟩
        ·refine zac qac ?_ ?_ trivial
         ·exact qa1
         ·exact qan
    ·intro M2 A_last I_last
     have hdd:=I_last.2 rfl
     have z11:decide (((1:Nat):Int)<1)=false:=rfl
     have hp:postY w b gs gt wa wt M2=hOn w b gs gt wa wt R0Y M2 (lpY E0Y .ready none):=by unfold postY;rw[hdd];rfl
     conv=>whnf
     repeat' first|(refine knownB z11 ?_;conv=>whnf)
     refine fin ⟨M2,I_last.1,by rw[hdd],?_⟩
     rw[hp]
     exact(zo8 fun m hm=>by unfold nmY at hm;simp only[List.mem_cons,List.not_mem_nil,or_false]at hm;rcases hm with rfl|rfl|rfl|rfl|rfl|rfl|rfl|rfl|rfl<;>rfl)
  ·have hkd:=(h.a.kd _ (List.getElem_mem hlt)).resolve_left hm
   have hk13:(gs[i+j].k != 13)=true:=by
    simp[mB]at hm;simp;exact hm.1
   have hk14:(gs[i+j].k != 14)=true:=by
    simp[mB]at hm;simp;exact hm.2
   have c162:=gate162 h hlt hkd I1
   obtain⟨q1,_,_,_⟩:=zgk (zej hgc).2.2.2.2
   have hra':aS w wa b gs (i+(j+1))=stepA w wa (aS w wa b gs (i+j)) gs[i+j]:=hra
   have hinv:(aS w wa b gs (i+(j+1))).k=(aS w wa b gs i).k/\(aS w wa b gs (i+(j+1))).bs=(aS w wa b gs i).bs:=by
    rw[hra',<- I2,<- I3]
    unfold stepA
    rw[if_neg hm]
    split<;>exact⟨rfl,rfl⟩
   have hng:gs[i+j].i<=8:=by have:=h.b3;omega
   have z0:((0:Int) != 0)=false:=rfl
   have hV:onB (aS w wa b gs (i+j)) gs[i+j]=true->vS w wa b gs (i+(j+1))=vFs w ⟨gC (gK gs[i+j]) (gA gs[i+j]) (gB gs[i+j]) (fS w wa b gs (i+j)).u,if gK gs[i+j]=4 then(fS w wa b gs (i+j)).m+1 else(fS w wa b gs (i+j)).m⟩:=fun hon=>by
    unfold vS
    rw[show fS w wa b gs (i+(j+1))=_ from hr]
    unfold stepF
    rw[if_neg hm,if_pos hon]
   have hV0:onB (aS w wa b gs (i+j)) gs[i+j]=false->vS w wa b gs (i+(j+1))=vS w wa b gs (i+j):=fun hon=>by
    unfold vS
    rw[show fS w wa b gs (i+(j+1))=_ from hr]
    unfold stepF
    rw[if_neg hm,if_neg (by rw[hon];exact Bool.false_ne_true)]
   by_cases hi0:gs[i+j].i=0
   ·have hgt:decide (gs[i+j].i>0)=false:=by simp[hi0]
    have hon:onB (aS w wa b gs (i+j)) gs[i+j]=true:=by unfold onB;simp[hi0]
    rw[<- hV hon]at c162
    clear hV hV0
    conv=>whnf
    conv=>whnf
    repeat (refine LookP.mk _ rfl ?_;conv=>whnf)
    intro t ht
    cases t
    ·exact qbh
    conv=>whnf
    repeat' first|((first|refine LookP.mk _ qdg ?_|refine ShlP.mk _ qaa ?_|refine And.intro qbi ?_|refine knownB hk13 ?_|refine knownB hk14 ?_|refine knownB hgt ?_|refine HpP.force ?_);conv=>whnf)
    refine zoz (za3 Tryz.func162 zpq) c162 (Nat.le_of_ble_eq_true rfl) (bel3 rfl rfl rfl) rfl ?_
    intro M1 hM1
    conv=>whnf
    repeat' first|(refine knownB z0 ?_;conv=>whnf)
    refine N_j _ (M1) ?_ ?_
    ·exact⟨hM1,hinv⟩
    ·exact qhm
   ·have hgt:decide (gs[i+j].i>0)=true:=by simp;omega
    have hsub:isub .i64 gs[i+j].i 1=gs[i+j].i-1:=zcb qad qad
    have hask:=bit_ask (j:=gs[i+j].i-1) hb2 hbl qad
    rw[<- hBe]at hask
    have hnn:0<=gs[i+j].i-1:=qad
    have hob:onB (aS w wa b gs (i+j)) gs[i+j]=decide ((aS w wa b gs (i+j)).bs.getD (gs[i+j].i-1).toNat 0=1):=by
     unfold onB;simp[hi0]
    have hx:(aS w wa b gs (i+j)).bs.getD (gs[i+j].i-1).toNat 0=0\/(aS w wa b gs (i+j)).bs.getD (gs[i+j].i-1).toNat 0=1:=by
     rw[List.getD_eq_getElem?_getD,List.getElem?_eq_getElem qad]
     exact hb2 _ (List.getElem_mem _)
    rcases hx with e|e
    ·have hon:onB (aS w wa b gs (i+j)) gs[i+j]=false:=by rw[hob,e];rfl
     rw[e]at hask
     have z1:((0:Int)==0)=true:=rfl
     conv=>whnf
     conv=>whnf
     repeat (refine LookP.mk _ rfl ?_;conv=>whnf)
     intro t ht
     cases t
     ·exact qbh
     conv=>whnf
     repeat' first|((first|refine LookP.mk _ qdg ?_|refine ShlP.mk _ qaa ?_|refine And.intro qbx ?_|refine knownB hk13 ?_|refine knownB hk14 ?_|refine knownB hgt ?_|rw[hsub]|rw[hask]|refine knownB z1 ?_|refine HpP.force ?_);conv=>whnf)
     rw[<- hV0 hon]
     refine N_j _ (M) ?_ ?_
     ·exact⟨I1,hinv⟩
     ·exact qhm
    ·have hon:onB (aS w wa b gs (i+j)) gs[i+j]=true:=by rw[hob,e];rfl
     rw[e]at hask
     have z1:((1:Int)==0)=false:=rfl
     rw[<- hV hon]at c162
     clear hV hV0
     conv=>whnf
     conv=>whnf
     repeat (refine LookP.mk _ rfl ?_;conv=>whnf)
     intro t ht
     cases t
     ·exact qbh
     conv=>whnf
     repeat' first|((first|refine LookP.mk _ qdg ?_|refine ShlP.mk _ qaa ?_|refine And.intro qbx ?_|refine knownB hk13 ?_|refine knownB hk14 ?_|refine knownB hgt ?_|rw[hsub]|rw[hask]|refine knownB z1 ?_|refine HpP.force ?_);conv=>whnf)
     refine zoz (za3 Tryz.func162 zpq) c162 (Nat.le_of_ble_eq_true rfl) (bel3 rfl rfl rfl) rfl ?_
     intro M1 hM1
     conv=>whnf
     repeat' first|(refine knownB z0 ?_;conv=>whnf)
     refine N_j _ (M1) ?_ ?_
     ·exact⟨hM1,hinv⟩
     ·exact qhm
 ·intro M A_last I_last
  obtain⟨I1,I2,I3⟩:=I_last
  rw[hi]at I2 I3⊢
  have hlt:decide (((gs.length:Nat):Int)<(((gs.map Gt.l).length:Nat):Int))=false:=by rw[List.length_map];exact decide_eq_false qad
  have eK:wa.take (aS w wa b gs i).k=wa:=by
   have h1:=run_k (w:=w) (b:=b) (wa:=wa) (l:=zeroS w) (gs:=gs) gs.length (Nat.le_refl _)
   rw[List.take_length,<- h.a.cnt]at h1
   rw[<- I2]
   show wa.take (runA w wa b (zeroS w) (gs.take gs.length)).k=wa
   rw[List.take_length,h1,List.take_length]
  have eB:BI=bS w wa b gs gs.length:=by
   rw[hBI];unfold bS;rw[I3]
  rw[eK]at c234
  have hm8:=h.m8
  have c171:=zq9 (G:=GK) (l:=wa) wa.isEmpty hm8
  have c171':=zq9 (G:=GK) (l:=wa) wt hm8
  have c172:PC Pr GK 172 [vS w wa b gs gs.length] (.bool (ddS w wa b gs)):=zero172 _ true (by
   rw[zhl]
   exact Nat.le_trans (Nat.pow_le_pow_right (n:=2) qag h.w4) qag)
  have z0:((0:Int) != 0)=false:=rfl
  obtain⟨y0,y1,y2,y3,y4,y5,y6,y7,_,hy⟩:=a8_ex hm8
  rw[hy]at c171 c171'
  have hyy:([y0,y1,y2,y3,y4,y5,y6,y7]==[y0,y1,y2,y3,y4,y5,y6,y7])=true:=qc3
  rw[eB]
  conv=>whnf
  repeat' first|((first|refine LookP.mk _ rfl ?_|refine knownB hlt ?_);conv=>whnf)
  refine znm pok 6 qah qah ?_
  conv=>whnf
  repeat' first|((first|refine LookP.mk _ rfl ?_|refine zam c234 ?_|refine HpP.force ?_);conv=>whnf)
  refine za9 pok ?_
  conv=>whnf
  have hA:chkCode Tryz.f85.ntmps (rgA Tryz.f85)=true:=qah
  have hB:chkCode Tryz.f85.ntmps (rgB Tryz.f85)=true:=qah
  repeat' first|((first|refine LookP.mk _ rfl ?_|refine ShlP.mk _ qaa ?_|rw[hA,hB]|refine knownB z0 ?_|refine zam c171 ?_|refine zam (c171') ?_|refine zam c172 ?_|refine knownB hyy ?_|refine HpP.force ?_);conv=>whnf)
  cases hdd:ddS w wa b gs
  ·conv=>whnf
   repeat' first|((first|refine LookP.mk _ rfl ?_|refine ShlP.mk _ qaa ?_|refine HpP.force ?_);conv=>whnf)
   refine fin ⟨⟨[(11,.d (.bool false))],hOn w b gs gt wa wt ((brS w wa b gs).map AV.d) M (lpY E0Y .done (some .ret)),20⟩,?_,?_⟩
   ·exact qgw
   ·exact qhj
  ·conv=>whnf
   repeat' first|(refine HpP.force ?_;conv=>whnf)
   refine fin ⟨⟨[(11,.d (.bool true))],hOn w b gs gt wa wt R0Y M (lpY E0Y .ready none),20⟩,?_,?_⟩
   ·exact qgw
   ·exact qhj
end Go.Tz
namespace Go.Tz
open Go Go.AL Go.Proofs Go.Ma
theorem chk85:chkFn Tryz.f85=true:=qah
theorem chk167:chkFn Tryz.f167=true:=qah
theorem chk170:chkFn Tryz.f170=true:=qah
theorem chk231:chkFnH [3] Tryz.f231=true:=qah
theorem chk160:chkFn Tryz.f160=true:=qah
theorem chk225:chkFn Tryz.f225=true:=qah
theorem ev225{G:Nat->Option (List D)}(q:Int)(f:FuncId)(first cap:List D)(b:Bool)(hf:PC Pr G f (first++[iD q]++cap) (.bool b)):PC Pr G 225 [iD q,.rop [.fn f first cap] 0] (.bool (!b)):=by
 refine zai pok Tryz.func225 chk225 ?_
 conv=>whnf
 repeat' first|((first|rw[za2]|refine zbk hf rfl ?_);conv=>whnf)|(intro t ht;cases t<;>conv=>whnf)
 all_goals rw[ht];exact fin rfl
theorem every160g{G:Nat->Option (List D)}(l:List Int)(t:Bool)(f:FuncId)(first cap:List D)(p:Int->Bool)(hn:l.length<=1000)(hf:∀ q,q∈l->PC Pr G f (first++[iD q]++cap) (.bool (p q))):PC Pr G 160 [intsD l t,.fn f first cap] (.bool (l.all p)):=by
 have hi:=zvy (G:=G) l t 225 [] [.rop [.fn f first cap] 0] (fun q=>!p q) hn fun q hq=>ev225 q f first cap (p q) (hf q hq)
 refine zai pok Tryz.func160 chk160 ?_
 conv=>whnf
 have e:l.all p = !l.any (fun q=>!p q):=by
  rw[List.all_eq_not_any_not]
 rw[e]
 repeat' first|(refine zb4 hi rfl ?_)|(intro t ht;cases t<;>conv=>whnf)
 all_goals rw[ht];exact fin rfl
theorem chk168:chkFn Tryz.f168=true:=qah
theorem bit168{G:Nat->Option (List D)}{q:Int}(h:q=0\/q=1):PC Pr G 168 [iD q] (.bool true):=by
 rcases h with rfl|rfl
 all_goals
  refine zai pok Tryz.func168 chk168 ?_
  conv=>whnf
  repeat' first|(intro t ht;cases t<;>conv=>whnf)
  all_goals first|exact fin rfl|(exfalso;simp_all)
theorem bits160{G:Nat->Option (List D)}{l:List Int}(t:Bool)(hn:l.length<=1000)(h:∀ q,q∈l->q=0\/q=1):PC Pr G 160 [intsD l t,.fn 168 [] []] (.bool true):=by
 have:=every160g (G:=G) l t 168 [] [] (fun _=>true) hn fun q hq=>bit168 (h q hq)
 rwa [show(l.all fun _=>true)=true from List.all_eq_true.2 fun _ _=>rfl]at this
theorem lp_few{E:List (Nat×AV)}(h5:lkA E 5 = .ptr 1 1 0 0)(h6:lkA E 6 = .ptr 2 3 0 0)(h7:lkA E 7 = .ptr 3 1 0 0)(t:Nat):lkA E0Y t=lkA E t\/lkA E0Y t = .top:=by
 by_cases e5:t=5
 ·subst e5;exact .inl h5.symm
 by_cases e6:t=6
 ·subst e6;exact .inl h6.symm
 by_cases e7:t=7
 ·subst e7;exact .inl h7.symm
 right
 have ne:∀ n:Nat,n≠t->Nat.beq n t=false:=fun n hn=>by
  cases e:Nat.beq n t with
  | false=>rfl
  | true=>exact absurd (Nat.eq_of_beq_eq_true e) hn
 simp only[lkA,ne 5 (Ne.symm e5),ne 6 (Ne.symm e6),ne 7 (Ne.symm e7)]
theorem on_useL{w:Nat}{b:Int}{wa:List Int}{gs:List Gt}{gt wt:Bool}(h:FOk w b gs wa){M:List (Int×D)}(hM:MapOk M){E:List (Nat×AV)}(h5:lkA E 5 = .ptr 1 1 0 0)(h6:lkA E 6 = .ptr 2 3 0 0)(h7:lkA E 7 = .ptr 3 1 0 0)(hE:belE 20 E=true){H:AHeap}{nx:Nat}{k:AV->AHeap->Nat->Prop}(hn:nx<=20)(hg:∀ m bl,AHeap.get (hOn w b gs gt wa wt R0Y M (lpY E .ready none)) m=some bl->H.get m=some bl)
  (hk:∀ M':List (Int×D),MapOk M'->k (.d (.bool (ddS w wa b gs))) (postY w b gs gt wa wt M'++H) 20):CallVC Pr GK 232 [.d (iD 0),.d (iD 0),.d (pathD []),.d (vS w wa b gs 0),.ptr 8 6 0 0,.ptr 12 1 0 0,.ptr 13 1 0 0] H nx k:=by
 have h0:=on232 (gt:=gt) (wt:=wt) h gs.length 0 (Nat.zero_add _) M hM
 have e1:bS w wa b gs 0=0:=by
  unfold bS
  show((bitsN (List.replicate b.toNat 0):Nat):Int)=0
  rw[zrw];rfl
 have e2:pS w wa b gs 0=pathD []:=rfl
 rw[e1,e2]at h0
 have hoL:∀ m,m≠11->AHeap.get (hOn w b gs gt wa wt R0Y M (lpY E0Y .ready none)) m=AHeap.get (hOn w b gs gt wa wt R0Y M (lpY E .ready none)) m:=fun m hm=>by
  by_cases q:m∈nmY
  ·unfold nmY at q
   simp only[List.mem_cons,List.not_mem_nil,or_false]at q
   rcases q with rfl|rfl|rfl|rfl|rfl|rfl|rfl|rfl|rfl
   all_goals first|rfl|exact absurd rfl hm
  ·have a1:=zcu (H:=[]) (zfq (w:=w) (b:=b) (gs:=gs) (gt:=gt) (wa:=wa) (wt:=wt) (R:=R0Y) (M:=M) (L:=lpY E0Y .ready none) q)
   have a2:=zcu (H:=[]) (zfq (w:=w) (b:=b) (gs:=gs) (gt:=gt) (wa:=wa) (wt:=wt) (R:=R0Y) (M:=M) (L:=lpY E .ready none) q)
   rw[List.append_nil]at a1 a2
   rw[a1,a2]
 have h1:=acall_blk (nm:=11) hoL rfl rfl (fun C hC=>brel_lp (lp_few h5 h6 h7) hC) h0
 have hlow:AllP (fun p:Nat×Option Blk=>p.1<20 /\ ∀ b,p.2=some b->b.Below 20) (hOn w b gs gt wa wt R0Y M (lpY E .ready none)) :=
  ⟨lowS (ltB rfl) (zae rfl),lowS (ltB rfl) (zae rfl),lowS (ltB rfl) (zae rfl),lowS (ltB rfl) trivial,lowS (ltB rfl) (zae rfl),lowS (ltB rfl) trivial,lowS (ltB rfl) ⟨hE,ltB rfl⟩,lowS (ltB rfl) (zae rfl),lowS (ltB rfl) (zae rfl),trivial⟩
 refine⟨isFn232,zbj (zjz h1 (Nat.le_refl 20) (znu hlow) (zt5 rfl) ?_) hn hg ?_⟩
 ·exact qg8
 ·rintro v H1 n ⟨⟨n',M',h1,rfl,rfl⟩,rfl⟩
  refine⟨_,fun m bl hm=>?_,hk M' h1⟩
  obtain⟨R,s,p,hR,e⟩:=zij w b gs gt wa wt M'
  rw[e]at hm⊢
  by_cases q:m∈nmY
  ·exact qgr
  ·right
   rw[zcu (zfq q)]at hm
   have:=zcu (H:=[]) (zfq (w:=w) (b:=b) (gs:=gs) (gt:=gt) (wa:=wa) (wt:=wt) (R:=R0Y) (M:=M) (L:=lpY E .ready none) q)
   rw[List.append_nil]at this
   exact⟨this,hm⟩
theorem along85{w:Nat}{b:Int}{wa:List Int}{gs:List Gt}{gt wt vt:Bool}(h:FOk w b gs wa)(hc:PC Pr GK 129 [circD w b gs gt] (iD 0)):PC Pr GK 85 [circD w b gs gt,vN (lN u00 0 (2^w)) vt,intsD wa wt] (if ddS w wa b gs=true then .tup [.agg [.sl [] true,iD 0,.sl [] true],iD 6] else .tup [.agg (brS w wa b gs),iD 0]):=by
 have hw:=h.a.hw
 have h4:=h.w4
 have hu0:∀ q,q<2^w->P4.Bd 500 (emb (u00 q)):=fun q _=>by
  unfold u00
  split<;>exact⟨by decide,by decide,by decide,by decide,by decide,by decide,by decide,by decide⟩
 have hok:=lN_ok (M:=0) (N:=2^w) qag hu0
 have c158:=zp6 (w:=w) (fun s hs=>(hok s hs).1) (zhl u00 0 (2^w)) qad vt
 have hN:2^w<=16:=Nat.pow_le_pow_right (n:=2) qag h4
 have c164:PC Pr GK 164 [vN (lN u00 0 (2^w)) vt] (vS w wa b gs 0):=po_vn (zl5 (fun s hs=>(hok s hs).1) (fun s hs=>(hok s hs).2) (by rw[zhl];omega) vt)
 obtain⟨many,hm⟩:∃ many,many=gs.countP mB:=⟨_,rfl⟩
 have hmw:wa.length=many:=by rw[hm];exact h.a.cnt
 have hm8:=h.m8
 have h14:=h.g14
 have z0:((0:Int) != 0)=false:=rfl
 have zw:((w:Int) != (w:Int))=false:=qc3
 clear hok
 generalize lN u00 0 (2^w)=l0 at c158 c164⊢
 refine zai pok Tryz.func85 chk85 ?_
 conv=>whnf
 repeat' first|(refine LookP.mk _ rfl ?_;conv=>whnf)
 refine zbb pok Tryz.func167 chk167 ?_
 conv=>whnf
 repeat' first|((first|refine LookP.mk _ rfl ?_|refine zak hc ?_|refine zak c158 ?_|refine knownB z0 ?_|refine knownB zw ?_);conv=>whnf)
 refine zaq pok (fun i=>⟨[(2,.ptr 4 3 0 0),(4,.ptr 5 6 0 0),(10,.d (iD (((gs.take i).countP mB:Nat):Int))),(34,.d (gatesD gs gt)),(35,.d (iD (gs.map Gt.l).length)),(36,.d (iD i))],[(0,some (.arr 3 [[.d (iD w),.d (iD b),.d (gatesD gs gt)]])),(1,some (.arr 1 [[.d (intsD wa wt)]])),(2,some (.arr 3 [[.d (.sl [] true),.d (iD 0),.d (.sl [] true)]])),(3,some (.arr 1 [[.d (iD 0)]])),(4,some (.arr 3 [[.d (iD w),.d (iD b),.d (gatesD gs gt)]])),(5,some (.arr 6 [[.d (iD 0),.d (iD 0),.d (.sl [] true),.d .nilm,.d .nilf,.d (.bool false)]]))],6⟩) (gs.length) (fun _=>True) (trivial) ?_ qah ?_ ?_
 ·exact qf2
 ·intro i A_i h_i I_i N_i
  have e_i:iadd .i64 (i:Int) 1=((i+1:Nat):Int):=zah qbl
  have hct:(gs.take (i+1)).countP mB=(gs.take i).countP mB+if mB gs[i]=true then 1 else 0:=by
   rw[zbe h_i,List.countP_append]
   simp[List.countP_cons]
  have hcl:(gs.take i).countP mB<=i:=Nat.le_trans (List.countP_le_length) qbu
  have hadd:iadd .i64 (((gs.take i).countP mB:Nat):Int) 1=(((gs.take i).countP mB+1:Nat):Int):=zah (a:=(gs.take i).countP mB) (b:=1) qad
  rw[hct]at N_i
  conv=>whnf
  conv=>whnf
  repeat (refine LookP.mk _ rfl ?_;conv=>whnf)
  intro t ht
  cases t
  ·exact qbh
  conv=>whnf
  repeat' first|((first|refine LookP.mk _ qdf ?_|refine ShlP.mk _ qaa ?_|refine And.intro qbi ?_|rw[hadd]|refine HpP.force ?_);conv=>whnf)|(intro t ht;cases t<;>conv=>whnf)
  ·rw[if_neg (by simp_all[mB])]at N_i
   refine N_i _ ?_ ?_
   ·exact qbj
   ·exact qf3
  ·exact qhu
  ·exact qhu
 ·intro A_last I_last
  rw[List.take_length,<- hm]
  have h8:decide ((many:Int)>8)=false:=decide_eq_false qad
  have hmm:((((wa.map fun x=>[iD x]).length:Nat):Int) != (many:Int))=false:=by rw[List.length_map,hmw];simp
  have c160:=bits160 (G:=GK) (l:=wa) wt qad h.a.bit
  conv=>whnf
  repeat (refine LookP.mk _ rfl ?_;conv=>whnf)
  intro t ht
  cases t
  rotate_left
  ·exact qbh
  conv=>whnf
  repeat' first|((first|refine LookP.mk _ rfl ?_|refine ShlP.mk _ qaa ?_|refine knownB h8 ?_|refine knownB z0 ?_|refine knownB hmm ?_|refine zak c160 ?_|refine HpP.force ?_);conv=>whnf)
  refine zbb pok Tryz.func170 chk170 ?_
  conv=>whnf
  skip
  refine zx5 pok [3] Tryz.func231 chk231 ?_
  conv=>whnf
  repeat' first|((first|refine LookP.mk _ rfl ?_|refine ShlP.mk _ qaa ?_|refine HpP.force ?_);conv=>whnf)
  refine znm pok 4 qah qah ?_
  conv=>whnf
  repeat' first|((first|refine LookP.mk _ rfl ?_|refine zam c164 ?_|refine HpP.force ?_);conv=>whnf)
  refine on_useL (M:=[]) h (fun q hq=>nomatch hq) rfl rfl rfl rfl (Nat.le_of_ble_eq_true rfl) (zo8 fun m hm=>by unfold nmY at hm;simp only[List.mem_cons,List.not_mem_nil,or_false]at hm;rcases hm with rfl|rfl|rfl|rfl|rfl|rfl|rfl|rfl|rfl<;>rfl) ?_
  intro M1 hM1
  cases hdd:ddS w wa b gs
  ·have hp:postY w b gs gt wa wt M1=hOn w b gs gt wa wt ((brS w wa b gs).map AV.d) M1 (lpY E0Y .done (some .ret)):=by unfold postY;rw[hdd];rfl
   rw[hp]
   conv=>whnf
   skip
   refine fin ⟨_,Sub.refl,?_⟩
   conv=>whnf
   repeat' first|(refine LookP.mk _ rfl ?_;conv=>whnf)
   exact fin rfl
  ·have hp:postY w b gs gt wa wt M1=hOn w b gs gt wa wt R0Y M1 (lpY E0Y .ready none):=by unfold postY;rw[hdd];rfl
   rw[hp]
   conv=>whnf
   skip
   refine fin ⟨_,Sub.refl,?_⟩
   conv=>whnf
   repeat' first|((first|refine LookP.mk _ rfl ?_|refine ShlP.mk _ qaa ?_|refine HpP.force ?_);conv=>whnf)
   exact fin rfl
end Go.Tz
namespace Go.Tz
open Go Go.AL Go.Proofs Go.Ma
namespace P4
theorem nrm_twc'(p:P4):nrm p.twc=2*nrm p:=by
 obtain⟨a,b,c,d⟩:=p
 simp only[nrm,twc,Int.mul_add,Int.add_mul,Int.mul_sub,Int.sub_mul]
 have e1:d*b=b*d:=Int.mul_comm _ _
 have e2:c*a=a*c:=Int.mul_comm _ _
 rw[e1,e2];omega
theorem nrm_rse':∀(i:Nat) (p:P4),nrm (rse i p)=2^i*nrm p
 | 0,p=>by show nrm p=1*nrm p;omega
 | i+1,p=>by
  show nrm (rse i p.twc)=_
  rw[nrm_rse' i,nrm_twc',Int.pow_succ,Int.mul_assoc]
theorem nrm_nn(p:P4):0<=nrm p:=by
 have sqn:∀ c:Int,0<=c*c:=fun c=>by
  rcases Int.le_total 0 c with q|q
  ·exact qew
  ·exact qco
 have h1:=sqn p.a
 have h2:=sqn p.b
 have h3:=sqn p.c
 have h4:=sqn p.d
 unfold nrm;omega
theorem bd_nrm{p:P4}{n:Int}(hn:0<=n)(h:nrm p<=n*n):Bd n p:=by
 have sqn:∀ c:Int,0<=c*c:=fun c=>by
  rcases Int.le_total 0 c with q|q
  ·exact qew
  ·exact qco
 have h1:=sqn p.a
 have h2:=sqn p.b
 have h3:=sqn p.c
 have h4:=sqn p.d
 unfold nrm at h
 have a1:=znf (a:=p.a) (c:=0) hn qad
 have a2:=znf (a:=p.b) (c:=0) hn qad
 have a3:=znf (a:=p.c) (c:=0) hn qad
 have a4:=znf (a:=p.d) (c:=0) hn qad
 exact⟨a1.1,a1.2,a2.1,a2.2,a3.1,a3.2,a4.1,a4.2⟩
theorem rse_nrm{K i:Nat}{S:P4}{n:Int}(hn:0<=n)(h:nrm S<=n*n)(hi:i<=K-(lsz K S).2):Bd n (rse i (lsz K S).1):=by
 refine bd_nrm hn ?_
 obtain⟨_,h2⟩:=rse_lsz K S
 have e:nrm S=2^(K-(lsz K S).2-i)*nrm (rse i (lsz K S).1):=by
  conv=>lhs;rw[<- h2,nrm_rse']
  rw[nrm_rse',<- Int.mul_assoc,<- Int.pow_add,show K-(lsz K S).2-i+i=K-(lsz K S).2 by omega]
 have hp:(1:Int)<=2^(K-(lsz K S).2-i):=by
  have:(0:Int)<2^(K-(lsz K S).2-i):=Int.pow_pos qag
  omega
 have:=Int.mul_le_mul_of_nonneg_right hp (nrm_nn (rse i (lsz K S).1))
 omega
end P4
theorem addB{K:Nat}{A B:Cx}(hK:K<=60)(hA:P4.nrm (emb A)<=20000*20000)(hB:P4.nrm (emb B)<=20000*20000):PC Pr GK 156 [wD (ln K A).1 (ln K A).2,nD (ln K B).1 (ln K B).2] (.tup [.agg (nmL (ln K (cadd A B))),iD 0]):=by
 obtain⟨k,hk⟩:∃ k,k=max (P4.lsz K (emb A)).2 (P4.lsz K (emb B)).2:=⟨_,rfl⟩
 obtain⟨h1,h2⟩:=P4.lsz_sum hk
 have b1:=fun i (hi:i<=k-(P4.lsz K (emb A)).2)=>P4.rse_nrm (i:=i) (K:=K) (n:=20000) qag hA qad
 have b2:=fun i (hi:i<=k-(P4.lsz K (emb B)).2)=>P4.rse_nrm (i:=i) (K:=K) (n:=20000) qag hB qad
 have hb:=P4.add_bd (b1 _ (Nat.le_refl _)) (b2 _ (Nat.le_refl _))
 have h:=add156 (G:=GK) hk qad (fun i hi=>zn2 (b1 i hi) qag) (fun i hi=>zn2 (b2 i hi) qag) (hb.mono qag)
 rw[h2,emb_add]at h
 exact h
theorem lnB_ok{M:Nat}{u:Cx}(hM:M<=60)(hu:P4.nrm (emb u)<=20000*20000):NumOk (ln M u)/\P4.lsz (ln M u).2 (ln M u).1=ln M u :=
 ⟨⟨Nat.le_trans (P4.rse_lsz M (emb u)).1 hM,(P4.rse_nrm (K:=M) (i:=0) (n:=20000) qag hu (Nat.zero_le _)).mono qag⟩,P4.lsz_lsz M (emb u)⟩
theorem add2B{K:Nat}{A B:Cx}(hK:K<=60)(hA:P4.nrm (emb A)<=20000*20000)(hB:P4.nrm (emb B)<=20000*20000)(t:Bool):PC Pr GK 227 [.sl [nmL (ln K A),nmL (ln K B)] t] (.tup [.agg (nmL (ln K (cadd A B))),iD 0]) :=
 zwv (lnB_ok hK hA).1 (lnB_ok hK hB).1 (lnB_ok hK hA).2 (addB hK hA hB) t
theorem rse_two(n:Int):∀ d:Nat,P4.rse (2*d) ⟨n,0,0,0⟩=⟨2^d*n,0,0,0⟩:=by
 intro d
 induction d generalizing n with
 | zero=>show(⟨n,0,0,0⟩:P4)=⟨1*n,0,0,0⟩;rw[Int.one_mul]
 | succ d ih =>
  show P4.rse (2*d+2) _=_
  show P4.rse (2*d) (P4.twc (P4.twc ⟨n,0,0,0⟩))=_
  have e:P4.twc (P4.twc ⟨n,0,0,0⟩)=⟨2*n,0,0,0⟩:=by
   simp only[P4.twc,P4.mk.injEq]
   refine⟨by omega,by omega,by omega,by omega⟩
  rw[e,ih,Int.pow_succ,Int.mul_assoc]
theorem norm_e{M:Nat}{u:Cx}(hM:2*M<=60)(hu:P4.Bd 128 (emb u)):PC Pr GK 77 [.agg (nmL (ln M u))] (.tup [.agg (nmL (ln (M+M) (cn2 u,0))),iD 0]):=by
 have b1:=P4.lsz_bd M qag hu
 have r1:=(P4.rse_lsz M (emb u)).1
 have hg:P4.Gau (P4.lsz M (emb u)).1:=by unfold P4.lsz;split;exact .inl ⟨rfl,rfl⟩;exact P4.lst_gau M (emb_gau u)
 have hmc:=P4.mul_con hg
 have hb:P4.Bd 1073741824 ((P4.lsz M (emb u)).1.mul (P4.lsz M (emb u)).1.con):=by
  rw[hmc]
  generalize (P4.lsz M (emb u)).1=p at b1
  have hn:0<=P4.nrm p:=P4.nrm_nn p
  have hn2:P4.nrm p<=65536:=by
   unfold P4.Bd at b1
   unfold P4.nrm
   have sq:∀ x:Int,-128<=x->x<=128->x*x<=16384:=fun x h1 h2=>by
    have h:(x*x).natAbs<=128*128:=by
     rw[Int.natAbs_mul]
     exact Nat.mul_le_mul qad qad
    omega
   have h1:=sq p.a qad qad
   have h2:=sq p.b qad qad
   have h3:=sq p.c qad qad
   have h4:=sq p.d qad qad
   omega
  unfold P4.Bd
  simp only
  omega
 have h:=norm77g (G:=GK) (p:=(P4.lsz M (emb u)).1) (k:=(P4.lsz M (emb u)).2) qad (b1.mono qag) P4.lsz_con hb
 have e:P4.lsz ((P4.lsz M (emb u)).2+(P4.lsz M (emb u)).2) ((P4.lsz M (emb u)).1.mul (P4.lsz M (emb u)).1.con)=ln (M+M) (cn2 u,0):=by
  rw[hmc]
  obtain⟨_,h2⟩:=P4.rse_lsz M (emb u)
  have hn:P4.nrm (emb u)=2^(M-(P4.lsz M (emb u)).2)*P4.nrm (P4.lsz M (emb u)).1:=by
   conv=>lhs;rw[<- h2,P4.nrm_rse']
  rw[zpi]at hn
  have e3:emb (cn2 u,0)=P4.rse (2*(M-(P4.lsz M (emb u)).2)) ⟨P4.nrm (P4.lsz M (emb u)).1,0,0,0⟩:=by
   rw[hn,rse_two];rfl
  unfold ln
  rw[e3]
  have:=P4.lsz_rse ((P4.lsz M (emb u)).2+(P4.lsz M (emb u)).2) (2*(M-(P4.lsz M (emb u)).2)) ⟨P4.nrm (P4.lsz M (emb u)).1,0,0,0⟩
  rw[show(P4.lsz M (emb u)).2+(P4.lsz M (emb u)).2+2*(M-(P4.lsz M (emb u)).2)=M+M by omega]at this
  exact this.symm
 rw[e]at h
 exact h
end Go.Tz
namespace Go.Tz
open Go Go.AL Go.Proofs Go.Ma
def tN(u:Nat->Cx):Nat->Int
 | 0=>0
 | q+1=>tN u q+cn2 (u q)
theorem zwi(c:Cx):0<=cn2 c:=by
 have sqn:∀ c:Int,0<=c*c:=fun c=>by
  rcases Int.le_total 0 c with q|q
  ·exact qew
  ·exact qco
 have h1:=sqn c.1
 have h2:=sqn c.2
 unfold cn2;omega
theorem tN_nn(u:Nat->Cx):∀ m,0<=tN u m
 | 0=>Int.le_refl _
 | m+1=>by
  have:=tN_nn u m
  have:=zwi (u m)
  show 0<=tN u m+cn2 (u m)
  omega
theorem zyz(u:Nat->Cx):∀{i n:Nat},i<=n->0<=tN u i/\tN u i<=tN u n:=by
 intro i n h
 induction n with
 | zero =>
  obtain rfl:i=0:=qad
  exact⟨Int.le_refl _,Int.le_refl _⟩
 | succ n ih =>
  have hs:tN u (n+1)=tN u n+cn2 (u n):=rfl
  have hc:=zwi (u n)
  by_cases e:i=n+1
  ·subst e
   exact⟨tN_nn u _,Int.le_refl _⟩
  ·have:=ih qad
   omega
theorem nrm_int{n:Int}(h0:0<=n)(h:n<=20000):P4.nrm (emb (n,0))<=20000*20000:=by
 rw[zpi]
 show n*n+0*0<=_
 have:=Int.mul_le_mul h h h0 qag
 omega
theorem chk173:chkFn Tryz.f173=true:=qah
theorem chk86:chkFn Tryz.f86=true:=qah
theorem norm173{u:Nat->Cx}{M N:Nat}(hM:M<=20)(hu:∀ q,q<N->P4.Bd 128 (emb (u q)))(hT:tN u N<=20000)(hN:N<=64)(t:Bool):PC Pr GK 173 [vN (lN u M N) t] (.tup [.agg (nmL (ln (M+M) (tN u N,0))),iD 0]):=by
 have hl:((lN u M N).map nmL).length=N:=qey
 have hg:=fun q (h:q<N)=>lN_get (u:=u) (M:=M) h
 unfold vN
 generalize (lN u M N).map nmL=V at hl hg⊢
 have z0:((0:Int) != 0)=false:=rfl
 have z1:((0:Int)==0)=true:=rfl
 refine zai pok Tryz.func173 chk173 ?_
 conv=>whnf
 repeat' first|((first|refine LookP.mk _ rfl ?_|refine ShlP.mk _ qaa ?_|refine HpP.force ?_);conv=>whnf)
 refine zaq pok (fun q=>⟨[(2,.ptr 0 5 0 0),(4,.ptr 1 5 0 0),(10,.d (.sl V t)),(11,.d (iD V.length)),(12,.d (iD q))],[(0,some (.arr 5 [[.d (iD 0),.d (iD 0),.d (iD 0),.d (iD 0),.d (iD 0)]])),(1,some (.arr 5 [(nmL (ln (M+M) (tN u q,0))).map AV.d]))],2⟩) (N) (fun _=>True) (trivial) ?_ qah ?_ ?_
 ·exact qf2
 ·intro q A_q h_q I_q N_q
  have e_q:iadd .i64 (q:Int) 1=((q+1:Nat):Int):=zah qbl
  have hq:=hg q h_q
  have hm:=zyz u (i:=q) (n:=N) qad
  have hm1:=zyz u (i:=q+1) (n:=N) qad
  have hc:=zwi (u q)
  have hs:tN u (q+1)=tN u q+cn2 (u q):=rfl
  have c77:=norm_e (M:=M) qad (hu q h_q)
  have c227:=add2B (K:=M+M) (A:=(tN u q,0)) (B:=(cn2 (u q),0)) qad (nrm_int hm.1 qad) (nrm_int hc qad) true
  have ec:cadd (tN u q,0) (cn2 (u q),0)=(tN u (q+1),0):=rfl
  rw[ec]at c227
  have hlt:decide ((q:Int)<(V.length:Int))=true:=decide_eq_true qad
  generalize ln (M+M) (tN u (q+1),0)=s2 at c227 N_q
  generalize ln (M+M) (tN u q,0)=s1 at c227⊢
  generalize ln (M+M) (cn2 (u q),0)=s3 at c77 c227
  conv=>whnf
  repeat' first|((first|refine LookP.mk _ (by first|rfl|exact hq) ?_|refine ShlP.mk _ qaa ?_|refine And.intro qbi ?_|refine knownB hlt ?_|refine zak c77 ?_|refine zot c227 (zda rfl rfl) rfl ?_|refine knownB z0 ?_|refine knownB z1 ?_|refine HpP.force ?_);conv=>whnf)
  refine N_q _ ?_ ?_
  ·exact qbj
  ·refine zac qac ?_ ?_ trivial
   ·exact qa1
   ·exact qab
 ·intro A_last I_last
  have hlt:decide ((N:Int)<(V.length:Int))=false:=decide_eq_false qad
  generalize ln (M+M) (tN u N,0)=s1
  conv=>whnf
  repeat' first|((first|refine LookP.mk _ rfl ?_|refine ShlP.mk _ qaa ?_|refine knownB hlt ?_|refine HpP.force ?_);conv=>whnf)
  exact fin rfl
theorem norm86{w:Nat}{u:Nat->Cx}{M:Nat}(hw:w<=4)(hM:M<=20)(hu:∀ q,q<2^w->P4.Bd 128 (emb (u q)))(hT:tN u (2^w)<=20000)(t:Bool):PC Pr GK 86 [vN (lN u M (2^w)) t] (.tup [.agg (nmL (ln (M+M) (tN u (2^w),0))),iD 0]):=by
 have hN:2^w<=16:=Nat.pow_le_pow_right (n:=2) qag hw
 have c1:=zmq (w:=w) (fun s hs=>(lN_ok (M:=M) (N:=2^w) hM (fun q hq=>(hu q hq).mono qag) s hs).1) (zhl u M (2^w)) qad t
 have c2:=norm173 hM hu hT qad t
 have z0:((0:Int) != 0)=false:=rfl
 refine zai pok Tryz.func86 chk86 ?_
 conv=>whnf
 repeat' first|((first|refine LookP.mk _ rfl ?_|refine ShlP.mk _ qaa ?_|refine zak c1 ?_|refine zak c2 ?_|refine knownB z0 ?_|refine HpP.force ?_);conv=>whnf)
 exact fin rfl
theorem tN_sq(u:Nat->Cx):∀ n:Nat,tN u n=(sq n fun k=>cip (u k) (u k)).1
 | 0=>rfl
 | n+1=>by
  have ih:=tN_sq u n
  show tN u n+cn2 (u n)=(sq n fun k=>cip (u k) (u k)).1+(cip (u n) (u n)).1
  rw[ih];rfl
theorem tN_inn(u:Nat->Cx)(w:Nat):tN u (2^w)=(inn w u u).1:=by
 rw[tN_sq,sq_sm];rfl
theorem basis84{w:Nat}(hw:1<=w/\w<=3):∃ t,PC Pr GK 84 [iD w,iD 0] (.tup [vN (lN u00 0 (2^w)) t,iD 0]):=by
 have h:w=1\/w=2\/w=3:=qad
 rcases h with rfl|rfl|rfl
 ·exact⟨true,up (zf6 qah)⟩
 ·exact⟨true,up (zf6 qah)⟩
 ·exact⟨true,up (zf6 qah)⟩
end Go.Tz
namespace Go.Tz
open Go Go.AL Go.Proofs Go.Ma
variable{bs:List Int}{u:Bool}
theorem chk166:chkFn Tryz.f166=true:=qah
theorem sk166(bs:List Int)(u:Bool)(n0 m:Nat)(hn:0<n0)(hbs:bs.length<=1000)(hm:0<m):SK 166 [iD m] bs u 1 n0 (fun y:Bool=>.bool y) fun _=>True:=by
 have c1:=(sc71 bs u n0 m hn hbs hm).k
 refine sk_mk (za3 Tryz.func166 chk166) hn fun nx st hb=>?_
 refine za4 pok Tryz.func166 chk166 ?_
 conv=>whnf
 skip
 refine sk_use c1 (Nat.le_refl _) hb rfl ?_
 intro y st' nx' h1 hy
 obtain⟨z,hz⟩:∃ z,z=((y:Int)==0):=⟨_,rfl⟩
 conv=>whnf
 repeat' first|(intro t ht;cases t<;>conv=>whnf)
 all_goals exact fin ⟨_,st',nx',h1,trivial,rfl,rfl⟩
structure StOk (w:Nat) (b:Int) (g:Gt):Prop where
 chk:gchk g w b=0
 kd:mB g=true\/kindB g.k=true
 len:g.ws.length<=2
theorem zpd{w b:Nat}{k bb:Int}{y:Nat}{t:Bool}(hk:k=13\/k=14)(hy:y<w)(hb:(k=13->0<=bb/\bb<b)/\(k=14->bb=0)):StOk w b ⟨k,[(y:Int)],t,bb,0⟩:=by
 refine⟨?_,.inl (decide_eq_true hk),Nat.le_of_ble_eq_true rfl⟩
 unfold gchk
 have h1:arI k=1:=ari1 qad
 have h2:outB w [(y:Int)]=false:=by
  unfold outB
  simp
  omega
 have h3:dupB [(y:Int)]=false:=rfl
 dsimp only
 rw[h1,if_neg qag,if_neg (fun e=>e rfl),h2,if_neg qag,h3,if_neg qag]
 exact bitE0 qca qca
theorem zrf{w b:Nat}{g:Gt}{i:Int}(h:GtOk w g)(hi:0<=i/\i<=b):StOk w b ⟨g.k,g.ws,g.u,g.b,i⟩:=by
 refine⟨?_,.inr h.kind,h.len⟩
 obtain⟨h1,h2,h3,h4,h5⟩:=zej h.chk
 obtain⟨_,q2,q3,q4⟩:=zgk h5
 have hk:=of_decide_eq_true (show decide _=true from h.kind)
 unfold gchk
 dsimp only
 rw[if_neg h1,if_neg (fun e=>e h2),h3,if_neg qag,h4,if_neg qag]
 have hk13:g.k≠13/\g.k≠14:=qad
 exact bitE0 qca (by dsimp only;have:=q4 hk13.1;omega)
abbrev ksS(w:Nat)(b:Nat)(m i:Nat):List (Nat×AV):=[(0,.ptr 0 3 0 0),(1,.d (iD w)),(2,.d (iD b)),(4,.d cfD),(10,.ptr 60 3 0 0),(11,.ptr 61 3 0 0),(19,.d (iD m)),(20,.d (iD i))]
abbrev stS(bs:List Int)(u:Bool)(w b m:Nat)(s:List Gt×Int×Nat):St:=⟨ksS w b m s.1.length,[(0,some (storeB bs u s.2.2 s.2.1)),(60,some (.arr 3 [[.d (iD 0),.d (iD 0),.d (.sl [] true)]])),(61,some (.arr 3 [[.d (iD w),.d (iD b),.sl 62 4 0 s.1.length s.1.length false]])),(62,some (dblk 4 (s.1.map Gt.l)))],63⟩
theorem chk83:chkFnH [6,8] Tryz.f83=true:=qah
theorem circ83(bs:List Int)(u:Bool)(w b most nx:Nat)(st:Int)(hw:1<=w/\w<=12)(hb8:b<=8)(hm:most<=100)(hbs:bs.length<=1000)(hb:nx+(1+20*most)<=4611686018427387904) :
  ACall Pr GK 83 [.ptr 0 3 0 0,.d (iD w),.d (iD b),.d (iD most),.d cfD] [(0,some (storeB bs u nx st))] 60 fun v H _=>∃(gs:List Gt) (st':Int) (nx':Nat),nx'<=nx+(1+20*most)/\(gs.length<=most /\ ∀ g,g∈gs->StOk w b g)/\v = .agg [.d (iD w),.d (iD b),.sl 62 4 0 gs.length gs.length false]/\H.get 0=some (storeB bs u nx' st')/\H.get 62=some (dblk 4 (gs.map Gt.l)):=by
 have c1:=(sc71 bs u 60 (most+1) qag hbs qad).k
 have cw:=(sc71 bs u 60 w qag hbs qad).k
 have c65:=(sc65 bs u w hw hbs).k
 have e0:iadd .i64 (most:Int) 1=((most+1:Nat):Int):=zah (b:=1) qad
 refine zk0 pok [6,8] Tryz.func83 chk83 ?_
 conv=>whnf
 repeat' first|((first|refine LookP.mk _ rfl ?_|refine ShlP.mk _ qaa ?_|rw[e0]|refine HpP.force ?_);conv=>whnf)
 refine zcz (nx:=nx) (st:=st) (args:=[iD ((most+1:Nat):Int)]) c1 qag qad rfl ?_
 intro m st1 nx1 b1 m1
 conv=>whnf
 skip
 refine loop_useH (σ:={ s:List Gt×Int×Nat // s.1.length<=m/\(∀ g,g∈s.1->StOk w b g)/\s.2.2<=nx+1+20*s.1.length }) pok [6,8] (fun s=>stS bs u w b m s.1) (fun s=>m-s.1.1.length) ⟨([],st1,nx1),Nat.zero_le _,fun g hg=>(nomatch hg),b1⟩ ?_ qah ?_
 ·refine Sub.trans (zy1 (nm:=61) (S:=4) qag rfl) ?_
  refine zac qac ?_ ?_ trivial
  ·exact qae
  ·exact qab
 ·rintro⟨⟨gs,st2,nx2⟩,h1,h2,h3⟩ A hA
  dsimp only at h1 h2 h3 hA⊢
  have e1:iadd .i64 (gs.length:Int) 1=((gs.length+1:Nat):Int):=zah (b:=1) qad
  conv=>whnf
  repeat' first|((first|refine LookP.mk _ rfl ?_|refine ShlP.mk _ qaa ?_|refine HpP.force ?_);conv=>whnf)|(intro t ht;cases t<;>conv=>whnf)
  ·exact fin ⟨gs,st2,nx2,by omega,⟨by omega,h2⟩,rfl,rfl,rfl⟩
  ·have hlt:gs.length<m:=by
    have:=of_decide_eq_true ht
    dsimp only at this
    omega
   have done:∀(g':Gt) (st4:Int) (nx4:Nat),StOk w b g'->nx4<=nx2+20->∀ s',AL.Sub GK 60 [] s' ⟨ksS w b m (gs.length+1),[(0,some (storeB bs u nx4 st4)),(60,some (.arr 3 [[.d (iD 0),.d (iD 0),.d (.sl [] true)]])),(61,some (.arr 3 [[.d (iD w),.d (iD b),.sl 62 4 0 (gs.length+1) (gs.length+1) false]])),(62,some (dblk 4 ((gs++[g']).map Gt.l)))],63⟩->A s':=fun g' st4 nx4 q1 q2 s' hs=>by
    have hln:(gs++[g']).length=gs.length+1:=by rw[List.length_append];rfl
    refine hA s' ⟨(gs++[g'],st4,nx4),by rw[hln];exact hlt,fun g'' hg'=>?_,by show nx4<=nx+1+20*(gs++[g']).length;rw[hln];omega⟩ ?_ (by show m-(gs++[g']).length<m-gs.length;rw[hln];omega)
    ·rcases List.mem_append.1 hg' with q|q
     ·exact h2 _ q
     ·rw[List.mem_singleton.1 q];exact q1
    ·have e3:stS bs u w b m (gs++[g'],st4,nx4)=⟨ksS w b m (gs.length+1),[(0,some (storeB bs u nx4 st4)),(60,some (.arr 3 [[.d (iD 0),.d (iD 0),.d (.sl [] true)]])),(61,some (.arr 3 [[.d (iD w),.d (iD b),.sl 62 4 0 (gs.length+1) (gs.length+1) false]])),(62,some (dblk 4 ((gs++[g']).map Gt.l)))],63⟩:=by
      simp only[stS,hln]
     exact Eq.subst (motive:=fun s=>AL.Sub GK 60 [] _ s) e3.symm hs
   refine zcz (nx:=nx2) (st:=st2) (args:=[iD w,cfD]) c65 qag qad rfl ?_
   intro g st3 nx3 g1 g2
   have c12:=sk166 bs u 60 12 qag hbs qag
   have c5:=sk166 bs u 60 5 qag hbs qag
   have c4:=sk166 bs u 60 4 qag hbs qag
   have hg0:StOk w b ⟨g.k,g.ws,g.u,g.b,g.i⟩:=zrf (i:=g.i) g2 (by rw[g2.i0];omega)
   have ts42:TSlice Pr 42 3 1 8 (iD 0):=⟨(tab_ok.get (t:=42) rfl).2,(tab_ok.get (t:=3) rfl).1⟩
   by_cases hb0:(b:Int)>0
   ·have hbb:decide ((b:Int)>0)=true:=decide_eq_true hb0
    have c63:=(sc63 bs u 60 b qag hbs qad qad).k
    have cb:=(sc71 bs u 60 b qag hbs qad).k
    conv=>whnf
    repeat' first|((first|refine LookP.mk _ rfl ?_|refine ShlP.mk _ qaa ?_|refine knownB hbb ?_|refine HpP.force ?_);conv=>whnf)
    refine zcz (nx:=nx3) (st:=st3) (args:=[iD 5]) c5 qag qad rfl ?_
    intro z st4 nx4 g3 g3_
    dsimp only
    rcases Bool.eq_false_or_eq_true z with hz|hz
    ·rw[hz]
     conv=>whnf
     skip
     refine zji pok (l1:=[_,_,_]) rfl rfl qah ?_
     conv=>whnf
     skip
     refine zcz (nx:=nx4) (st:=st4) (args:=[iD w]) cw qag qad rfl ?_
     intro y st5 nx5 hy hy_
     dsimp only at hy_⊢
     conv=>whnf
     skip
     refine StepVC.mk _ _ Sub.refl (fun r K hK=>za1 (k:=1) (fun c h=>nomatch h) ((za6 (nm:=64) (es:=[[iD y]]) (zat (nm:=64) (len:=1) (zs:=[.d (iD 0)]) (els:=([[iD y]]:List (List D)).map fun el=>el.map AV.d) rfl ts42 rfl rfl rfl (zcr rfl) rfl (Nat.le_of_ble_eq_true rfl)) rfl).names fun m hm=>by subst hm;exact⟨Nat.le_refl _,Nat.le_refl _⟩) rfl hK) ?_
     conv=>whnf
     skip
     refine zcz (nx:=nx5) (st:=st5) (args:=[iD b]) cb qag qad rfl ?_
     intro z st6 nx6 hz1 hz2
     dsimp only at hz2⊢
     conv=>whnf
     repeat' first|((first|refine LookP.mk _ rfl ?_|refine ShlP.mk _ qaa ?_|refine HpP.force ?_);conv=>whnf)
     refine fin ⟨_,Sub.refl,?_⟩
     have fin1:=done ⟨13,[(y:Int)],true,z,0⟩ st6 nx6 (zpd (.inl rfl) hy_ qad) qad
     conv=>whnf
     repeat' first|((first|refine LookP.mk _ rfl ?_|refine ShlP.mk _ qaa ?_|(refine And.intro qbn ?_)|rw[nbeq]|refine HpP.force ?_);conv=>whnf)
     refine fin1 _ ?_
     have hsn:(gs++[(⟨13,[(y:Int)],true,z,0⟩:Gt)]).map Gt.l=gs.map Gt.l++[Gt.l (⟨13,[(y:Int)],true,z,0⟩:Gt)]:=qck
     first|refine zav [(62,66)] ?_ ?_ ?_ trivial|refine zap [(62,66)] rfl rfl ?_ ?_ ?_ trivial
     ·exact qar
     ·exact qam
     ·exact qaf
    ·rw[hz]
     conv=>whnf
     skip
     refine zcz (nx:=nx4) (st:=st4) (args:=[iD 12]) c12 qag qad rfl ?_
     intro z2 st5 nx5 g4 g4_
     dsimp only
     rcases Bool.eq_false_or_eq_true z2 with hz|hz
     ·rw[hz]
      conv=>whnf
      skip
      refine zji pok (l1:=[_,_,_]) rfl rfl qah ?_
      conv=>whnf
      skip
      refine zcz (nx:=nx5) (st:=st5) (args:=[iD w]) cw qag qad rfl ?_
      intro y st6 nx6 hy hy_
      dsimp only at hy_⊢
      conv=>whnf
      skip
      refine StepVC.mk _ _ Sub.refl (fun r K hK=>za1 (k:=1) (fun c h=>nomatch h) ((za6 (nm:=64) (es:=[[iD y]]) (zat (nm:=64) (len:=1) (zs:=[.d (iD 0)]) (els:=([[iD y]]:List (List D)).map fun el=>el.map AV.d) rfl ts42 rfl rfl rfl (zcr rfl) rfl (Nat.le_of_ble_eq_true rfl)) rfl).names fun m hm=>by subst hm;exact⟨Nat.le_refl _,Nat.le_refl _⟩) rfl hK) ?_
      conv=>whnf
      repeat' first|((first|refine LookP.mk _ rfl ?_|refine ShlP.mk _ qaa ?_|refine HpP.force ?_);conv=>whnf)
      refine fin ⟨_,Sub.refl,?_⟩
      have fin1:=done ⟨14,[(y:Int)],true,0,0⟩ st6 nx6 (zpd (.inr rfl) hy_ qad) qad
      conv=>whnf
      repeat' first|((first|refine LookP.mk _ rfl ?_|refine ShlP.mk _ qaa ?_|(refine And.intro qbn ?_)|rw[nbeq]|refine HpP.force ?_);conv=>whnf)
      refine fin1 _ ?_
      have hsn:(gs++[(⟨14,[(y:Int)],true,0,0⟩:Gt)]).map Gt.l=gs.map Gt.l++[Gt.l (⟨14,[(y:Int)],true,0,0⟩:Gt)]:=qck
      first|refine zav [(62,66)] ?_ ?_ ?_ trivial|refine zap [(62,66)] rfl rfl ?_ ?_ ?_ trivial
      ·exact qar
      ·exact qam
      ·exact qaf
     ·rw[hz]
      conv=>whnf
      repeat' first|(refine knownB hbb ?_;conv=>whnf)
      refine zcz (nx:=nx5) (st:=st5) (args:=[iD 4]) c4 qag qad rfl ?_
      intro z3 st6 nx6 g5 g5_
      dsimp only
      rcases Bool.eq_false_or_eq_true z3 with hz|hz
      ·rw[hz]
       conv=>whnf
       skip
       refine zcz (nx:=nx6) (st:=st6) (args:=[iD 1,iD b]) c63 qag qad rfl ?_
       intro y st7 nx7 g6 g6_
       dsimp only
       have fin1:=done ⟨g.k,g.ws,g.u,g.b,y⟩ st7 nx7 (zrf g2 qad) qad
       conv=>whnf
       repeat' first|((first|refine LookP.mk _ rfl ?_|refine ShlP.mk _ qaa ?_|(refine And.intro qbn ?_)|rw[nbeq]|refine HpP.force ?_);conv=>whnf)
       refine fin1 _ ?_
       have hsn:(gs++[(⟨g.k,g.ws,g.u,g.b,y⟩:Gt)]).map Gt.l=gs.map Gt.l++[Gt.l (⟨g.k,g.ws,g.u,g.b,y⟩:Gt)]:=qck
       first|refine zav [(62,65)] ?_ ?_ ?_ trivial|refine zap [(62,65)] rfl rfl ?_ ?_ ?_ trivial
       ·exact qar
       ·exact qam
       ·exact qaf
      ·rw[hz]
       have fin1:=done ⟨g.k,g.ws,g.u,g.b,g.i⟩ st6 nx6 (hg0) qad
       conv=>whnf
       repeat' first|((first|refine LookP.mk _ rfl ?_|refine ShlP.mk _ qaa ?_|(refine And.intro qbn ?_)|rw[nbeq]|refine HpP.force ?_);conv=>whnf)
       refine fin1 _ ?_
       have hsn:(gs++[(⟨g.k,g.ws,g.u,g.b,g.i⟩:Gt)]).map Gt.l=gs.map Gt.l++[Gt.l (⟨g.k,g.ws,g.u,g.b,g.i⟩:Gt)]:=qck
       first|refine zav [(62,65)] ?_ ?_ ?_ trivial|refine zap [(62,65)] rfl rfl ?_ ?_ ?_ trivial
       ·exact qar
       ·exact qam
       ·exact qaf
   ·have hbb:decide ((b:Int)>0)=false:=decide_eq_false hb0
    conv=>whnf
    repeat' first|((first|refine LookP.mk _ rfl ?_|refine ShlP.mk _ qaa ?_|refine knownB hbb ?_|refine HpP.force ?_);conv=>whnf)
    refine zcz (nx:=nx3) (st:=st3) (args:=[iD 12]) c12 qag qad rfl ?_
    intro z st4 nx4 g3 g3_
    dsimp only
    rcases Bool.eq_false_or_eq_true z with hz|hz
    ·rw[hz]
     conv=>whnf
     skip
     refine zji pok (l1:=[_,_,_]) rfl rfl qah ?_
     conv=>whnf
     skip
     refine zcz (nx:=nx4) (st:=st4) (args:=[iD w]) cw qag qad rfl ?_
     intro y st5 nx5 hy hy_
     dsimp only at hy_⊢
     conv=>whnf
     skip
     refine StepVC.mk _ _ Sub.refl (fun r K hK=>za1 (k:=1) (fun c h=>nomatch h) ((za6 (nm:=64) (es:=[[iD y]]) (zat (nm:=64) (len:=1) (zs:=[.d (iD 0)]) (els:=([[iD y]]:List (List D)).map fun el=>el.map AV.d) rfl ts42 rfl rfl rfl (zcr rfl) rfl (Nat.le_of_ble_eq_true rfl)) rfl).names fun m hm=>by subst hm;exact⟨Nat.le_refl _,Nat.le_refl _⟩) rfl hK) ?_
     conv=>whnf
     repeat' first|((first|refine LookP.mk _ rfl ?_|refine ShlP.mk _ qaa ?_|refine HpP.force ?_);conv=>whnf)
     refine fin ⟨_,Sub.refl,?_⟩
     have fin1:=done ⟨14,[(y:Int)],true,0,0⟩ st5 nx5 (zpd (.inr rfl) hy_ qad) qad
     conv=>whnf
     repeat' first|((first|refine LookP.mk _ rfl ?_|refine ShlP.mk _ qaa ?_|(refine And.intro qbn ?_)|rw[nbeq]|refine HpP.force ?_);conv=>whnf)
     refine fin1 _ ?_
     have hsn:(gs++[(⟨14,[(y:Int)],true,0,0⟩:Gt)]).map Gt.l=gs.map Gt.l++[Gt.l (⟨14,[(y:Int)],true,0,0⟩:Gt)]:=qck
     first|refine zav [(62,66)] ?_ ?_ ?_ trivial|refine zap [(62,66)] rfl rfl ?_ ?_ ?_ trivial
     ·exact qar
     ·exact qam
     ·exact qaf
    ·rw[hz]
     have fin1:=done ⟨g.k,g.ws,g.u,g.b,g.i⟩ st4 nx4 (hg0) qad
     conv=>whnf
     repeat' first|((first|refine LookP.mk _ rfl ?_|refine ShlP.mk _ qaa ?_|(refine And.intro qbn ?_)|refine knownB hbb ?_|rw[nbeq]|refine HpP.force ?_);conv=>whnf)
     refine fin1 _ ?_
     have hsn:(gs++[(⟨g.k,g.ws,g.u,g.b,g.i⟩:Gt)]).map Gt.l=gs.map Gt.l++[Gt.l (⟨g.k,g.ws,g.u,g.b,g.i⟩:Gt)]:=qck
     first|refine zav [(62,65)] ?_ ?_ ?_ trivial|refine zap [(62,65)] rfl rfl ?_ ?_ ?_ trivial
     ·exact qar
     ·exact qam
     ·exact qaf
theorem sk83(bs:List Int)(u:Bool)(w b most:Nat)(hw:1<=w/\w<=12)(hb8:b<=8)(hm:most<=100)(hbs:bs.length<=1000):SK 83 [iD w,iD b,iD most,cfD] bs u (1+20*most) 60 (fun p:List Gt×Bool=>circD w b p.1 p.2) fun p=>p.1.length<=most /\ ∀ g,g∈p.1->StOk w b g :=
 sk_mk (zio Tryz.func83 chk83) qag fun nx st hb=>by
  refine zbc (zfx (K':=fun v H _=>∃(p:List Gt×Bool) (st':Int) (nx':Nat),nx'<=nx+(1+20*most)/\(p.1.length<=most /\ ∀ g,g∈p.1->StOk w b g)/\v = .d (circD w b p.1 p.2)/\H.get 0=some (storeB bs u nx' st')) (circ83 bs u w b most nx st hw hb8 hm hbs hb) ?_) fun _ _ _ h=>h
  rintro v H m ⟨gs,st',nx',h1,h2,rfl,g0,g1⟩
  have hd:AHeap.get (dels [62] H) 0=some (storeB bs u nx' st'):=by
   show(AHeap.del H 62).get 0=_
   rw[za8,if_neg qag];exact g0
  exact⟨62,_,circD w b gs false,g1,asD_agg3 (.d _) (.d _) (zg9 (nm:=62) (sz:=4) (l:=gs.map Gt.l) rfl qc3),(gs,false),st',nx',h1,h2,rfl,hd⟩
end Go.Tz
