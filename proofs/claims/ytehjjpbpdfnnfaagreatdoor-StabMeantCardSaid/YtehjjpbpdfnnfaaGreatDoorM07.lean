import Derived.Test.YtehjjpbpdfnnfaaGreatDoorM00
import Derived.Test.YtehjjpbpdfnnfaaGreatDoorM06
namespace Go.Tz
open Go Go.AL Go.Proofs Go.Ma
theorem chk58:chkFn Tryz.f58=true:=qah
abbrev alX(e:Int):D:=.tup [stD 0 [] true,.sl [] true,iD 0,iD e]
def alK(w b:Nat)(l:List Ps)(cw:Int)(gs:List Gt)(wa:List Int)(v:AV)(H:AHeap):Prop :=
 (alE w l cw b gs wa=0/\v = .tup [.agg [.d (iD w),.sl 3 4 0 w w true],.sl 4 1 0 b b true,.d (iD (runA w wa b l gs).c),.d (iD 0)]/\H.get 3=some (dblk 4 ((runA w wa b l gs).r.map Ps.l))/\H.get 4=some (dblk 1 (nums (runA w wa b l gs).bs))) ∨
 (alE w l cw b gs wa≠0/\v = .d (alX (alE w l cw b gs wa)))
theorem zya{w b:Nat}{l:List Ps}{cw:Int}{gs:List Gt}{wa:List Int}{H:AHeap}{e:Int}(he:e≠0)(h:alE w l cw b gs wa=e):alK w b l cw gs wa (.d (alX e)) H:=by
 unfold alK;rw[h];exact .inr ⟨he,rfl⟩
theorem meaW{w b n k:Nat}{s:As}(hI:Inv w b n k s){g:Gt}(hg:gchk g w b=0)(hm:mB g=true){wa:List Int}(hb:∀ x,x∈wa->x=0\/x=1)(F:FuncId) :
  (expR w s.r (pA w wa s g) = -1/\WC (if g.k=13 then 136 else 137) (wA (gA g) (wa.getD s.k 0).toNat) w F s.r (rV 0 6) 3 s.r) ∨
  (expR w s.r (pA w wa s g) ≠ -1 /\ ∃ ch nm:Nat,ch<=1/\(nm=3\/nm=12)/\(if expR w s.r (pA w wa s g)=1 then s.c else s.c+1)=s.c+ch ∧
   WC (if g.k=13 then 136 else 137) (wA (gA g) (wa.getD s.k 0).toNat) w F s.r (rV ch 0) nm (stepA w wa s g).r):=by
 obtain⟨h1,h2,h3⟩:=zfo hg hm
 have ho:=(zho hb s.k).2.1
 have hpa:pA w wa s g=zP w (gA g) (wa.getD s.k 0).toNat:=rfl
 rcases (of_decide_eq_true hm:g.k=13\/g.k=14) with hk|hk
 ·rw[if_pos hk,zy6 hk]
  dsimp only
  unfold rA
  rw[hpa]
  rcases meas hI.ok hI.ok (fun _=>Iff.rfl) h2 ho F with⟨a,c⟩|⟨a,c⟩|⟨a,_,c⟩
  ·rw[a,if_pos rfl,if_pos rfl]
   exact .inr ⟨by decide,0,3,by omega,.inl rfl,rfl,c⟩
  ·exact .inl ⟨a,c⟩
  ·rw[a,if_neg qag,if_neg qag]
   exact .inr ⟨by decide,1,12,by omega,.inr rfl,rfl,c⟩
 ·rw[if_neg (show ¬ g.k=13 by rw[hk];decide),zy5 hk]
  dsimp only
  unfold rA
  rw[hpa]
  rcases rese hI.ok hI.ok (fun _=>Iff.rfl) h2 ho F with⟨a,nm,hnm,c⟩|⟨a,c⟩|⟨a,_,c⟩
  ·rw[a,if_pos rfl,if_pos rfl]
   exact .inr ⟨by decide,0,nm,by omega,hnm,rfl,c⟩
  ·exact .inl ⟨a,c⟩
  ·rw[a,if_neg (show ¬(0:Int)=1 by decide),if_neg (show ¬(0:Int)=1 by decide)]
   exact .inr ⟨by decide,1,12,by omega,.inr rfl,rfl,c⟩
theorem drop_get{wa:List Int}{k:Nat}(h:k<wa.length):((wa.drop k).map fun k=>[iD k])[(0:Int).toNat]?=some [iD (wa.getD k 0)]:=by
 rw[List.getD_eq_getElem?_getD,List.getElem?_eq_getElem h]
 simp[h]
theorem zff{wa:List Int}{k n:Nat}{u:Bool}(hn:n=((wa.drop k).map fun k=>[iD k]).length):AV.d (.sl ((((wa.drop k).map fun k=>[iD k]).drop 1).take (n-1)) (u&&decide (n=((wa.drop k).map fun k=>[iD k]).length)))=AV.d (intsD (wa.drop (k+1)) u):=by
 rw[decide_eq_true hn,Bool.and_true,hn]
 have e:(((wa.drop k).map fun k=>[iD k]).drop 1).take (((wa.drop k).map fun k=>[iD k]).length-1)=(wa.drop (k+1)).map fun k=>[iD k]:=by
  rw[List.take_of_length_le qbo,<- List.map_drop,List.drop_drop]
 rw[e]
theorem lendA2{V:AHeap}{nm sz N:Nat}{t:Bool}{es:List (List D)}{a e:D}(hg:V.get nm=some (dblk sz es))(hN:N=es.length):mapO (asDX V 9 []) [.agg [.d a,.sl nm sz 0 N N t],.d e]=some [.agg [a,.sl es t],e]:=by
 have h:=zt7 (q:=6) (vis:=[]) (t:=t) hg hN
 have e1:asDX V 8 [] (.d a)=some a:=rfl
 have e2:asDX V 9 [] (.d e)=some e:=rfl
 have e3:asDX V 9 [] (.agg [.d a,.sl nm sz 0 N N t])=some (.agg [a,.sl es t]):=by
  unfold asDX
  simp only[mapO,e1,h]
 simp only[mapO,e2,e3]
set_option maxHeartbeats 8000000 in
theorem zws{w b:Nat}{l:List Ps}(hs:SOk w l)(cw:Int)(gs:List Gt)(wa:List Int)(ct t u:Bool)(hC:cchk cw b gs=0)(hws:∀ g,g∈gs->g.ws.length<=1000)(hwn:wa.length<=1000) :
  ACall Pr GG 58 ([circD cw b gs ct,stD w l t,intsD wa u].map .d) [] 0 (fun v H _=>alK w b l cw gs wa v H):=by
 obtain⟨hcw,hb,hgl,hgc⟩:=cchk_ok hC
 have hw:1<=w/\w<=12:=⟨hs.lo,hs.hi⟩
 have c1:=zps (G:=GG) cw b gs ct qad hws
 rw[hC]at c1
 have c2:=zt3 w l t (zjf hs)
 rw[ok_chk hs]at c2
 have c3:=zov (G:=GG) hw l t (zjf hs) hs.vl
 rw[hs.len]at c3
 have c4:=every131 (G:=GG) gs ct 132 [] [.rop [.fn 130 [] []] 0] okB qad fun g _=>ok132 g
 have c5:=every134 (G:=GG) wa u 135 [] [] (fun x=>!offB x 0 1) hwn fun x _=>bit135 x
 refine za4 pok Tryz.func58 chk58 ?_
 conv=>whnf
 repeat' first|((first|refine LookP.mk _ rfl ?_|refine ShlP.mk _ qaa ?_|refine bneT ?_|refine zak c1 ?_|refine zak c2 ?_|refine HpP.force ?_);conv=>whnf)
 refine zaq pok (fun i=>⟨[(2,.d (intsD wa u)),(3,.ptr 0 3 0 0),(4,.ptr 1 2 0 0),(6,.ptr 2 2 0 0),(12,.ptr 3 1 0 0),(13,.d (iD ((gs.take i).countP mB:Nat))),(37,.d (gatesD gs ct)),(38,.d (iD (gs.map Gt.l).length)),(39,.d (iD i))],[(0,some (.arr 3 [[.d (iD cw),.d (iD b),.d (gatesD gs ct)]])),(1,some (.arr 2 [[.d (iD w),.d (rowsD l t)]])),(2,some (.arr 2 [[.d (iD 0),.d (.sl [] true)]])),(3,some (.arr 1 [[.d (.fn 130 [] [])]]))],4⟩) (gs.length) (fun _=>True) (trivial) ?_ qah ?_ ?_
 ·exact qf2
 ·intro i A_i h_i I_i N_i
  have e_i:iadd .i64 (i:Int) 1=((i+1:Nat):Int):=zah qbl
  have hgg:(gs.map Gt.l)[(i:Int).toNat]?=some (gs[i]).l:=zm6 h_i
  have hcs:(gs.take (i+1)).countP mB=(gs.take i).countP mB+if mB gs[i]=true then 1 else 0:=by
   rw[zbe h_i,List.countP_append]
   simp[List.countP_cons]
  have hkn:=ztd gs[i]
  have hcb:(gs.take i).countP mB<=i:=by
   have:=List.countP_le_length (p:=mB) (l:=gs.take i)
   rw[List.length_take]at this;omega
  generalize gs[i]=g at hgg hcs hkn
  generalize mB g=m at hcs hkn
  generalize (gs.take i).countP mB=n at hcs hcb⊢
  have hia:iadd .i64 (n:Int) 1=((n+1:Nat):Int):=zah (b:=1) qad
  conv=>whnf
  repeat (refine LookP.mk _ rfl ?_;conv=>whnf)
  intro t ht
  cases t
  ·exact qbh
  conv=>whnf
  repeat' first|((first|refine LookP.mk _ (by first|rfl|exact hgg) ?_|refine ShlP.mk _ qaa ?_|refine And.intro qbi ?_|refine zbk hkn rfl ?_|refine HpP.force ?_);conv=>whnf)|(intro t ht;cases t<;>conv=>whnf)
  ·subst ht
   refine N_i _ ?_ ?_
   ·exact qbj
   ·refine zac qac ?_ ?_ trivial
    ·repeat' first|exact trivial|refine⟨⟨by first|rfl|assumption|exact congrArg (fun n=>AV.d (iD n)) e_i|(rw[hcs];rfl),rfl⟩,?_⟩
    ·exact qab
  ·subst ht
   refine N_i _ ?_ ?_
   ·exact qbj
   ·refine zac qac ?_ ?_ trivial
    ·repeat' first|exact trivial|refine⟨⟨by first|rfl|assumption|exact congrArg (fun n=>AV.d (iD n)) e_i|(rw[hcs,hia];rfl),rfl⟩,?_⟩
    ·exact qab
 ·intro A_last I_last
  rw[List.take_length]
  conv=>whnf
  repeat (refine LookP.mk _ rfl ?_;conv=>whnf)
  intro t ht
  cases t
  rotate_left
  ·exact qbh
  conv=>whnf
  by_cases hcww:cw=w
  ·subst hcww
   repeat' first|((first|refine LookP.mk _ rfl ?_|refine ShlP.mk _ qaa ?_|refine And.intro (by first|exact⟨hb.1,rfl,by show 8*b<=_;omega,by decide,by decide⟩|assumption|exact⟨by kernel_rfl,rfl⟩|decide|omega) ?_|refine bneT ?_);conv=>whnf)|(refine zb4 c4 rfl ?_)|(refine zhw c5 ?_)|((first|refine zlx c3 ?_|refine HpP.force ?_);conv=>whnf)|(intro t ht;cases t<;>conv=>whnf)
   ·exact fin (zya qag (al7 (.inr ht)))
   ·exact fin (zya qag (al3 (by assumption) qfv ht))
   ·have hkb:gs.all okB=true:=by assumption
    have hcn:wa.length=gs.countP mB:=qfv
    have hbt:=ht
    clear c4 c5 c1 c2
    have hA:=okW_a hC hkb hcn hbt
    refine for_useR pok 35 (fun i=>⟨[(2,.d (intsD (wa.drop (runA w wa b l (gs.take i)).k) u)),(6,.ptr 0 2 0 0),(12,.ptr 1 1 0 0),(16,.ptr 2 3 0 0),(17,.sl 4 1 0 b b true),(18,.d (iD (runA w wa b l (gs.take i)).c)),(80,.d (gatesD gs ct)),(81,.d (iD (gs.map Gt.l).length)),(82,.d (iD i))],[(0,some (.arr 2 [[.d (iD 0),.d (.sl [] true)]])),(1,some (.arr 1 [[.d (.fn 130 [] [])]])),(2,some (wkF w 3 (runA w wa b l (gs.take i)).f)),(3,some (dblk 4 ((runA w wa b l (gs.take i)).r.map Ps.l))),(4,some (dblk 1 (nums (runA w wa b l (gs.take i)).bs)))],5⟩) (gs.length) (fun i=>∀ j (h:j<gs.length),j<i->badA w wa b l gs j gs[j]=false) (fun j _ h=>absurd h (Nat.not_lt_zero j)) ?_ qah ?_ ?_
    ·first|refine zav [(0,2),(1,3),(2,4),(3,5),(4,6)] ?_ ?_ ?_ trivial|refine zap [(0,2),(1,3),(2,4),(3,5),(4,6)] rfl rfl ?_ ?_ ?_ trivial
     ·exact qae
     ·repeat' first|exact trivial|refine⟨⟨ltB rfl,_,rfl,by first|rfl|assumption|exact zag rfl (by first|rfl|assumption|exact zag rfl (show some (Blk.ren _ (dblk 4 ((redRows l (2*w)).map Ps.l)))=some (dblk 4 ((redRows l (2*w)).map Ps.l)) from by rw[zbf])|exact zag (l:=nums (List.replicate b 0)) rfl (congrArg some (show Blk.arr 1 (List.replicate b [AV.d (iD 0)])=dblk 1 (nums (List.replicate b 0)) from by unfold dblk nums;simp)))|exact zag rfl (show some (Blk.ren _ (dblk 4 ((redRows l (2*w)).map Ps.l)))=some (dblk 4 ((redRows l (2*w)).map Ps.l)) from by rw[zbf])|exact zag (l:=nums (List.replicate b 0)) rfl (congrArg some (show Blk.arr 1 (List.replicate b [AV.d (iD 0)])=dblk 1 (nums (List.replicate b 0)) from by unfold dblk nums;simp)),by first|exact zae rfl|exact zaa _ _ _|exact zab rfl⟩,?_⟩
     ·exact qaf
    ·intro i A_i h_i I_i N_i
     have e_i:iadd .i64 (i:Int) 1=((i+1:Nat):Int):=zah qbl
     have hI:=zih hA hs i qad I_i
     have hgi:=hgc _ (List.getElem_mem h_i)
     have hkd:=hA.kd _ (List.getElem_mem h_i)
     have hgg:(gs.map Gt.l)[(i:Int).toNat]?=some (gs[i]).l:=zm6 h_i
     have hsn:=zee (w:=w) (wa:=wa) (b:=b) (l:=l) h_i
     have hbd:badA w wa b l gs i gs[i]=(mB gs[i]&&decide (expR w (runA w wa b l (gs.take i)).r (pA w wa (runA w wa b l (gs.take i)) gs[i]) = -1)):=rfl
     have hNx:badA w wa b l gs i gs[i]=false->∀ j (h:j<gs.length),j<i+1->badA w wa b l gs j gs[j]=false:=fun q j h hj=>by
      rcases Nat.lt_or_ge j i with c|c
      ·exact I_i j h c
      ·obtain rfl:j=i:=by omega
       exact q
     have hE6:badA w wa b l gs i gs[i]=true->alE w l w b gs wa=6:=fun q=>al6 hkb hcn hbt h_i q
     have hkl:mB gs[i]=true->(runA w wa b l (gs.take i)).k<wa.length:=fun hm=>by rw[hI.k,hcn];exact cnt_le h_i hm
     have hkn:=ztd gs[i]
     rw[hbd]at hNx hE6
     clear hbd
     generalize runA w wa b l (gs.take i)=s at hI hsn hNx hE6 hkl⊢
     generalize runA w wa b l (gs.take (i+1))=s' at hsn N_i
     generalize gs[i]=g at hgi hkd hgg hsn hNx hE6 hkl hkn
     have hlen:=hI.ok.len
     have hvl:=hI.ok.vl
     cases hm:mB g with
     | false =>
      rw[hm]at hNx hkn
      have hk:kindB g.k=true:=hkd.resolve_left (by simp[hm])
      have hst:=step_off (w:=w) (wa:=wa) (s:=s) hm
      obtain⟨b1,b2,b3,b4⟩:=zgk (zej hgi).2.2.2.2
      obtain⟨k,ws,ug,gb,gi⟩:=g
      have ha:=zn4 (G:=GG) hw (i:=gi) (gchk_bits hk hgi) hk s.r true (zjf hI.ok) hvl
      have hga:appG w ⟨k,ws,ug,gb,0⟩ s.r=appG w ⟨k,ws,ug,gb,gi⟩ s.r:=rfl
      rw[hga,hlen]at ha
      dsimp only at b1
      have hbl:=hI.bl
      have hml:w=(s.r.map Ps.l).length:=by rw[List.length_map,hlen]
      obtain⟨r,bs,c,kk,f⟩:=s
      rw[hst]at hsn
      dsimp only at ha hsn hbl hml⊢
      generalize appG w ⟨k,ws,ug,gb,gi⟩ r=r' at ha hsn
      by_cases hi0:gi=0
      ·subst hi0
       rw[show onB ⟨r,bs,c,kk,f⟩ ⟨k,ws,ug,gb,0⟩=true from rfl,if_pos rfl]at hsn
       subst hsn
       conv=>whnf
       repeat (refine LookP.mk _ rfl ?_;conv=>whnf)
       intro t ht
       cases t
       ·exact qbh
       conv=>whnf
       repeat' first|((first|refine LookP.mk _ (by first|rfl|exact hgg|exact lendA2 rfl hml) ?_|refine ShlP.mk _ qaa ?_|refine And.intro qbi ?_|refine zbk hkn rfl ?_|refine zfh ?_|refine zdl (l:=[3]) (zez rfl rfl (show _=some (dblk 4 (r.map Ps.l)) from rfl)) ?_|refine zor ha ?_|rw[ziw]|refine ShhP.mk _ rfl ?_|refine HpP.force ?_);conv=>whnf)|(intro t ht;cases t<;>conv=>whnf)
       ·refine N_i _ ?_ ?_
        ·exact hNx rfl
        ·exact qg6
       ·cases ht
      ·obtain⟨m,rfl⟩:∃ m:Nat,gi=((m+1:Nat):Int):=⟨(gi-1).toNat,by omega⟩
       have hsb:isub .i64 ((m+1:Nat):Int) 1=((m:Nat):Int):=zkw (b:=1) qad qad
       have hmb:m<bs.length:=qad
       have hgb:=get_is hmb
       have hon:onB ⟨r,bs,c,kk,f⟩ ⟨k,ws,ug,gb,((m+1:Nat):Int)⟩=decide (bs.getD m 0=1):=by
        unfold onB
        rw[decide_eq_false (show ¬((m+1:Nat):Int)=0 by omega),show(((m+1:Nat):Int)-1).toNat=m by omega];rfl
       rw[hon]at hsn
       generalize bs.getD m 0=x at hgb hsn
       conv=>whnf
       repeat (refine LookP.mk _ rfl ?_;conv=>whnf)
       intro t ht
       cases t
       ·exact qbh
       conv=>whnf
       repeat' first|((first|refine LookP.mk _ (by first|rfl|exact hgg|exact hgb|exact lendA2 rfl hml) ?_|refine ShlP.mk _ qaa ?_|refine And.intro qbi ?_|refine zbk hkn rfl ?_|rw[hsb]|refine zdl (l:=[3]) (zez rfl rfl (show _=some (dblk 4 (r.map Ps.l)) from rfl)) ?_|refine zor ha ?_|rw[ziw]|refine ShhP.mk _ rfl ?_|refine HpP.force ?_);conv=>whnf)|(intro t ht;cases t<;>conv=>whnf)
       all_goals first|(exfalso;simp at ht;omega)|(cases ht;done)|skip
       ·rw[decide_eq_false (show ¬ x=1 from fun e=>by subst e;cases ht),if_neg qag]at hsn
        subst hsn
        refine N_i _ ?_ ?_
        ·exact hNx rfl
        ·exact qf3
       ·rw[decide_eq_true (show x=1 from eq_of_beq ht),if_pos rfl]at hsn
        subst hsn
        refine N_i _ ?_ ?_
        ·exact hNx rfl
        ·exact qg6
     | true =>
      rw[hm]at hNx hE6 hkn
      have hkl:=hkl hm
      obtain⟨hws,hn,hi0⟩:=zfo hgi hm
      obtain⟨w1,w2,w3⟩:=zho hA.bit s.k
      have hwg:=drop_get hkl
      rw[<- w3]at hwg
      have hrc:=hI.c
      have hbl:=hI.bl
      have hs1:1<=((wa.drop s.k).map fun k=>[iD k]).length:=qbo
      have hs2:∀ el,el∈((wa.drop s.k).map fun k=>[iD k])->el.length=1:=fun el h=>by
       obtain⟨x,_,rfl⟩:=List.mem_map.1 h;rfl
      rcases meaW hI hgi hm hA.bit (if g.k=13 then 136 else 137) with⟨hx,hc⟩|⟨hx,ch,nm,hch,hnm,hcc,hc⟩
      ·have h6:=hE6 (by rw[hx];rfl)
       have hk:=(of_decide_eq_true hm:g.k=13\/g.k=14)
       clear hE6 hNx hx hI w1 w3 hkd hgi hm hsn N_i hbl
       generalize (wa.getD s.k 0).toNat=o at *
       generalize gA g=n at *
       obtain⟨k,ws,ug,gb,gi⟩:=g
       obtain⟨r,bs,c,kk,f⟩:=s
       dsimp only at hk hws hi0 hc hwg hs1 hs2⊢
       subst hws hi0
       rcases hk with rfl|rfl
       ·rw[if_pos rfl]at hc
        conv=>whnf
        repeat (refine LookP.mk _ rfl ?_;conv=>whnf)
        intro t ht
        cases t
        ·exact qbh
        conv=>whnf
        repeat' first|((first|refine LookP.mk _ qb9 ?_|refine ShlP.mk _ qaa ?_|refine And.intro qbq ?_|refine zbk hkn rfl ?_|refine zfh ?_|refine zi6 (a:=13) (b:=14) rfl ?_|refine HpP.force ?_);conv=>whnf)|(intro t ht;cases t<;>conv=>whnf)
        ·cases ht
        refine znn qah [(16,.ptr 2 3 0 0),(20,.ptr 5 4 0 0),(21,.d (iD o)),(2,.d (intsD (wa.drop (kk+1)) u)),(6,.ptr 0 2 0 0),(12,.ptr 1 1 0 0),(17,.sl 4 1 0 b b true),(18,.d (iD c)),(80,.d (gatesD gs ct)),(81,.d (iD (gs.map Gt.l).length)),(82,.d (iD i))] [(5,.arr 4 [[.d (iD 13),.d (intsD [(n:Int)] ug),.d (iD gb),.d (iD 0)]]),(0,.arr 2 [[.d (iD 0),.d (.sl [] true)]]),(1,.arr 1 [[.d (.fn 130 [] [])]]),(4,dblk 1 (nums bs))] qat List.mem_cons_self (List.mem_cons_of_mem _ List.mem_cons_self) (List.mem_cons_of_mem _ (List.mem_cons_of_mem _ List.mem_cons_self)) List.mem_cons_self qas hc (.inl rfl) qa4 qbb rfl rfl rfl ?_
        conv=>whnf
        repeat' first|((first|refine LookP.mk _ rfl ?_|refine ShlP.mk _ qaa ?_|refine bneF (a:=6) (b:=0) qag ?_|refine HpP.force ?_);conv=>whnf)
        exact fin (zya qag h6)
       ·rw[if_neg (show ¬(14:Int)=13 by decide)]at hc
        conv=>whnf
        repeat (refine LookP.mk _ rfl ?_;conv=>whnf)
        intro t ht
        cases t
        ·exact qbh
        conv=>whnf
        repeat' first|((first|refine LookP.mk _ qb9 ?_|refine ShlP.mk _ qaa ?_|refine And.intro qbq ?_|refine zbk hkn rfl ?_|refine zfh ?_|refine HpP.force ?_);conv=>whnf)|(intro t ht;cases t<;>conv=>whnf)
        ·cases ht
        refine znn qah [(16,.ptr 2 3 0 0),(20,.ptr 5 4 0 0),(21,.d (iD o)),(2,.d (intsD (wa.drop (kk+1)) u)),(6,.ptr 0 2 0 0),(12,.ptr 1 1 0 0),(17,.sl 4 1 0 b b true),(18,.d (iD c)),(80,.d (gatesD gs ct)),(81,.d (iD (gs.map Gt.l).length)),(82,.d (iD i))] [(5,.arr 4 [[.d (iD 14),.d (intsD [(n:Int)] ug),.d (iD gb),.d (iD 0)]]),(0,.arr 2 [[.d (iD 0),.d (.sl [] true)]]),(1,.arr 1 [[.d (.fn 130 [] [])]]),(4,dblk 1 (nums bs))] qat List.mem_cons_self (List.mem_cons_of_mem _ List.mem_cons_self) (List.mem_cons_of_mem _ (List.mem_cons_of_mem _ List.mem_cons_self)) List.mem_cons_self qas hc (.inl rfl) qa4 qbb rfl rfl rfl ?_
        conv=>whnf
        repeat' first|((first|refine LookP.mk _ rfl ?_|refine ShlP.mk _ qaa ?_|refine bneF (a:=6) (b:=0) qag ?_|refine HpP.force ?_);conv=>whnf)
        exact fin (zya qag h6)
      ·have hNx2:=hNx (by rw[decide_eq_false hx];rfl)
       have hia:iadd .i64 (s.c:Int) (ch:Int)=((s.c+ch:Nat):Int):=zah qad
       rw[<- hsn]at hc
       rcases (of_decide_eq_true hm:g.k=13\/g.k=14) with hk|hk
       ·rw[if_pos hk]at hc
        rw[zy6 hk,hcc,<- w3]at hsn
        have hbb:=mB_bit hgi hk
        clear hE6 hNx hx hI w1 hkd hgi hcc hm
        generalize rA w wa s g=R at hsn
        subst hsn
        dsimp only at hc⊢
        generalize (wa.getD s.k 0).toNat=o at *
        generalize gA g=n at *
        obtain⟨k,ws,ug,gb,gi⟩:=g
        obtain⟨r,bs,c,kk,f⟩:=s
        dsimp only at hk hws hi0 hbb hc hwg hia hs1 hs2 hbl⊢
        subst hk hws hi0
        obtain⟨m,rfl⟩:∃ m:Nat,gb=m:=⟨gb.toNat,by omega⟩
        have hmb:m<bs.length:=qad
        have hgb:=get_is hmb
        rcases hnm with rfl|rfl
        ·conv=>whnf
         repeat (refine LookP.mk _ rfl ?_;conv=>whnf)
         intro t ht
         cases t
         ·exact qbh
         conv=>whnf
         repeat' first|((first|refine LookP.mk _ qb9 ?_|refine ShlP.mk _ qaa ?_|refine And.intro qbq ?_|refine zbk hkn rfl ?_|refine zfh ?_|refine zi6 (a:=13) (b:=14) rfl ?_|refine HpP.force ?_);conv=>whnf)|(intro t ht;cases t<;>conv=>whnf)
         ·cases ht
         refine znn qah [(16,.ptr 2 3 0 0),(20,.ptr 5 4 0 0),(21,.d (iD o)),(2,.d (intsD (wa.drop (kk+1)) u)),(6,.ptr 0 2 0 0),(12,.ptr 1 1 0 0),(17,.sl 4 1 0 b b true),(18,.d (iD c)),(80,.d (gatesD gs ct)),(81,.d (iD (gs.map Gt.l).length)),(82,.d (iD i))] [(5,.arr 4 [[.d (iD 13),.d (intsD [(n:Int)] ug),.d (iD m),.d (iD 0)]]),(0,.arr 2 [[.d (iD 0),.d (.sl [] true)]]),(1,.arr 1 [[.d (.fn 130 [] [])]]),(4,dblk 1 (nums bs))] qat List.mem_cons_self (List.mem_cons_of_mem _ List.mem_cons_self) (List.mem_cons_of_mem _ (List.mem_cons_of_mem _ List.mem_cons_self)) List.mem_cons_self qas hc (.inl rfl) qa4 qbb rfl rfl rfl ?_
         conv=>whnf
         repeat' first|((first|refine LookP.mk _ (by first|rfl|exact hgb) ?_|refine ShlP.mk _ (by first|exact set_is (x:=o)|rfl) ?_|refine And.intro qbi ?_|refine bneT ?_|refine zfh ?_|refine HpP.force ?_);conv=>whnf)
         refine N_i _ ?_ ?_
         ·exact hNx2
         ·exact qg7
        ·conv=>whnf
         repeat (refine LookP.mk _ rfl ?_;conv=>whnf)
         intro t ht
         cases t
         ·exact qbh
         conv=>whnf
         repeat' first|((first|refine LookP.mk _ qb9 ?_|refine ShlP.mk _ qaa ?_|refine And.intro qbq ?_|refine zbk hkn rfl ?_|refine zfh ?_|refine zi6 (a:=13) (b:=14) rfl ?_|refine HpP.force ?_);conv=>whnf)|(intro t ht;cases t<;>conv=>whnf)
         ·cases ht
         refine znn qah [(16,.ptr 2 3 0 0),(20,.ptr 5 4 0 0),(21,.d (iD o)),(2,.d (intsD (wa.drop (kk+1)) u)),(6,.ptr 0 2 0 0),(12,.ptr 1 1 0 0),(17,.sl 4 1 0 b b true),(18,.d (iD c)),(80,.d (gatesD gs ct)),(81,.d (iD (gs.map Gt.l).length)),(82,.d (iD i))] [(5,.arr 4 [[.d (iD 13),.d (intsD [(n:Int)] ug),.d (iD m),.d (iD 0)]]),(0,.arr 2 [[.d (iD 0),.d (.sl [] true)]]),(1,.arr 1 [[.d (.fn 130 [] [])]]),(4,dblk 1 (nums bs))] qat List.mem_cons_self (List.mem_cons_of_mem _ List.mem_cons_self) (List.mem_cons_of_mem _ (List.mem_cons_of_mem _ List.mem_cons_self)) List.mem_cons_self qas hc (.inr rfl) qa4 qbb rfl rfl rfl ?_
         conv=>whnf
         repeat' first|((first|refine LookP.mk _ (by first|rfl|exact hgb) ?_|refine ShlP.mk _ (by first|exact set_is (x:=o)|rfl) ?_|refine And.intro qbi ?_|refine bneT ?_|refine zfh ?_|refine HpP.force ?_);conv=>whnf)
         refine N_i _ ?_ ?_
         ·exact hNx2
         ·exact qg5
       ·rw[if_neg (show ¬ g.k=13 by rw[hk];decide)]at hc
        rw[zy5 hk,hcc]at hsn
        clear hE6 hNx hx hI w1 hkd hgi hcc hm
        generalize (if(wa.getD s.k 0).toNat=1 then appG w (xG (gA g)) (rA w wa s g) else rA w wa s g)=R at hsn
        subst hsn
        dsimp only at hc⊢
        generalize (wa.getD s.k 0).toNat=o at *
        generalize gA g=n at *
        obtain⟨k,ws,ug,gb,gi⟩:=g
        obtain⟨r,bs,c,kk,f⟩:=s
        dsimp only at hk hws hi0 hc hwg hia hs1 hs2 hbl⊢
        subst hk hws hi0
        rcases hnm with rfl|rfl
        ·conv=>whnf
         repeat (refine LookP.mk _ rfl ?_;conv=>whnf)
         intro t ht
         cases t
         ·exact qbh
         conv=>whnf
         repeat' first|((first|refine LookP.mk _ qb9 ?_|refine ShlP.mk _ qaa ?_|refine And.intro qbq ?_|refine zbk hkn rfl ?_|refine zfh ?_|refine HpP.force ?_);conv=>whnf)|(intro t ht;cases t<;>conv=>whnf)
         ·cases ht
         refine znn qah [(16,.ptr 2 3 0 0),(20,.ptr 5 4 0 0),(21,.d (iD o)),(2,.d (intsD (wa.drop (kk+1)) u)),(6,.ptr 0 2 0 0),(12,.ptr 1 1 0 0),(17,.sl 4 1 0 b b true),(18,.d (iD c)),(80,.d (gatesD gs ct)),(81,.d (iD (gs.map Gt.l).length)),(82,.d (iD i))] [(5,.arr 4 [[.d (iD 14),.d (intsD [(n:Int)] ug),.d (iD gb),.d (iD 0)]]),(0,.arr 2 [[.d (iD 0),.d (.sl [] true)]]),(1,.arr 1 [[.d (.fn 130 [] [])]]),(4,dblk 1 (nums bs))] qat List.mem_cons_self (List.mem_cons_of_mem _ List.mem_cons_self) (List.mem_cons_of_mem _ (List.mem_cons_of_mem _ List.mem_cons_self)) List.mem_cons_self qas hc (.inl rfl) qa4 qbb rfl rfl rfl ?_
         conv=>whnf
         repeat' first|((first|refine LookP.mk _ rfl ?_|refine bneT ?_|refine zi6 (a:=14) (b:=13) rfl ?_);conv=>whnf)
         refine N_i _ ?_ ?_
         ·exact hNx2
         ·exact qg7
        ·conv=>whnf
         repeat (refine LookP.mk _ rfl ?_;conv=>whnf)
         intro t ht
         cases t
         ·exact qbh
         conv=>whnf
         repeat' first|((first|refine LookP.mk _ qb9 ?_|refine ShlP.mk _ qaa ?_|refine And.intro qbq ?_|refine zbk hkn rfl ?_|refine zfh ?_|refine HpP.force ?_);conv=>whnf)|(intro t ht;cases t<;>conv=>whnf)
         ·cases ht
         refine znn qah [(16,.ptr 2 3 0 0),(20,.ptr 5 4 0 0),(21,.d (iD o)),(2,.d (intsD (wa.drop (kk+1)) u)),(6,.ptr 0 2 0 0),(12,.ptr 1 1 0 0),(17,.sl 4 1 0 b b true),(18,.d (iD c)),(80,.d (gatesD gs ct)),(81,.d (iD (gs.map Gt.l).length)),(82,.d (iD i))] [(5,.arr 4 [[.d (iD 14),.d (intsD [(n:Int)] ug),.d (iD gb),.d (iD 0)]]),(0,.arr 2 [[.d (iD 0),.d (.sl [] true)]]),(1,.arr 1 [[.d (.fn 130 [] [])]]),(4,dblk 1 (nums bs))] qat List.mem_cons_self (List.mem_cons_of_mem _ List.mem_cons_self) (List.mem_cons_of_mem _ (List.mem_cons_of_mem _ List.mem_cons_self)) List.mem_cons_self qas hc (.inr rfl) qa4 qbb rfl rfl rfl ?_
         conv=>whnf
         repeat' first|((first|refine LookP.mk _ rfl ?_|refine bneT ?_|refine zi6 (a:=14) (b:=13) rfl ?_);conv=>whnf)
         refine N_i _ ?_ ?_
         ·exact hNx2
         ·exact qg5
    ·intro A_last3 I_last3
     have hE0:=al0 hkb hcn hbt I_last3
     rw[List.take_length]
     conv=>whnf
     repeat (refine LookP.mk _ rfl ?_;conv=>whnf)
     intro t ht
     cases t
     rotate_left
     ·exact qbh
     conv=>whnf
     repeat' first|((first|refine LookP.mk _ rfl ?_|refine ShlP.mk _ qaa ?_|refine HpP.force ?_);conv=>whnf)
     exact fin (.inl ⟨hE0,rfl,rfl,rfl⟩)
   ·exact fin (zya qag (al2 (by assumption) (by simp at ht;omega)))
  ·repeat' first|((first|refine LookP.mk _ rfl ?_|refine ShlP.mk _ qaa ?_|refine bneF hcww ?_|refine HpP.force ?_);conv=>whnf)
   exact fin (zya qag (al7 (.inl hcww)))
end Go.Tz
namespace Go.Tz
open Go Go.AL Go.Proofs Go.Ma
abbrev own4(w b:Nat)(c:Int):AV:=.tup [.agg [.d (iD w),.sl 0 4 0 w w true],.sl 1 1 0 b b true,.d (iD c),.d (iD 0)]
theorem along58{w b:Nat}{l:List Ps}(hs:SOk w l)(cw:Int)(gs:List Gt)(wa:List Int)(ct t u:Bool)(hC:cchk cw b gs=0)(hws:∀ g,g∈gs->g.ws.length<=1000)(hwn:wa.length<=1000)(h:alE w l cw b gs wa=0) :
  PO Pr GG 58 [circD cw b gs ct,stD w l t,intsD wa u] (own4 w b (runA w wa b l gs).c) [(0,some (dblk 4 ((runA w wa b l gs).r.map Ps.l))),(1,some (dblk 1 (nums (runA w wa b l gs).bs)))] 2:=by
 refine⟨za3 Tryz.func58 chk58,zaz (zws hs cw gs wa ct t u hC hws hwn) ?_⟩
 rintro v H n (⟨_,rfl,h3,h4⟩|⟨q,_⟩)
 ·refine⟨_,_,2,?_,rfl,rfl,rfl⟩
  first|refine zav [(0,3),(1,4)] ?_ ?_ ?_ trivial|refine zap [(0,3),(1,4)] rfl rfl ?_ ?_ ?_ trivial
  ·exact qae
  ·repeat' first|exact trivial|refine⟨⟨ltB rfl,_,rfl,by first|rfl|assumption|exact zag rfl (by first|rfl|assumption|exact zag rfl h3|exact zag rfl h4)|exact zag rfl h3|exact zag rfl h4,by first|exact zae rfl|exact zaa _ _ _|exact zab rfl⟩,?_⟩
  ·exact qaf
 ·exact absurd h q
theorem along58e{w b:Nat}{l:List Ps}(hs:SOk w l)(cw:Int)(gs:List Gt)(wa:List Int)(ct t u:Bool)(hC:cchk cw b gs=0)(hws:∀ g,g∈gs->g.ws.length<=1000)(hwn:wa.length<=1000)(h:alE w l cw b gs wa≠0) :
  PC Pr GG 58 [circD cw b gs ct,stD w l t,intsD wa u] (alX (alE w l cw b gs wa)):=by
 refine zck (za3 Tryz.func58 chk58) (zbc (zws hs cw gs wa ct t u hC hws hwn) ?_)
 rintro v H n (⟨q,_⟩|⟨_,rfl⟩)
 ·exact absurd q h
 ·exact .d _
end Go.Tz
namespace Go.Tz
open Go Go.AL Go.Proofs Go.Ma
def xv(v:Nat):Nat:=v%4096
def phE(e:E)(b:Nat):Nat:=(e.1+2*(bt e.2 b).toNat)%4
theorem znr{u v:Nat}:∀ k,(∀ i,i<k->u.testBit i=v.testBit i)->parF k u=parF k v
 | 0,_=>rfl
 | k+1,h=>by
  simp only[parF]
  rw[znr k fun i hi=>h i qad,h k qad]
theorem bt_xv(a b:Nat):bt a (xv b)=bt a b:=by
 unfold bt
 refine znr 12 fun i hi=>?_
 rw[Nat.testBit_and,Nat.testBit_and,xv,show 4096=2^12 from rfl,Nat.testBit_mod_two_pow]
 simp[hi]
theorem zcw(a b:Nat):xv (a^^^b)=xv a^^^xv b:=by
 unfold xv
 rw[show 4096=2^12 from rfl,Nat.xor_mod_two_pow]
theorem phE_lt(e:E)(b:Nat):phE e b<4:=Nat.mod_lt _ qag
theorem zly(e f:E)(b:Nat):phE (emul e f) b=(phE f b+phE e (b^^^xv f.2))%4:=by
 unfold phE emul
 simp only[zbq,zbp,bt_xv]
 cases bt e.2 f.2<;>cases bt e.2 b<;>cases bt f.2 b<;>simp<;>omega
theorem phE_one(b:Nat):phE e1 b=0:=by simp[phE,e1,zt4]
def Sup(L:List E)(k:Nat):Prop:=∀ g,Gen L g->xv g.2=0->phE g k=0
theorem sup_move{L:List E}(hL:Good L){k:Nat}(h:Sup L k){g:E}(hg:Gen L g):Sup L (k^^^xv g.2):=by
 intro f hf hx
 have a1:=zly f g k
 have a2:=zly g f k
 rw[h f hf hx,hx,Nat.xor_zero]at a2
 rw[zcc (zkz hL hf hg),a2]at a1
 have h4:=phE_lt g k
 have h5:=phE_lt f (k^^^xv g.2)
 omega
theorem gen_spx{L:List E}{g:E}(h:Gen L g):spB (L.map fun a=>xv a.2) (xv g.2)=true:=by
 induction h with
 | one=>exact zhq _
 | mul a f ha _ ih =>
  show spB _ (xv (a.2^^^f.2))=true
  rw[zcw]
  exact zdb _ _ _ (zb3 _ _ (List.mem_map.2 ⟨a,ha,rfl⟩)) ih
theorem zsr{L:List E}{v:Nat}:∀(M:List E),(∀ a,a∈M->a∈L)->spB (M.map fun a=>xv a.2) v=true->∃ g,Gen L g/\xv g.2=v
 | [],_,h=>⟨e1,.one,by simp only[List.map_nil,spB,beq_iff_eq]at h;rw[h];rfl⟩
 | a::M,hm,h=>by
  simp only[List.map_cons,spB,Bool.or_eq_true]at h
  rcases h with h|h
  ·exact zsr M (fun b hb=>hm b (List.mem_cons_of_mem _ hb)) h
  ·obtain⟨g,h1,h2⟩:=zsr (v:=v^^^xv a.2) M (fun b hb=>hm b (List.mem_cons_of_mem _ hb)) h
   refine⟨emul a g,.mul a g (hm a qc3) h1,?_⟩
   show xv (a.2^^^g.2)=v
   rw[zcw,h2,Nat.xor_comm v,<- Nat.xor_assoc,Nat.xor_self,Nat.zero_xor]
structure Amp (L:List E) (w lst m:Nat) (val:Nat->Option Nat):Prop where
 sup:Sup L lst
 lt:lst<2^w
 min:∀ k,k<2^w->Sup L k->lst<=k
 has:∀ b p,b<2^w->val b=some p->∃ g,Gen L g/\lst^^^xv g.2=b/\phE g lst=p
 no:∀ b,b<2^w->val b=none->∀ g,Gen L g->lst^^^xv g.2≠b
 rank:∃ A:List Nat,(∀ a,a∈A->a<2^12)/\Ind A/\A.length=m /\ ∀ v,spB A v=true ↔ ∃ g,Gen L g/\xv g.2=v
end Go.Tz
namespace Go.Tz
open Go Go.AL Go.Proofs Go.Ma
abbrev xB(q:Ps)(n:Nat):Bool:=q.x.toNat.testBit n
theorem zk8{w:Nat}(hw:w<=12){q:Ps}(h:Vl w q):xv (nf q).2=q.x.toNat/\q.x.toNat<2^w/\q.x=(q.x.toNat:Int):=by
 obtain⟨X,Z,P,rfl,h1,_,_⟩:=h
 have h2:X<4096:=Nat.lt_of_lt_of_le h1 (Nat.pow_le_pow_right qag hw)
 rw[zcq]
 refine⟨?_,?_,?_⟩
 ·show(X+4096*Z)%4096=(X:Int).toNat
  rw[Int.toNat_natCast];omega
 ·show(X:Int).toNat<_
  rwa [Int.toNat_natCast]
 ·show(X:Int)=((X:Int).toNat:Int)
  rw[Int.toNat_natCast]
theorem x_mul{w:Nat}(hw:w<=12){q r:Ps}(hq:Vl w q)(hr:Vl w r):(mulS q r).x.toNat=q.x.toNat^^^r.x.toNat:=by
 rw[<- (zk8 hw (zes hw hq hr)).1,<- (zk8 hw hq).1,<- (zk8 hw hr).1,zd1 hw hq hr,<- zcw];rfl
def clrX(f:Ps)(n:Nat)(q:Ps):Ps:=if xB q n=true then mulS q f else q
theorem clrX_vl{w n:Nat}(hw:w<=12){f q:Ps}(hf:Vl w f)(hq:Vl w q):Vl w (clrX f n q):=by
 unfold clrX
 split
 ·exact zes hw hq hf
 ·exact hq
theorem zg6{w n m:Nat}(hw:w<=12){f q:Ps}(hf:Vl w f)(hq:Vl w q):xB (clrX f n q) m=(xB q m != (xB q n&&xB f m)):=by
 unfold clrX
 split
 ·rename_i h
  unfold xB at h⊢
  rw[x_mul hw hq hf,Nat.testBit_xor,h];simp
 ·rename_i h
  have h:xB q n=false:=qa6
  rw[h];simp
theorem zx2{w:Nat}(hw:w<=12){M M':List Ps}{f:Ps}(hv:∀ q,q∈M->Vl w q)(hG:Good (M.map nf))(hf:f∈M)(hf':f∈M')(h1:∀ q,q∈M'->q∈M \/ ∃ r,r∈M/\q=mulS r f)(h2:∀ q,q∈M->q∈M'\/mulS q f∈M'):SameG (M.map nf) (M'.map nf)/\Good (M'.map nf):=by
 have g:∀ q,q∈M->Gen (M.map nf) (nf q):=fun q hq=>zbd hG (List.mem_map.2 ⟨q,hq,rfl⟩)
 have a1:∀ a,a∈M'.map nf->Gen (M.map nf) a:=fun a ha=>by
  obtain⟨q,hq,rfl⟩:=List.mem_map.1 ha
  rcases h1 q hq with h|⟨r,hr,rfl⟩
  ·exact g q h
  ·rw[zd1 hw (hv r hr) (hv f hf)];exact zbu hG (g r hr) (g f hf)
 have hG':Good (M'.map nf):=zpa hG a1
 have g':∀ q,q∈M'->Gen (M'.map nf) (nf q):=fun q hq=>zbd hG' (List.mem_map.2 ⟨q,hq,rfl⟩)
 refine⟨zuu hG a1 fun a ha=>?_,hG'⟩
 obtain⟨q,hq,rfl⟩:=List.mem_map.1 ha
 rcases h2 q hq with h|h
 ·exact g' q h
 ·have h3:=zbu hG' (g' _ h) (g' f hf')
  rw[zd1 hw (hv q hq) (hv f hf),zbh,zcm (zcl hG (g f hf)),zg4 _ (nf_lt _)]at h3
  exact h3
structure Pt (w n:Nat) (L:List E) (A:List (Nat×Ps)) (B:List Ps):Prop where
 vl:∀ q,q∈A.map (·.2)++B->Vl w q
 good:Good ((A.map (·.2)++B).map nf)
 same:SameG L ((A.map (·.2)++B).map nf)
 lt:∀ a,a∈A->a.1<n
 bit:∀ a,a∈A->xB a.2 a.1=true
 piv:A.Pairwise fun a b=>xB b.2 a.1=false/\xB a.2 b.1=false
 rest:∀ b,b∈B->∀ m,m<n->xB b m=false
theorem ptq_skip{w n:Nat}{L:List E}{A:List (Nat×Ps)}{B:List Ps}(h:Pt w n L A B)(hz:∀ b,b∈B->xB b n=false):Pt w (n+1) L A B :=
 ⟨h.vl,h.good,h.same,fun a ha=>Nat.lt_succ_of_lt (h.lt a ha),h.bit,h.piv,fun b hb m hm=>by
  rcases Nat.lt_succ_iff_lt_or_eq.1 hm with q|q
  ·exact h.rest b hb m q
  ·rw[q];exact hz b hb⟩
theorem ptq_step{w n:Nat}(hw:w<=12){L:List E}{A:List (Nat×Ps)}{B B':List Ps}{f:Ps}(h:Pt w n L A B)(hf:f∈B)(hb:xB f n=true)(h1:∀ q,q∈B'->∃ r,r∈B/\q=clrX f n r)(h2:∀ r,r∈B->r=f\/clrX f n r∈B')(h3:∀ q,q∈B'->xB q n=false) :
  Pt w (n+1) L (A.map (fun a=>(a.1,clrX f n a.2))++[(n,f)]) B':=by
 have hA:∀ a,a∈A->Vl w a.2:=fun a ha=>h.vl _ (List.mem_append.2 (.inl (List.mem_map.2 ⟨a,ha,rfl⟩)))
 have hB:∀ b,b∈B->Vl w b:=fun b hb=>h.vl _ (List.mem_append.2 (.inr hb))
 have hfv:=hB f hf
 have mA:∀ a,a∈A->a.2∈A.map (·.2)++B:=fun a ha=>List.mem_append.2 (.inl (List.mem_map.2 ⟨a,ha,rfl⟩))
 have hmem:∀ q,q∈(A.map (fun a=>(a.1,clrX f n a.2))++[(n,f)]).map (·.2)++B' ↔ (∃ a,a∈A/\q=clrX f n a.2)\/q=f\/q∈B':=by
  intro q
  simp only[List.mem_append,List.mem_map,List.mem_singleton]
  constructor
  ·rintro(⟨p,(⟨a,ha,rfl⟩|rfl),rfl⟩|hq)
   ·exact .inl ⟨a,ha,rfl⟩
   ·exact .inr (.inl rfl)
   ·exact .inr (.inr hq)
  ·rintro(⟨a,ha,rfl⟩|rfl|hq)
   ·exact .inl ⟨_,.inl ⟨a,ha,rfl⟩,rfl⟩
   ·exact .inl ⟨_,.inr rfl,rfl⟩
   ·exact .inr hq
 have hcl:∀ r,r∈A.map (·.2)++B->clrX f n r∈A.map (·.2)++B \/ ∃ q,q∈A.map (·.2)++B/\clrX f n r=mulS q f:=fun r hr=>by
  unfold clrX
  split
  ·exact .inr ⟨r,hr,rfl⟩
  ·exact .inl hr
 have hcs:=zx2 (M':=(A.map (fun a=>(a.1,clrX f n a.2))++[(n,f)]).map (·.2)++B') (f:=f) hw h.vl h.good (List.mem_append.2 (.inr hf)) ((hmem f).2 (.inr (.inl rfl)))
  (fun q hq=>by
   rcases (hmem q).1 hq with⟨a,ha,rfl⟩|rfl|hq
   ·exact hcl _ (mA a ha)
   ·exact .inl (List.mem_append.2 (.inr hf))
   ·obtain⟨r,hr,rfl⟩:=h1 q hq
    exact hcl r (List.mem_append.2 (.inr hr)))
  (fun q hq=>by
   have hin:q=f\/clrX f n q∈(A.map (fun a=>(a.1,clrX f n a.2))++[(n,f)]).map (·.2)++B':=by
    rcases List.mem_append.1 hq with hq|hq
    ·obtain⟨a,ha,rfl⟩:=List.mem_map.1 hq
     exact .inr ((hmem _).2 (.inl ⟨a,ha,rfl⟩))
    ·rcases h2 q hq with e|e
     ·exact .inl e
     ·exact .inr ((hmem _).2 (.inr (.inr e)))
   rcases hin with rfl|hin
   ·exact .inl ((hmem _).2 (.inr (.inl rfl)))
   ·unfold clrX at hin
    split at hin
    ·exact .inr hin
    ·exact .inl hin)
 refine⟨fun q hq=>?_,hcs.2,fun g=>(h.same g).trans (hcs.1 g),fun a ha=>?_,fun a ha=>?_,?_,fun b hb m hm=>?_⟩
 ·rcases (hmem q).1 hq with⟨a,ha,rfl⟩|rfl|hq
  ·exact clrX_vl hw hfv (hA a ha)
  ·exact hfv
  ·obtain⟨r,hr,rfl⟩:=h1 q hq
   exact clrX_vl hw hfv (hB r hr)
 ·rcases List.mem_append.1 ha with ha|ha
  ·obtain⟨b,hb,rfl⟩:=List.mem_map.1 ha
   exact Nat.lt_succ_of_lt (h.lt b hb)
  ·rw[List.mem_singleton.1 ha];exact Nat.lt_succ_self n
 ·rcases List.mem_append.1 ha with ha|ha
  ·obtain⟨b,hb',rfl⟩:=List.mem_map.1 ha
   show xB (clrX f n b.2) b.1=true
   rw[zg6 hw hfv (hA b hb'),h.bit b hb',h.rest f hf b.1 (h.lt b hb')];simp
  ·rw[List.mem_singleton.1 ha];exact hb
 ·refine List.pairwise_append.2 ⟨?_,List.pairwise_singleton _ _,fun a ha b hb'=>?_⟩
  ·refine List.pairwise_map.2 ?_
   refine(List.Pairwise.imp_of_mem (fun{a b} ha hb' hab=>?_) h.piv)
   refine⟨?_,?_⟩
   ·show xB (clrX f n b.2) a.1=false
    rw[zg6 hw hfv (hA b hb'),hab.1,h.rest f hf a.1 (h.lt a ha)];simp
   ·show xB (clrX f n a.2) b.1=false
    rw[zg6 hw hfv (hA a ha),hab.2,h.rest f hf b.1 (h.lt b hb')];simp
  ·obtain⟨c,hc,rfl⟩:=List.mem_map.1 ha
   rw[List.mem_singleton.1 hb']
   refine⟨h.rest f hf c.1 (h.lt c hc),?_⟩
   show xB (clrX f n c.2) n=false
   rw[zg6 hw hfv (hA c hc),hb]
   cases xB c.2 n<;>rfl
 ·rcases Nat.lt_succ_iff_lt_or_eq.1 hm with q|q
  ·obtain⟨r,hr,rfl⟩:=h1 b hb
   rw[zg6 hw hfv (hB r hr),h.rest r hr m q,h.rest f hf m q];simp
  ·rw[q];exact h3 b hb
theorem ptq_ind:∀{A:List (Nat×Ps)},(∀ a,a∈A->xB a.2 a.1=true)->A.Pairwise (fun a b=>xB b.2 a.1=false/\xB a.2 b.1=false)->Ind (A.map fun a=>a.2.x.toNat)
 | [],_,_=>rfl
 | a::A,hb,hp=>by
  obtain⟨h1,h2⟩:=List.pairwise_cons.1 hp
  rw[List.map_cons,ind_cons]
  refine⟨ptq_ind (fun b hb'=>hb b (List.mem_cons_of_mem _ hb')) h2,?_⟩
  cases e:spB (A.map fun a=>a.2.x.toNat) a.2.x.toNat with
  | false=>rfl
  | true =>
   have h4:=zeo (j:=a.1) (A.map fun a=>a.2.x.toNat) (fun v hv=>by
    obtain⟨b,hb',rfl⟩:=List.mem_map.1 hv
    exact(h1 b hb').1) _ e
   have h5:a.2.x.toNat.testBit a.1=true:=hb a qc3
   rw[h5]at h4;cases h4
structure PtE (w:Nat) (L:List E) (A:List (Nat×Ps)) (B:List Ps):Prop where
 pt:Pt w w L A B
 zero:∀ b,b∈B->b.x.toNat=0
 xs:((A.map (·.2)).map nf).map (fun a=>xv a.2)=A.map fun a=>a.2.x.toNat
 ind:Ind (A.map fun a=>a.2.x.toNat)
theorem ptq_end{w:Nat}(hw:w<=12){L:List E}{A:List (Nat×Ps)}{B:List Ps}(h:Pt w w L A B):PtE w L A B:=by
 refine⟨h,fun b hb=>?_,?_,ptq_ind h.bit h.piv⟩
 ·obtain⟨_,h2,_⟩:=zk8 hw (h.vl b (List.mem_append.2 (.inr hb)))
  refine Nat.eq_of_testBit_eq fun m=>?_
  rw[Nat.zero_testBit]
  rcases Nat.lt_or_ge m w with q|q
  ·exact h.rest b hb m q
  ·exact Nat.testBit_lt_two_pow (Nat.lt_of_lt_of_le h2 (Nat.pow_le_pow_right qag q))
 ·rw[List.map_map,List.map_map]
  refine List.map_congr_left fun a ha=>?_
  exact(zk8 hw (h.vl a.2 (List.mem_append.2 (.inl (List.mem_map.2 ⟨a,ha,rfl⟩))))).1
theorem zu4{w:Nat}(hw:w<=12){L:List E}{A:List (Nat×Ps)}{B:List Ps}(h:PtE w L A B)(v:Nat):spB (A.map fun a=>a.2.x.toNat) v=true ↔ ∃ g,Gen L g/\xv g.2=v:=by
 rw[<- h.xs]
 constructor
 ·intro hv
  obtain⟨g,g1,g2⟩:=zsr (L:=(A.map (·.2)++B).map nf) ((A.map (·.2)).map nf) (fun a ha=>by rw[List.map_append];exact List.mem_append.2 (.inl ha)) hv
  exact⟨g,(h.pt.same g).2 g1,g2⟩
 ·rintro⟨g,g1,rfl⟩
  have h1:=gen_spx ((h.pt.same g).1 g1)
  refine zlk _ _ (fun v hv=>?_) _ h1
  obtain⟨a,ha,rfl⟩:=List.mem_map.1 hv
  rw[List.map_append]at ha
  rcases List.mem_append.1 ha with ha|ha
  ·exact zb3 _ _ (List.mem_map.2 ⟨a,ha,rfl⟩)
  ·obtain⟨q,hq,rfl⟩:=List.mem_map.1 ha
   rw[(zk8 hw (h.pt.vl q (List.mem_append.2 (.inr hq)))).1,h.zero q hq];exact zhq _
end Go.Tz
namespace Go.Tz
open Go Go.AL Go.Proofs Go.Ma
theorem zr9(a b:Nat):a^^^(a^^^b)=b:=qe9
def wyS(s:Ps×Nat)(a:Nat×Ps):Ps×Nat:=if s.2.testBit a.1=true then(mulS s.1 a.2,s.2^^^a.2.x.toNat) else s
def wyF(w:Nat)(A:List (Nat×Ps))(u:Nat):Ps×Nat:=A.foldl wyS (⟨w,0,0,0⟩,u)
structure Wy (w:Nat) (L:List E) (u:Nat) (A1:List (Nat×Ps)) (s:Ps×Nat):Prop where
 vl:Vl w s.1
 gen:Gen L (nf s.1)
 x:s.2=u^^^s.1.x.toNat
 z:∀ a,a∈A1->s.2.testBit a.1=false
theorem wy_run{w:Nat}(hw:w<=12){L:List E}(hL:Good L){u:Nat}:∀(A2 A1:List (Nat×Ps)) (s:Ps×Nat),(∀ a,a∈A2->Vl w a.2/\Gen L (nf a.2)/\xB a.2 a.1=true)->(A1++A2).Pairwise (fun a b=>xB b.2 a.1=false/\xB a.2 b.1=false)->Wy w L u A1 s->Wy w L u (A1++A2) (A2.foldl wyS s)
 | [],A1,s,_,_,h=>by rw[List.append_nil];exact h
 | a::A2,A1,s,hA,hp,h=>by
  obtain⟨a1,a2,a3⟩:=hA a qc3
  have e:A1++a::A2=(A1++[a])++A2:=qc3
  rw[e]at hp⊢
  rw[List.foldl_cons]
  refine wy_run hw hL A2 (A1++[a]) _ (fun b hb=>hA b (List.mem_cons_of_mem _ hb)) hp ?_
  have hp1:=(List.pairwise_append.1 (List.pairwise_append.1 hp).1).2.2
  unfold wyS
  split
  ·rename_i hb
   refine⟨zes hw h.vl a1,?_,?_,fun b hb'=>?_⟩
   ·show Gen L (nf (mulS s.1 a.2))
    rw[zd1 hw h.vl a1];exact zbu hL h.gen a2
   ·show s.2^^^a.2.x.toNat=u^^^(mulS s.1 a.2).x.toNat
    rw[x_mul hw h.vl a1,h.x,Nat.xor_assoc]
   ·show(s.2^^^a.2.x.toNat).testBit b.1=false
    rw[Nat.testBit_xor]
    rcases List.mem_append.1 hb' with q|q
    ·have h1:a.2.x.toNat.testBit b.1=false:=(hp1 b q a qc3).1
     rw[h.z b q,h1];rfl
    ·rw[List.mem_singleton.1 q,hb]
     have h1:a.2.x.toNat.testBit a.1=true:=a3
     rw[h1];rfl
  ·rename_i hb
   refine⟨h.vl,h.gen,h.x,fun b hb'=>?_⟩
   rcases List.mem_append.1 hb' with q|q
   ·exact h.z b q
   ·rw[List.mem_singleton.1 q];simpa using hb
theorem zup:∀{A:List (Nat×Ps)} {v:Nat},(∀ a,a∈A->xB a.2 a.1=true)->A.Pairwise (fun a b=>xB b.2 a.1=false/\xB a.2 b.1=false)->spB (A.map fun a=>a.2.x.toNat) v=true->(∀ a,a∈A->v.testBit a.1=false)->v=0
 | [],v,_,_,h,_=>by simpa only[List.map_nil,spB,beq_iff_eq] using h
 | a::A,v,hb,hp,h,hz=>by
  obtain⟨h1,h2⟩:=List.pairwise_cons.1 hp
  simp only[List.map_cons,spB,Bool.or_eq_true]at h
  rcases h with h|h
  ·exact zup (fun b hb'=>hb b (List.mem_cons_of_mem _ hb')) h2 h fun b hb'=>hz b (List.mem_cons_of_mem _ hb')
  ·exfalso
   have h4:=zeo (j:=a.1) (A.map fun a=>a.2.x.toNat) (fun v hv=>by
    obtain⟨b,hb',rfl⟩:=List.mem_map.1 hv
    exact(h1 b hb').1) _ h
   have h5:a.2.x.toNat.testBit a.1=true:=hb a qc3
   rw[Nat.testBit_xor,hz a qc3,h5]at h4
   cases h4
def valW(w:Nat)(A:List (Nat×Ps))(lst b:Nat):Option Nat:=if(wyF w A (lst^^^b)).2=0 then some (phE (nf (wyF w A (lst^^^b)).1) lst) else none
theorem way_ok{w:Nat}(hw:w<=12){L:List E}(hL:Good L){A:List (Nat×Ps)}{B:List Ps}(h:PtE w L A B)(u:Nat):Wy w L u A (wyF w A u):=by
 have mA:∀ a,a∈A->a.2∈A.map (·.2)++B:=fun a ha=>List.mem_append.2 (.inl (List.mem_map.2 ⟨a,ha,rfl⟩))
 have:=wy_run (u:=u) hw hL A [] (⟨w,0,0,0⟩,u) (fun a ha=>⟨h.pt.vl _ (mA a ha),(h.pt.same _).2 (zbd h.pt.good (List.mem_map.2 ⟨_,mA a ha,rfl⟩)),h.pt.bit a ha⟩) (by rw[List.nil_append];exact h.pt.piv)
  ⟨zuh w,by rw[nf_one];exact .one,by show u=u^^^(0:Int).toNat;simp,fun a ha=>by cases ha⟩
 rw[List.nil_append]at this
 exact this
theorem amp_way{w:Nat}(hw:w<=12){L:List E}(hL:Good L){A:List (Nat×Ps)}{B:List Ps}(h:PtE w L A B){lst:Nat}(h1:Sup L lst)(h2:lst<2^w)(h3:∀ k,k<2^w->Sup L k->lst<=k):Amp L w lst A.length (valW w A lst):=by
 refine⟨h1,h2,h3,fun b p hb e=>?_,fun b hb e g hg hx=>?_,⟨A.map fun a=>a.2.x.toNat,fun v hv=>?_,h.ind,by rw[List.length_map],zu4 hw h⟩⟩
 ·have hy:=way_ok hw hL h (lst^^^b)
  unfold valW at e
  split at e
  ·rename_i h0
   refine⟨nf (wyF w A (lst^^^b)).1,hy.gen,?_,Option.some.inj e⟩
   rw[(zk8 hw hy.vl).1]
   have h4:=hy.x
   rw[h0]at h4
   have h5:=congrArg (fun n=>lst^^^b^^^n) h4
   simp only[zr9,Nat.xor_zero]at h5
   rw[<- h5,zr9]
  ·cases e
 ·have hy:=way_ok hw hL h (lst^^^b)
  unfold valW at e
  split at e
  ·cases e
  ·rename_i h0
   apply h0
   refine zup h.pt.bit h.pt.piv ?_ hy.z
   rw[hy.x,zu4 hw h]
   refine⟨emul g (nf (wyF w A (lst^^^b)).1),zbu hL hg hy.gen,?_⟩
   show xv (g.2^^^_)=_
   rw[zcw,(zk8 hw hy.vl).1,<- hx,zr9]
 ·obtain⟨a,ha,rfl⟩:=List.mem_map.1 hv
  exact Nat.lt_of_lt_of_le (zk8 hw (h.pt.vl a.2 (List.mem_append.2 (.inl (List.mem_map.2 ⟨a,ha,rfl⟩))))).2.1 (Nat.pow_le_pow_right qag hw)
end Go.Tz
namespace Go.Tz
open Go Go.AL Go.Proofs Go.Ma
theorem zoh{L M:List E}(h:SameG L M)(k:Nat):Sup L k ↔ Sup M k:=⟨fun q g hg=>q g ((h g).2 hg),fun q g hg=>q g ((h g).1 hg)⟩
theorem nf_zP(w n o:Nat)(ho:o<=1):nf (zP w n o)=(2*o,2^(12+n)):=by
 unfold zP
 rw[zcq,Nat.zero_and,zkq,Nat.zero_add,Nat.pow_add]
 refine Prod.ext ?_ rfl
 show(2*o+0)%4=2*o
 omega
theorem zwz(w n o:Nat)(ho:o<=1):xv (nf (zP w n o)).2=0:=by
 rw[nf_zP w n o ho]
 show 2^(12+n)%4096=0
 rw[Nat.pow_add]
 exact Nat.mul_mod_right _ _
theorem zP_ph{w n o:Nat}(hn:n<12)(ho:o<=1)(k:Nat):phE (nf (zP w n o)) k=0 ↔ (k.testBit n).toNat=o:=by
 rw[nf_zP w n o ho]
 unfold phE
 dsimp only
 rw[zft hn]
 cases k.testBit n<;>simp<;>omega
theorem zP_neg(w n:Nat):eneg (nf (zP w n 0))=nf (zP w n 1):=by
 rw[nf_zP w n 0 qag,nf_zP w n 1 qag];rfl
theorem com_z{p g:E}(h1:xv p.2=0)(h2:xv g.2=0):ecom p g:=by
 unfold ecom
 rw[<- bt_xv,h2,zru,<- bt_xv,h1,zru]
theorem sup_meas{L:List E}(hL:Good L){p:E}(hp:xv p.2=0)(hok:eok p)(hx:∃ q,q∈L /\ ¬ ecom q p)(k:Nat):Sup (proj p L) k ↔ Sup L k/\phE p k=0:=by
 obtain⟨_,_,_,hk⟩:=zlw hL hok hx
 have hG:=zga hL hok hx
 constructor
 ·intro h
  exact⟨fun g hg hz=>h g ((hk g hg).1 (com_z hp hz)) hz,h p (zbd hG (zko hx)) hp⟩
 ·rintro⟨h1,h2⟩ g hg hz
  obtain⟨f,f1,_,rfl|rfl⟩:=zqz hL hok hx hg
  ·exact h1 _ f1 hz
  ·have hf:xv f.2=0:=by
    have h3:xv (p.2^^^f.2)=0:=hz
    rw[zcw,hp,Nat.zero_xor]at h3;exact h3
   rw[zly,h1 f f1 hf,hf,Nat.xor_zero,h2]
def lsS(w:Nat)(l:List Ps):Nat->List Ps×Nat
 | 0=>(redRows l (2*w),0)
 | i+1=>if expR w (lsS w l i).1 (zP w (w-1-i) 0)=1 then lsS w l i else if expR w (lsS w l i).1 (zP w (w-1-i) 0) = -1 then((lsS w l i).1,(lsS w l i).2 ||| 2^(w-1-i)) else(redRows (prjL (zP w (w-1-i) 0) (lsS w l i).1) (2*w),(lsS w l i).2)
structure Ls (w n:Nat) (L:List E) (s:List Ps×Nat):Prop where
 sok:SOk w s.1
 sup:∀ k,Sup (s.1.map nf) k ↔ Sup L k /\ ∀ j,n<=j->j<w->k.testBit j=s.2.testBit j
 lo:∀ j,j<n\/w<=j->s.2.testBit j=false
 gen:∀ j,n<=j->j<w->Gen (s.1.map nf) (nf (zP w j (s.2.testBit j).toNat))
 min:∀ k,Sup L k->s.2 / 2^n<=k / 2^n
theorem div2(x n:Nat):x / 2^n=2*(x / 2^(n+1))+(x.testBit n).toNat:=by
 rw[Nat.pow_succ,<- Nat.div_div_eq_div_mul]
 have h:x.testBit n=decide (x / 2^n%2=1):=Nat.testBit_eq_decide_div_mod_eq
 rw[h]
 generalize x / 2^n=q
 have:=Nat.mod_two_eq_zero_or_one q
 rcases this with h|h<;>rw[h]<;>simp<;>omega
theorem div_bits{x y n:Nat}(h:x / 2^n=y / 2^n){j:Nat}(hj:n<=j):x.testBit j=y.testBit j:=by
 obtain⟨m,rfl⟩:∃ m,j=n+m:=⟨j-n,by omega⟩
 rw[Nat.add_comm,<- Nat.testBit_div_two_pow,<- Nat.testBit_div_two_pow,h]
theorem tn1(b:Bool):b.toNat<=1:=by cases b<;>decide
theorem ls_step{w n i:Nat}{l:List Ps}(hi:i<w)(hn:n=w-1-i){L:List E}(h:Ls w (n+1) L (lsS w l i)):Ls w n L (lsS w l (i+1)):=by
 have hnw:n<w:=qad
 have hs:lsS w l (i+1)=if expR w (lsS w l i).1 (zP w n 0)=1 then lsS w l i else if expR w (lsS w l i).1 (zP w n 0) = -1 then((lsS w l i).1,(lsS w l i).2 ||| 2^n) else(redRows (prjL (zP w n 0) (lsS w l i).1) (2*w),(lsS w l i).2):=by rw[hn];rfl
 rw[hs]
 clear hs hn
 generalize lsS w l i=s at h⊢
 obtain⟨R,o⟩:=s
 have hk:=h.sok
 have hw:w<=12:=hk.hi
 have hst:=zbv hk
 have hpv:=zkf (w:=w) (o:=0) hnw qag
 have hok:=zr6 hw hnw (o:=0) qag
 have hz0:o.testBit n=false:=h.lo n (.inl (Nat.lt_succ_self n))
 dsimp only at hk hst⊢
 rcases zcs (zgh hk hpv hok) with⟨e,hg⟩|⟨e,hg⟩|⟨e,n1,n2⟩
 ·rw[if_pos e]
  have hbit:∀ k,Sup (R.map nf) k->k.testBit n=false:=fun k hs=>by
   have:=(zP_ph (w:=w) qad qag k).1 (hs _ hg (zwz w n 0 qag))
   cases e:k.testBit n with
   | false=>rfl
   | true=>rw[e]at this;cases this
  refine⟨hk,fun k=>⟨fun hs=>⟨((h.sup k).1 hs).1,fun j h1 h2=>?_⟩,fun hs=>(h.sup k).2 ⟨hs.1,fun j h1 h2=>hs.2 j qad h2⟩⟩,fun j hj=>h.lo j qad,fun j h1 h2=>?_,fun k hs=>?_⟩
  ·by_cases q:j=n
   ·subst q;rw[hbit k hs];exact hz0.symm
   ·exact((h.sup k).1 hs).2 j qad h2
  ·by_cases q:j=n
   ·subst q
    show Gen _ (nf (zP w j (o.testBit j).toNat))
    rw[hz0];exact hg
   ·exact h.gen j qad h2
  ·exact qgz
 ·rw[if_neg qcs,if_pos e]
  rw[zP_neg]at hg
  have hbit:∀ k,Sup (R.map nf) k->k.testBit n=true:=fun k hs=>by
   have:=(zP_ph (w:=w) qad qag k).1 (hs _ hg (zwz w n 1 qag))
   cases e:k.testBit n with
   | true=>rfl
   | false=>rw[e]at this;cases this
  have hob:∀ j,(o ||| 2^n).testBit j=(o.testBit j||decide (n=j)):=fun j=>by rw[Nat.testBit_or,Nat.testBit_two_pow]
  have hobn:(o ||| 2^n).testBit n=true:=by rw[hob];simp
  have hobj:∀ j,j≠n->(o ||| 2^n).testBit j=o.testBit j:=fun j hj=>by rw[hob];simp[Ne.symm hj]
  refine⟨hk,fun k=>⟨fun hs=>⟨((h.sup k).1 hs).1,fun j h1 h2=>?_⟩,fun hs=>(h.sup k).2 ⟨hs.1,fun j h1 h2=>?_⟩⟩,fun j hj=>?_,fun j h1 h2=>?_,fun k hs=>?_⟩
  ·by_cases q:j=n
   ·subst q;rw[hbit k hs];exact hobn.symm
   ·show _=(o ||| 2^n).testBit j
    rw[hobj j q];exact((h.sup k).1 hs).2 j qad h2
  ·have:=hs.2 j qad h2
   dsimp only at this
   rw[hobj j qad]at this;exact this
  ·show(o ||| 2^n).testBit j=false
   rw[hobj j qad];exact h.lo j qad
  ·show Gen _ (nf (zP w j ((o ||| 2^n).testBit j).toNat))
   by_cases q:j=n
   ·subst q;rw[hobn];exact hg
   ·rw[hobj j q];exact h.gen j qad h2
  ·have h3:o / 2^(n+1)<=k / 2^(n+1):=h.min k hs
   have h4:(o ||| 2^n) / 2^(n+1)=o / 2^(n+1):=Nat.eq_of_testBit_eq fun j=>by
    rw[Nat.testBit_div_two_pow,Nat.testBit_div_two_pow,hobj _ qad]
   show(o ||| 2^n) / 2^n<=k / 2^n
   rw[div2 (o ||| 2^n),div2 k,h4,hobn]
   have:true.toNat=1:=rfl
   rcases Nat.lt_or_ge (o / 2^(n+1)) (k / 2^(n+1)) with q|q
   ·exact qad
   ·have h5:k / 2^(n+1)=o / 2^(n+1):=by omega
    have h6:Sup (R.map nf) k:=(h.sup k).2 ⟨hs,fun j h1 _=>div_bits h5 h1⟩
    rw[hbit k h6,h5]
    exact Nat.le_refl _
 ·rw[if_neg qcs,if_neg qcs]
  have hpin:inV w (nf (zP w n 0)).2:=zle hw hpv
  have hx:=zgq hw hst hpin hok n1 n2
  have hS:SOk w (prjL (zP w n 0) R):=by
   refine zli ⟨hk.lo,hw⟩ (zs3 hw hpv hk.vl) ?_
   rw[zhv hw hk.vl hst.good]
   exact zkn hw hst hpin hok n1 n2
  obtain⟨r1,r2⟩:=zbg hS
  have hsp:∀ k,Sup ((redRows (prjL (zP w n 0) R) (2*w)).map nf) k ↔ Sup (R.map nf) k/\k.testBit n=false:=fun k=>by
   rw[<- zoh r2 k,zhv hw hk.vl hst.good,sup_meas hst.good (zwz w n 0 qag) hok hx,zP_ph qad qag]
   cases k.testBit n<;>simp
  obtain⟨_,_,_,hkeep⟩:=zlw hst.good hok hx
  refine⟨r1,fun k=>⟨fun hs=>?_,fun hs=>?_⟩,fun j hj=>h.lo j qad,fun j h1 h2=>?_,fun k hs=>?_⟩
  ·obtain⟨a1,a2⟩:=(hsp k).1 hs
   refine⟨((h.sup k).1 a1).1,fun j h1 h2=>?_⟩
   by_cases q:j=n
   ·subst q;rw[a2];exact hz0.symm
   ·exact((h.sup k).1 a1).2 j qad h2
  ·refine(hsp k).2 ⟨(h.sup k).2 ⟨hs.1,fun j h1 h2=>hs.2 j qad h2⟩,?_⟩
   exact(hs.2 n (Nat.le_refl n) hnw).trans hz0
  ·refine(r2 _).1 ?_
   rw[zhv hw hk.vl hst.good]
   by_cases q:j=n
   ·subst q
    show Gen _ (nf (zP w j (o.testBit j).toNat))
    rw[hz0]
    exact zbd (zga hst.good hok hx) (zko hx)
   ·refine(hkeep _ (h.gen j qad h2)).1 (com_z (zwz w n 0 qag) (zwz w j _ ?_))
    exact tn1 _
  ·exact qgz
theorem zsn{w:Nat}(hw:w<=12){L:List E}(hL:Sta w L){o:Nat}(hg:∀ j,j<w->Gen L (nf (zP w j (o.testBit j).toNat))):∀ n,n<=w->∀ g,Gen L g->xv g.2=0->(∀ j,n<=j->g.2.testBit (12+j)=false)->phE g o=0
 | 0,_,g,h,hx,hz=>by
  have h0:g.2=0:=Nat.eq_of_testBit_eq fun j=>by
   rw[Nat.zero_testBit]
   rcases Nat.lt_or_ge j 12 with q|q
   ·have:=congrArg (fun v=>v.testBit j) hx
    simp only[xv,show 4096=2^12 from rfl,Nat.testBit_mod_two_pow,Nat.zero_testBit]at this
    simpa[q] using this
   ·have:=hz (j-12) (Nat.zero_le _)
    rwa [show 12+(j-12)=j by omega]at this
  rw[zpc hL.good hL.ind h h0,phE_one]
 | n+1,hn,g,h,hx,hz=>by
  by_cases hb:g.2.testBit (12+n)=true
  ·have hzg:=hg n qad
   have hb1:=tn1 (o.testBit n)
   have hzx:=zwz w n (o.testBit n).toNat hb1
   have hp0:=(zP_ph (w:=w) qad hb1 o).2 rfl
   have e2:(nf (zP w n (o.testBit n).toNat)).2=2^(12+n):=by rw[nf_zP w n _ hb1]
   generalize nf (zP w n (o.testBit n).toNat)=z at hzg hzx hp0 e2
   have hm:=zbu hL.good hzg h
   have hmx:xv (emul z g).2=0:=by
    show xv (z.2^^^g.2)=0
    rw[zcw,hzx,hx];rfl
   have ih:=zsn hw hL hg n qad (emul z g) hm hmx fun j hj=>by
    show(z.2^^^g.2).testBit (12+j)=false
    rw[Nat.testBit_xor,e2,Nat.testBit_two_pow]
    by_cases q:n=j
    ·subst q;rw[hb];simp
    ·rw[hz j qad];simp;omega
   have e:emul z (emul z g)=g:=by
    rw[<- zbh,zcm (zcl hL.good hzg),zfn g (zcl hL.good h).1]
   have:=zly z (emul z g) o
   rw[e,ih,hmx,Nat.xor_zero,hp0]at this
   exact this
  ·refine zsn hw hL hg n qad g h hx fun j hj=>?_
   by_cases q:j=n
   ·rw[q];simpa using hb
   ·exact hz j qad
theorem zvk{w:Nat}{l:List Ps}(h:SOk w l):∀ i,i<=w->Ls w (w-i) ((l.map nf)) (lsS w l i)
 | 0,_=>by
  obtain⟨r1,r2⟩:=zbg h
  refine⟨r1,fun k=>⟨fun q=>⟨(zoh r2 k).2 q,fun j h1 h2=>by omega⟩,fun q=>(zoh r2 k).1 q.1⟩,fun j _=>Nat.zero_testBit j,fun j h1 h2=>by omega,fun k _=>?_⟩
  show 0 / _<=_
  rw[Nat.zero_div];exact Nat.zero_le _
 | i+1,hi=>by
  have:=zvk h i qad
  rw[show w-i=(w-1-i)+1 by omega]at this
  rw[show w-(i+1)=w-1-i by omega]
  exact ls_step qad rfl this
theorem ls_end{w:Nat}{l:List Ps}(h:SOk w l):Sup (l.map nf) (lsS w l w).2/\(lsS w l w).2<2^w /\ ∀ k,Sup (l.map nf) k->(lsS w l w).2<=k:=by
 have hl:=zvk h w (Nat.le_refl w)
 rw[Nat.sub_self]at hl
 have hs:=zbv hl.sok
 have hin:∀ g,Gen ((lsS w l w).1.map nf) g->∀ j,w<=j->g.2.testBit (12+j)=false:=fun g hg j hj=>by
  refine zeo _ (fun a ha=>?_) _ (zc5 hg)
  obtain⟨e,he,rfl⟩:=List.mem_map.1 ha
  exact zeo _ (zp2 (.inr qad)) _ (hs.inv e he)
 have hsup:Sup ((lsS w l w).1.map nf) (lsS w l w).2:=fun g hg hx=>zsn h.hi hs (fun j hj=>hl.gen j (Nat.zero_le j) hj) w (Nat.le_refl w) g hg hx (hin g hg)
 refine⟨((hl.sup _).1 hsup).1,Nat.lt_pow_two_of_testBit _ fun j hj=>hl.lo j (.inr hj),fun k hk=>?_⟩
 have:=hl.min k hk
 simpa using this
end Go.Tz
namespace Go.Tz
open Go Go.AL Go.Proofs Go.Ma
theorem zwl{w n:Nat}(hw:w<=12)(hn:n<w){q:Ps}(h:Vl w q):bitB q (2*n:Nat)=xB q n:=by
 have h1:=zfv (c:=2*n) hw qad h
 rw[h1]
 obtain⟨X,Z,P,rfl,hX,_,_⟩:=h
 have h2:X<4096:=Nat.lt_of_lt_of_le hX (Nat.pow_le_pow_right qag hw)
 unfold cb vec pos xB
 rw[if_pos qad,zcq,show 2*n / 2=n by omega,zed h2,if_pos qad]
 show _=(X:Int).toNat.testBit n
 rw[Int.toNat_natCast]
theorem zrx(q:Ps)(n:Nat):bitB q (2*n:Nat)=decide (bitI q.x n=1):=by
 unfold bitB
 have e1:((2*n:Nat):Int)%2=0:=qad
 have e2:((2*n:Nat):Int) / 2=n:=qad
 rw[if_pos e1,e2]
theorem bitI_x{w n:Nat}(hw:w<=12)(hn:n<w){q:Ps}(h:Vl w q):decide (bitI q.x n=1)=xB q n:=by rw[<- zrx,zwl hw hn h]
theorem clrX_z0(f:Ps)(n:Nat):clrX f n Ps.z0=Ps.z0:=by
 unfold clrX
 rw[if_neg]
 show ¬(0:Int).toNat.testBit n=true
 simp
structure FS where
 r:Nat->Ps
 m:Nat
 o:Nat->Nat×Ps
def dlt(rf:Nat->Ps)(f j:Nat):Ps:=if j<f then rf j else rf (j+1)
def flS(w n:Nat)(s:FS):FS:=match fndO s.r s.m (2*n) 0 with
 | none=>s
 | some f=>⟨fun j=>clrX (s.r f) n (dlt s.r f j),s.m-1,fun j=>if j<w-s.m then((s.o j).1,clrX (s.r f) n (s.o j).2) else(n,s.r f)⟩
def flN(w:Nat)(l:List Ps):Nat->FS
 | 0=>⟨fun j=>l.getD j Ps.z0,w,fun _=>(0,Ps.z0)⟩
 | n+1=>flS w n (flN w l n)
abbrev flA(w:Nat)(s:FS):List (Nat×Ps):=(List.range (w-s.m)).map s.o
abbrev flB(s:FS):List Ps:=(List.range s.m).map s.r
structure FlOk (w n:Nat) (L:List E) (s:FS):Prop where
 le:s.m<=w
 z:∀ j,s.m<=j->s.r j=Ps.z0
 pt:Pt w n L (flA w s) (flB s)
theorem zv4{w n:Nat}{L:List E}{s:FS}(h:FlOk w n L s){j:Nat}(hj:j<s.m):Vl w (s.r j):=h.pt.vl _ (List.mem_append.2 (.inr (List.mem_map.2 ⟨j,List.mem_range.2 hj,rfl⟩)))
theorem flok_o{w n:Nat}{L:List E}{s:FS}(h:FlOk w n L s){j:Nat}(hj:j<w-s.m):Vl w (s.o j).2/\(s.o j).1<n:=by
 have hm:s.o j∈flA w s:=List.mem_map.2 ⟨j,List.mem_range.2 hj,rfl⟩
 exact⟨h.pt.vl _ (List.mem_append.2 (.inl (List.mem_map.2 ⟨_,hm,rfl⟩))),h.pt.lt _ hm⟩
theorem fl_step{w n:Nat}(hw:w<=12)(hn:n<w){L:List E}{s:FS}(h:FlOk w n L s):FlOk w (n+1) L (flS w n s):=by
 unfold flS
 cases hf:fndO s.r s.m (2*n) 0 with
 | none =>
  refine⟨h.le,h.z,ptq_skip h.pt fun b hb=>?_⟩
  obtain⟨j,hj,rfl⟩:=List.mem_map.1 hb
  have hj:=List.mem_range.1 hj
  rw[<- zwl hw hn (zv4 h hj)]
  exact zmh hf j (Nat.zero_le j) hj
 | some f =>
  obtain⟨_,f1,f2,_⟩:=zek hf
  have hfv:=zv4 h f1
  rw[zwl hw hn hfv]at f2
  dsimp only
  have hle:=h.le
  refine⟨by show s.m-1<=w;omega,fun j hj=>?_,?_⟩
  ·have hj:s.m-1<=j:=hj
   show clrX _ n (dlt s.r f j)=_
   have:dlt s.r f j=Ps.z0:=by
    unfold dlt
    rw[if_neg qad]
    exact h.z _ qad
   rw[this,clrX_z0]
  ·have eA:flA w ⟨fun j=>clrX (s.r f) n (dlt s.r f j),s.m-1,fun j=>if j<w-s.m then((s.o j).1,clrX (s.r f) n (s.o j).2) else(n,s.r f)⟩=(flA w s).map (fun a=>(a.1,clrX (s.r f) n a.2))++[(n,s.r f)]:=by
    unfold flA
    dsimp only
    rw[show w-(s.m-1)=(w-s.m)+1 by omega,List.range_succ,List.map_append,List.map_map]
    congr 1
    ·refine List.map_congr_left fun j hj=>?_
     rw[if_pos (List.mem_range.1 hj)];rfl
    ·simp only[List.map_cons,List.map_nil]
     rw[if_neg (Nat.lt_irrefl _)]
   rw[eA]
   have hd:∀ j,j<s.m-1->∃ i,i<s.m/\dlt s.r f j=s.r i:=fun j hj=>by
    unfold dlt
    split
    ·exact⟨j,by omega,rfl⟩
    ·exact⟨j+1,by omega,rfl⟩
   refine ptq_step hw h.pt (f:=s.r f) (List.mem_map.2 ⟨f,List.mem_range.2 f1,rfl⟩) f2 (fun q hq=>?_) (fun r hr=>?_) (fun q hq=>?_)
   ·obtain⟨j,hj,rfl⟩:=List.mem_map.1 hq
    obtain⟨i,hi,e⟩:=hd j (List.mem_range.1 hj)
    exact⟨s.r i,List.mem_map.2 ⟨i,List.mem_range.2 hi,rfl⟩,by show clrX _ n (dlt s.r f j)=_;rw[e]⟩
   ·obtain⟨i,hi,rfl⟩:=List.mem_map.1 hr
    have hi:=List.mem_range.1 hi
    rcases Nat.lt_trichotomy i f with q|q|q
    ·exact .inr (List.mem_map.2 ⟨i,List.mem_range.2 (by show i<s.m-1;omega),by show clrX _ n (dlt s.r f i)=_;unfold dlt;rw[if_pos q]⟩)
    ·exact .inl (by rw[q])
    ·refine .inr (List.mem_map.2 ⟨i-1,List.mem_range.2 (by show i-1<s.m-1;omega),?_⟩)
     show clrX _ n (dlt s.r f (i-1))=_
     unfold dlt;rw[if_neg qad,show i-1+1=i by omega]
   ·obtain⟨j,hj,rfl⟩:=List.mem_map.1 hq
    obtain⟨i,hi,e⟩:=hd j (List.mem_range.1 hj)
    show xB (clrX _ n (dlt s.r f j)) n=false
    rw[e,zg6 hw hfv (zv4 h hi),f2]
    cases xB (s.r i) n<;>rfl
theorem fl_zero{w:Nat}{l:List Ps}(hlen:l.length=w)(hv:∀ q,q∈l->Vl w q)(hG:Good (l.map nf)):FlOk w 0 (l.map nf) (flN w l 0):=by
 have eB:flB (flN w l 0)=l:=by
  show(List.range w).map (fun j=>l.getD j Ps.z0)=l
  apply List.ext_getElem
  ·simp[hlen]
  ·intro i h1 h2
   simp[List.getElem?_eq_getElem h2]
 have eA:flA w (flN w l 0)=[]:=by
  show(List.range (w-w)).map _=[]
  rw[Nat.sub_self];rfl
 refine⟨Nat.le_refl w,fun j hj=>?_,?_⟩
 ·show l.getD j Ps.z0=_
  have:w<=j:=hj
  rw[List.getD_eq_getElem?_getD,List.getElem?_eq_none qad];rfl
 ·rw[eA,eB]
  exact⟨hv,hG,fun _=>Iff.rfl,(fun a ha=>by cases ha),(fun a ha=>by cases ha),List.Pairwise.nil,fun b _ m hm=>by omega⟩
theorem fl_run{w:Nat}(hw:w<=12){l:List Ps}(hlen:l.length=w)(hv:∀ q,q∈l->Vl w q)(hG:Good (l.map nf)):∀ n,n<=w->FlOk w n (l.map nf) (flN w l n)
 | 0,_=>fl_zero hlen hv hG
 | n+1,hn=>fl_step hw hn (fl_run hw hlen hv hG n qad)
end Go.Tz
