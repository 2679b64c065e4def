import Derived.Test.YtehjjpbpdfnnfaaGreatDoorM00
import Derived.Test.YtehjjpbpdfnnfaaGreatDoorM08
namespace Go.Tz
open Go Go.AL Go.Proofs Go.Ma
theorem fZ{a:Int}{k:Bool->Prop}(h:k false):∀ t,(a != a)=t->k t:=fun t e=>by
 have e2:false=t:=(show(a != a)=false by simp).symm.trans e;exact e2 ▸ h
theorem lu{a b:Int}{k:Bool->Prop}(hne:decide (a≠b)=true)(h:k true):∀ t,(a != b)=t->k t:=fun t e=>by
 have e1:(a != b)=decide (a≠b):=qgm;have e2:true=t:=(e1.trans hne).symm.trans e;exact e2 ▸ h
theorem iQ(w b:Int)(l:List Gt):dm w b (l.map Gt.own)=dm w b l:=by
 unfold dm;rw[ef,List.find?_map];have e:((fun g=>decide (bH g w b≠0)) ∘ Gt.own)=fun g=>decide (bH g w b≠0):=rfl;rw[e];cases l.find? (fun g=>decide (bH g w b≠0))<;>rfl
theorem gN(w b:Int)(l:List Gt):nu w b (l.map Gt.own)=nu w b l:=by
 unfold nu;rw[iQ,List.all_map];rfl
theorem iH(w:Nat)(l:List Gt):kY w (l.map Gt.own)=kY w l:=by
 unfold kY;rw[List.foldl_map];rfl
theorem kQ:aq Tryz.f5=true:=ar
theorem FN{w:Nat}{l:List Ps}(hs:SOk w l){p:Ps}(hp:Vl w p)(hpp:p.p.tmod 2=0):nk l p=cI w l p :=
 wu (fun _=>QI) (Ao hs hp ((qd hs.hi hp).2 hpp)) (kE hs hp ((qd hs.hi hp).2 hpp))
set_option maxHeartbeats 8000000 in
theorem Sg(w:Int)(l:List Ps)(t:Bool)(cw cb:Int)(gs:List Gt)(ct:Bool)(k:Int)(ws:List Int)(u:Bool)(b i:Int)(p:Ps)(h1:l.length<=20)(h2:jm gs=false)(h3:ws.length<=6):PC Pr GG 5 [cf w l t,ei cw cb gs ct,(Gt.mk k ws u b i).d,p.d] (.bool true):=by
 have hgs:gs.length<=130 /\ ∀ g,g∈gs->g.ws.length<=6:=by
  unfold jm at h2;rw[wdt]at h2;exact⟨by simpa using h2.1,fun g hg=>by have:=BX.1 h2.2 g hg;simpa using this⟩
 have hgw:∀ g,g∈gs->g.ws.length<=1000:=fun g hg=>by have:=hgs.2 g hg;omega
 have hgw':∀ g,g∈gs.map Gt.own->g.ws.length<=1000:=fun g hg=>by
  obtain⟨x,hx,rfl⟩:=bm.1 hg;exact hgw x hx
 have c39:=vr (G:=GG) cw cb gs ct;rw[h2]at c39;have c16:=DN (G:=GG) w l t qad;have c18:=lW (G:=GG) w l t qad;have c17:=oq (G:=GG) w l false qad;have c40:=Vv (G:=GG) cw cb gs ct qad hgw;have c24:=zY (G:=GG) ws u qad;have c42:=Gd (G:=GG) k;have c43:=Ic (G:=GG) p;have c23:=xE (G:=GG) w w l l false t qad;rw[decide_eq_true ⟨rfl,rfl⟩]at c23;have c50:=PM (G:=GG) cw cb gs ct false qad hgw;have c51:PC Pr GG 51 [(Gt.mk k ws false b i).d,(Gt.mk k ws u b i).d] (.bool true):=PN (G:=GG) ⟨k,ws,u,b,i⟩ false (show ws.length<=1000 by omega);have hZl:True:=trivial;have hRl:True:=trivial;have hL3:ws.length<=1000:=qad;by_cases hc:bD w l=0
 ·obtain⟨W,rfl,hs⟩:=jT hc;have hlen:=hs.len;have hlo:=hs.lo;rw[hc]at c17;have c41:=K9 (G:=GG) ⟨k,ws,u,b,i⟩ W 0 ⟨by have:=hs.lo;omega,by have:=hs.hi;omega⟩ qaj hL3;by_cases hA:bH ⟨k,ws,u,b,i⟩ W 0=0
  ·by_cases hK:bV k=true
   ·skip;have hapE:Ke W l ⟨k,ws,false,b,i⟩=if bH ⟨k,ws,u,b,i⟩ W 0≠0 then bH ⟨k,ws,u,b,i⟩ W 0 else if bV k=true then 0 else 7:=qfr
    rw[if_neg (fun q=>q hA),if_pos hK]at hapE;have c47:=Rm (w:=W) (l:=l) (g:=⟨k,ws,false,b,i⟩) hapE false hL3;have c44:=qJ (G:=GG) ⟨hs.lo,hs.hi⟩ ⟨k,ws,u,b,i⟩ hA hK l false qad qad hs.vl;have eR:dF W ⟨k,ws,false,b,i⟩ l=dF W ⟨k,ws,u,b,i⟩ l:=rfl;rw[eR]at c47;rw[hA]at c41;rw[hK]at c42;have hRl:(dF W ⟨k,ws,u,b,i⟩ l).length=l.length:=Cw _ _ _;generalize dF W ⟨k,ws,u,b,i⟩ l=R at c44 c47 hRl;have ht1:=bz (G:=GG) W R true qad qad;have h27R:=bP (G:=GG) W W R R false false qad;rw[decide_eq_true ⟨rfl,rfl⟩]at h27R;rw[hRl]at ht1;have hrR:∀ ρ:Nat->Nat,some (Blk.ren ρ (ap 4 (R.map Ps.l)))=some (ap 4 (R.map Ps.l)):=fun ρ=>by rw[aE]
    by_cases hB:dg p=0
    ·by_cases hX:p.w≠W\/p.p.tmod 2=1
     ·skip;have hexS:Al W l p=if dg p≠0 then dg p else if p.w≠W\/p.p.tmod 2=1 then 7 else 0:=TH
      rw[if_neg (fun q=>q hB),if_pos hX]at hexS;have c48:=iq (w:=W) (l:=l) (p:=p) (by rw[hexS];decide) false qad;rw[hexS]at c48;rw[<- ed,hB]at c43;by_cases hC:nu cw cb gs=0
      ·skip;obtain⟨CW,rfl,hCW⟩:∃ n:Nat,cw=n/\(1<=n/\n<=12):=by
        have:=(cj (iy hC).1).1;exact⟨cw.toNat,by omega,by omega⟩
       have c46:=xc hC ct qad hgw;have c49:=yo (w:=CW) (b:=cb) (l:=gs.map Gt.own) zt false fF hgw';rw[iH]at c49;have hZl:(kY CW gs).length=CW:=LD;generalize kY CW gs=Z at c46 c49 hZl;generalize JP (gs.map Gt.own).length=tz at c49;have ht2:=bz (G:=GG) CW Z tz qad qad;have h27Z:=bP (G:=GG) CW CW Z Z false false qad;rw[decide_eq_true ⟨rfl,rfl⟩]at h27Z;rw[hZl]at ht2;have hrZ:∀ ρ:Nat->Nat,some (Blk.ren ρ (ap 4 (Z.map Ps.l)))=some (ap 4 (Z.map Ps.l)):=fun ρ=>by rw[aE]
       refine ae pok Tryz.func5 kQ ?_;conv=>whnf
       repeat' first|((first|refine O6.mk _ A0 ?_|refine O8.mk _ aK ?_|(refine aJ qA ?_)|refine aQ ?_|refine bF rfl ?_|refine lu rfl ?_|refine aY c47 ?_|refine aa c44 ?_|refine ab c44 ?_|refine fZ ?_|refine aY c49 ?_|refine aa c46 ?_|refine ab c46 ?_|refine aa c39 ?_|refine ab c39 ?_|refine aa c16 ?_|refine ab c16 ?_|refine aa c40 ?_|refine ab c40 ?_|refine aa c24 ?_|refine ab c24 ?_|refine aa c18 ?_|refine ab c18 ?_|refine aa c17 ?_|refine ab c17 ?_|refine aa c41 ?_|refine ab c41 ?_|refine aa c42 ?_|refine ab c42 ?_|refine aa c43 ?_|refine ab c43 ?_|refine aa c48 ?_|refine ab c48 ?_|refine aa c23 ?_|refine ab c23 ?_|refine aa c50 ?_|refine ab c50 ?_|refine aa c51 ?_|refine ab c51 ?_|refine aa av ?_|refine ab av ?_|refine aH (aM rfl rfl (hrR _)) ?_|refine aH (aM rfl rfl (hrZ _)) ?_|refine aZ ht1 ?_|refine aZ ht2 ?_|refine aa h27R ?_|refine ab h27R ?_|refine aa h27Z ?_|refine ab h27Z ?_|rw[aW]|refine P5.mk _ rfl ?_|refine aB pok Tryz.func37 dj ?_|refine HpP.force ?_);conv=>whnf)|(intro t ht;cases t<;>conv=>whnf)
       all_goals first|exact fin rfl|(exfalso;simp at ht;done)|(exfalso;simp at *;omega)|(exfalso;simp_all;done)
      ·skip;have c46:=nY hC ct qad hgw;have c49:=pL (l:=gs.map Gt.own) zt false fF hgw';rw[gN]at c49;generalize nu cw cb gs=eC at c46 c49 hC;refine ae pok Tryz.func5 kQ ?_;conv=>whnf
       repeat' first|((first|refine O6.mk _ A5 ?_|refine O8.mk _ aK ?_|(refine aJ qA ?_)|refine aQ ?_|refine bF rfl ?_|refine lu rfl ?_|refine aY c47 ?_|refine aa c44 ?_|refine ab c44 ?_|refine fZ ?_|refine aa c49 ?_|refine ab c49 ?_|refine aa c46 ?_|refine ab c46 ?_|refine aa c39 ?_|refine ab c39 ?_|refine aa c16 ?_|refine ab c16 ?_|refine aa c40 ?_|refine ab c40 ?_|refine aa c24 ?_|refine ab c24 ?_|refine aa c18 ?_|refine ab c18 ?_|refine aa c17 ?_|refine ab c17 ?_|refine aa c41 ?_|refine ab c41 ?_|refine aa c42 ?_|refine ab c42 ?_|refine aa c43 ?_|refine ab c43 ?_|refine aa c48 ?_|refine ab c48 ?_|refine aa c23 ?_|refine ab c23 ?_|refine aa c50 ?_|refine ab c50 ?_|refine aa c51 ?_|refine ab c51 ?_|refine aa av ?_|refine ab av ?_|refine aa (aX _) ?_|refine ab (aX _) ?_|refine aH (aM rfl rfl (hrR _)) ?_|refine aZ ht1 ?_|refine aa h27R ?_|refine ab h27R ?_|rw[aW]|refine P5.mk _ rfl ?_|refine aB pok Tryz.func37 dj ?_|refine HpP.force ?_);conv=>whnf)|(intro t ht;cases t<;>conv=>whnf)
       all_goals first|exact fin rfl|(exfalso;simp at ht;done)|(exfalso;simp at *;omega)|(exfalso;simp_all;done)
     ·skip;have hexS:Al W l p=if dg p≠0 then dg p else if p.w≠W\/p.p.tmod 2=1 then 7 else 0:=TH
      rw[if_neg (fun q=>q hB),if_neg hX]at hexS;have c48:=wv (w:=W) (l:=l) (p:=p) hexS false;obtain⟨W2,hW2,_,hpv,hpp⟩:=Am hexS;obtain rfl:W2=W:=qad;have c45:=jY (G:=GG) hs false hpv;rw[FN hs hpv hpp]at c48;generalize cI W2 l p=ex at c45 c48;rw[<- ed,hB]at c43;have hpw:=dr hpv;obtain⟨pw,px,pz,pp⟩:=p;obtain rfl:pw=W2:=hpw;have hpp:pp.tmod 2=0:=hpp;by_cases hC:nu cw cb gs=0
      ·skip;obtain⟨CW,rfl,hCW⟩:∃ n:Nat,cw=n/\(1<=n/\n<=12):=by
        have:=(cj (iy hC).1).1;exact⟨cw.toNat,by omega,by omega⟩
       have c46:=xc hC ct qad hgw;have c49:=yo (w:=CW) (b:=cb) (l:=gs.map Gt.own) zt false fF hgw';rw[iH]at c49;have hZl:(kY CW gs).length=CW:=LD;generalize kY CW gs=Z at c46 c49 hZl;generalize JP (gs.map Gt.own).length=tz at c49;have ht2:=bz (G:=GG) CW Z tz qad qad;have h27Z:=bP (G:=GG) CW CW Z Z false false qad;rw[decide_eq_true ⟨rfl,rfl⟩]at h27Z;rw[hZl]at ht2;have hrZ:∀ ρ:Nat->Nat,some (Blk.ren ρ (ap 4 (Z.map Ps.l)))=some (ap 4 (Z.map Ps.l)):=fun ρ=>by rw[aE]
       refine ae pok Tryz.func5 kQ ?_;conv=>whnf
       repeat' first|((first|refine O6.mk _ A0 ?_|refine O8.mk _ aK ?_|(refine aJ qA ?_)|refine aQ ?_|refine bF rfl ?_|refine lu rfl ?_|refine aY c47 ?_|refine aa c44 ?_|refine ab c44 ?_|refine fZ ?_|rw[hpp]|refine aa c45 ?_|refine ab c45 ?_|refine aY c49 ?_|refine aa c46 ?_|refine ab c46 ?_|refine aa c39 ?_|refine ab c39 ?_|refine aa c16 ?_|refine ab c16 ?_|refine aa c40 ?_|refine ab c40 ?_|refine aa c24 ?_|refine ab c24 ?_|refine aa c18 ?_|refine ab c18 ?_|refine aa c17 ?_|refine ab c17 ?_|refine aa c41 ?_|refine ab c41 ?_|refine aa c42 ?_|refine ab c42 ?_|refine aa c43 ?_|refine ab c43 ?_|refine aa c48 ?_|refine ab c48 ?_|refine aa c23 ?_|refine ab c23 ?_|refine aa c50 ?_|refine ab c50 ?_|refine aa c51 ?_|refine ab c51 ?_|refine aa av ?_|refine ab av ?_|refine aH (aM rfl rfl (hrR _)) ?_|refine aH (aM rfl rfl (hrZ _)) ?_|refine aZ ht1 ?_|refine aZ ht2 ?_|refine aa h27R ?_|refine ab h27R ?_|refine aa h27Z ?_|refine ab h27Z ?_|rw[aW]|refine P5.mk _ rfl ?_|refine aB pok Tryz.func37 dj ?_|refine HpP.force ?_);conv=>whnf)|(intro t ht;cases t<;>conv=>whnf)
       all_goals first|exact fin rfl|(exfalso;simp at ht;done)|(exfalso;simp at *;omega)|(exfalso;simp_all;done)
      ·skip;have c46:=nY hC ct qad hgw;have c49:=pL (l:=gs.map Gt.own) zt false fF hgw';rw[gN]at c49;generalize nu cw cb gs=eC at c46 c49 hC;refine ae pok Tryz.func5 kQ ?_;conv=>whnf
       repeat' first|((first|refine O6.mk _ A5 ?_|refine O8.mk _ aK ?_|(refine aJ qA ?_)|refine aQ ?_|refine bF rfl ?_|refine lu rfl ?_|refine aY c47 ?_|refine aa c44 ?_|refine ab c44 ?_|refine fZ ?_|rw[hpp]|refine aa c45 ?_|refine ab c45 ?_|refine aa c49 ?_|refine ab c49 ?_|refine aa c46 ?_|refine ab c46 ?_|refine aa c39 ?_|refine ab c39 ?_|refine aa c16 ?_|refine ab c16 ?_|refine aa c40 ?_|refine ab c40 ?_|refine aa c24 ?_|refine ab c24 ?_|refine aa c18 ?_|refine ab c18 ?_|refine aa c17 ?_|refine ab c17 ?_|refine aa c41 ?_|refine ab c41 ?_|refine aa c42 ?_|refine ab c42 ?_|refine aa c43 ?_|refine ab c43 ?_|refine aa c48 ?_|refine ab c48 ?_|refine aa c23 ?_|refine ab c23 ?_|refine aa c50 ?_|refine ab c50 ?_|refine aa c51 ?_|refine ab c51 ?_|refine aa av ?_|refine ab av ?_|refine aa (aX _) ?_|refine ab (aX _) ?_|refine aH (aM rfl rfl (hrR _)) ?_|refine aZ ht1 ?_|refine aa h27R ?_|refine ab h27R ?_|rw[aW]|refine P5.mk _ rfl ?_|refine aB pok Tryz.func37 dj ?_|refine HpP.force ?_);conv=>whnf)|(intro t ht;cases t<;>conv=>whnf)
       all_goals first|exact fin rfl|(exfalso;simp at ht;done)|(exfalso;simp at *;omega)|(exfalso;simp_all;done)
    ·skip;have hexS:Al W l p=if dg p≠0 then dg p else if p.w≠W\/p.p.tmod 2=1 then 7 else 0:=TH
     rw[if_pos hB]at hexS;have c48:=iq (w:=W) (l:=l) (p:=p) qhr false qad;rw[hexS]at c48;rw[<- ed]at c43;generalize dg p=eB at c43 c48 hB;by_cases hC:nu cw cb gs=0
     ·skip;obtain⟨CW,rfl,hCW⟩:∃ n:Nat,cw=n/\(1<=n/\n<=12):=by
       have:=(cj (iy hC).1).1;exact⟨cw.toNat,by omega,by omega⟩
      have c46:=xc hC ct qad hgw;have c49:=yo (w:=CW) (b:=cb) (l:=gs.map Gt.own) zt false fF hgw';rw[iH]at c49;have hZl:(kY CW gs).length=CW:=LD;generalize kY CW gs=Z at c46 c49 hZl;generalize JP (gs.map Gt.own).length=tz at c49;have ht2:=bz (G:=GG) CW Z tz qad qad;have h27Z:=bP (G:=GG) CW CW Z Z false false qad;rw[decide_eq_true ⟨rfl,rfl⟩]at h27Z;rw[hZl]at ht2;have hrZ:∀ ρ:Nat->Nat,some (Blk.ren ρ (ap 4 (Z.map Ps.l)))=some (ap 4 (Z.map Ps.l)):=fun ρ=>by rw[aE]
      refine ae pok Tryz.func5 kQ ?_;conv=>whnf
      repeat' first|((first|refine O6.mk _ A0 ?_|refine O8.mk _ aK ?_|(refine aJ qA ?_)|refine aQ ?_|refine bF rfl ?_|refine lu rfl ?_|refine eh hB ?_|refine aY c47 ?_|refine aa c44 ?_|refine ab c44 ?_|refine fZ ?_|refine aY c49 ?_|refine aa c46 ?_|refine ab c46 ?_|refine aa c39 ?_|refine ab c39 ?_|refine aa c16 ?_|refine ab c16 ?_|refine aa c40 ?_|refine ab c40 ?_|refine aa c24 ?_|refine ab c24 ?_|refine aa c18 ?_|refine ab c18 ?_|refine aa c17 ?_|refine ab c17 ?_|refine aa c41 ?_|refine ab c41 ?_|refine aa c42 ?_|refine ab c42 ?_|refine aa c43 ?_|refine ab c43 ?_|refine aa c48 ?_|refine ab c48 ?_|refine aa c23 ?_|refine ab c23 ?_|refine aa c50 ?_|refine ab c50 ?_|refine aa c51 ?_|refine ab c51 ?_|refine aa av ?_|refine ab av ?_|refine aH (aM rfl rfl (hrR _)) ?_|refine aH (aM rfl rfl (hrZ _)) ?_|refine aZ ht1 ?_|refine aZ ht2 ?_|refine aa h27R ?_|refine ab h27R ?_|refine aa h27Z ?_|refine ab h27Z ?_|rw[aW]|refine P5.mk _ rfl ?_|refine aB pok Tryz.func37 dj ?_|refine HpP.force ?_);conv=>whnf)|(intro t ht;cases t<;>conv=>whnf)
      all_goals first|exact fin rfl|(exfalso;simp at ht;done)|(exfalso;simp at *;omega)|(exfalso;simp_all;done)
     ·skip;have c46:=nY hC ct qad hgw;have c49:=pL (l:=gs.map Gt.own) zt false fF hgw';rw[gN]at c49;generalize nu cw cb gs=eC at c46 c49 hC;refine ae pok Tryz.func5 kQ ?_;conv=>whnf
      repeat' first|((first|refine O6.mk _ A5 ?_|refine O8.mk _ aK ?_|(refine aJ qA ?_)|refine aQ ?_|refine bF rfl ?_|refine lu rfl ?_|refine eh hB ?_|refine aY c47 ?_|refine aa c44 ?_|refine ab c44 ?_|refine fZ ?_|refine aa c49 ?_|refine ab c49 ?_|refine aa c46 ?_|refine ab c46 ?_|refine aa c39 ?_|refine ab c39 ?_|refine aa c16 ?_|refine ab c16 ?_|refine aa c40 ?_|refine ab c40 ?_|refine aa c24 ?_|refine ab c24 ?_|refine aa c18 ?_|refine ab c18 ?_|refine aa c17 ?_|refine ab c17 ?_|refine aa c41 ?_|refine ab c41 ?_|refine aa c42 ?_|refine ab c42 ?_|refine aa c43 ?_|refine ab c43 ?_|refine aa c48 ?_|refine ab c48 ?_|refine aa c23 ?_|refine ab c23 ?_|refine aa c50 ?_|refine ab c50 ?_|refine aa c51 ?_|refine ab c51 ?_|refine aa av ?_|refine ab av ?_|refine aa (aX _) ?_|refine ab (aX _) ?_|refine aH (aM rfl rfl (hrR _)) ?_|refine aZ ht1 ?_|refine aa h27R ?_|refine ab h27R ?_|rw[aW]|refine P5.mk _ rfl ?_|refine aB pok Tryz.func37 dj ?_|refine HpP.force ?_);conv=>whnf)|(intro t ht;cases t<;>conv=>whnf)
      all_goals first|exact fin rfl|(exfalso;simp at ht;done)|(exfalso;simp at *;omega)|(exfalso;simp_all;done)
   ·skip;have hapE:Ke W l ⟨k,ws,false,b,i⟩=if bH ⟨k,ws,u,b,i⟩ W 0≠0 then bH ⟨k,ws,u,b,i⟩ W 0 else if bV k=true then 0 else 7:=qfr
    rw[if_neg (fun q=>q hA),if_neg hK]at hapE;have c47:=vO (w:=W) (l:=l) (g:=⟨k,ws,false,b,i⟩) (by rw[hapE];decide) false qad hL3;rw[hapE]at c47;rw[hA]at c41;rw[show bV k=false by simpa using hK]at c42;by_cases hB:dg p=0
    ·by_cases hX:p.w≠W\/p.p.tmod 2=1
     ·skip;have hexS:Al W l p=if dg p≠0 then dg p else if p.w≠W\/p.p.tmod 2=1 then 7 else 0:=TH
      rw[if_neg (fun q=>q hB),if_pos hX]at hexS;have c48:=iq (w:=W) (l:=l) (p:=p) (by rw[hexS];decide) false qad;rw[hexS]at c48;rw[<- ed,hB]at c43;by_cases hC:nu cw cb gs=0
      ·skip;obtain⟨CW,rfl,hCW⟩:∃ n:Nat,cw=n/\(1<=n/\n<=12):=by
        have:=(cj (iy hC).1).1;exact⟨cw.toNat,by omega,by omega⟩
       have c46:=xc hC ct qad hgw;have c49:=yo (w:=CW) (b:=cb) (l:=gs.map Gt.own) zt false fF hgw';rw[iH]at c49;have hZl:(kY CW gs).length=CW:=LD;generalize kY CW gs=Z at c46 c49 hZl;generalize JP (gs.map Gt.own).length=tz at c49;have ht2:=bz (G:=GG) CW Z tz qad qad;have h27Z:=bP (G:=GG) CW CW Z Z false false qad;rw[decide_eq_true ⟨rfl,rfl⟩]at h27Z;rw[hZl]at ht2;have hrZ:∀ ρ:Nat->Nat,some (Blk.ren ρ (ap 4 (Z.map Ps.l)))=some (ap 4 (Z.map Ps.l)):=fun ρ=>by rw[aE]
       refine ae pok Tryz.func5 kQ ?_;conv=>whnf
       repeat' first|((first|refine O6.mk _ VA ?_|refine O8.mk _ aK ?_|(refine aJ qA ?_)|refine aQ ?_|refine bF rfl ?_|refine lu rfl ?_|refine aa c47 ?_|refine ab c47 ?_|refine fZ ?_|refine aY c49 ?_|refine aa c46 ?_|refine ab c46 ?_|refine aa c39 ?_|refine ab c39 ?_|refine aa c16 ?_|refine ab c16 ?_|refine aa c40 ?_|refine ab c40 ?_|refine aa c24 ?_|refine ab c24 ?_|refine aa c18 ?_|refine ab c18 ?_|refine aa c17 ?_|refine ab c17 ?_|refine aa c41 ?_|refine ab c41 ?_|refine aa c42 ?_|refine ab c42 ?_|refine aa c43 ?_|refine ab c43 ?_|refine aa c48 ?_|refine ab c48 ?_|refine aa c23 ?_|refine ab c23 ?_|refine aa c50 ?_|refine ab c50 ?_|refine aa c51 ?_|refine ab c51 ?_|refine aa av ?_|refine ab av ?_|refine aa (aX _) ?_|refine ab (aX _) ?_|refine aH (aM rfl rfl (hrZ _)) ?_|refine aZ ht2 ?_|refine aa h27Z ?_|refine ab h27Z ?_|rw[aW]|refine P5.mk _ rfl ?_|refine aB pok Tryz.func37 dj ?_|refine HpP.force ?_);conv=>whnf)|(intro t ht;cases t<;>conv=>whnf)
       all_goals first|exact fin rfl|(exfalso;simp at ht;done)|(exfalso;simp at *;omega)|(exfalso;simp_all;done)
      ·skip;have c46:=nY hC ct qad hgw;have c49:=pL (l:=gs.map Gt.own) zt false fF hgw';rw[gN]at c49;generalize nu cw cb gs=eC at c46 c49 hC;refine ae pok Tryz.func5 kQ ?_;conv=>whnf
       repeat' first|((first|refine O6.mk _ rfl ?_|refine O8.mk _ aK ?_|(refine aJ qA ?_)|refine aQ ?_|refine bF rfl ?_|refine lu rfl ?_|refine aa c47 ?_|refine ab c47 ?_|refine fZ ?_|refine aa c49 ?_|refine ab c49 ?_|refine aa c46 ?_|refine ab c46 ?_|refine aa c39 ?_|refine ab c39 ?_|refine aa c16 ?_|refine ab c16 ?_|refine aa c40 ?_|refine ab c40 ?_|refine aa c24 ?_|refine ab c24 ?_|refine aa c18 ?_|refine ab c18 ?_|refine aa c17 ?_|refine ab c17 ?_|refine aa c41 ?_|refine ab c41 ?_|refine aa c42 ?_|refine ab c42 ?_|refine aa c43 ?_|refine ab c43 ?_|refine aa c48 ?_|refine ab c48 ?_|refine aa c23 ?_|refine ab c23 ?_|refine aa c50 ?_|refine ab c50 ?_|refine aa c51 ?_|refine ab c51 ?_|refine aa av ?_|refine ab av ?_|refine aa (aX _) ?_|refine ab (aX _) ?_|refine HpP.force ?_);conv=>whnf)|(intro t ht;cases t<;>conv=>whnf)
       all_goals first|exact fin rfl|(exfalso;simp at ht;done)|(exfalso;simp at *;omega)|(exfalso;simp_all;done)
     ·skip;have hexS:Al W l p=if dg p≠0 then dg p else if p.w≠W\/p.p.tmod 2=1 then 7 else 0:=TH
      rw[if_neg (fun q=>q hB),if_neg hX]at hexS;have c48:=wv (w:=W) (l:=l) (p:=p) hexS false;obtain⟨W2,hW2,_,hpv,hpp⟩:=Am hexS;obtain rfl:W2=W:=qad;have c45:=jY (G:=GG) hs false hpv;rw[FN hs hpv hpp]at c48;generalize cI W2 l p=ex at c45 c48;rw[<- ed,hB]at c43;have hpw:=dr hpv;obtain⟨pw,px,pz,pp⟩:=p;obtain rfl:pw=W2:=hpw;have hpp:pp.tmod 2=0:=hpp;by_cases hC:nu cw cb gs=0
      ·skip;obtain⟨CW,rfl,hCW⟩:∃ n:Nat,cw=n/\(1<=n/\n<=12):=by
        have:=(cj (iy hC).1).1;exact⟨cw.toNat,by omega,by omega⟩
       have c46:=xc hC ct qad hgw;have c49:=yo (w:=CW) (b:=cb) (l:=gs.map Gt.own) zt false fF hgw';rw[iH]at c49;have hZl:(kY CW gs).length=CW:=LD;generalize kY CW gs=Z at c46 c49 hZl;generalize JP (gs.map Gt.own).length=tz at c49;have ht2:=bz (G:=GG) CW Z tz qad qad;have h27Z:=bP (G:=GG) CW CW Z Z false false qad;rw[decide_eq_true ⟨rfl,rfl⟩]at h27Z;rw[hZl]at ht2;have hrZ:∀ ρ:Nat->Nat,some (Blk.ren ρ (ap 4 (Z.map Ps.l)))=some (ap 4 (Z.map Ps.l)):=fun ρ=>by rw[aE]
       refine ae pok Tryz.func5 kQ ?_;conv=>whnf
       repeat' first|((first|refine O6.mk _ VA ?_|refine O8.mk _ aK ?_|(refine aJ qA ?_)|refine aQ ?_|refine bF rfl ?_|refine lu rfl ?_|refine aa c47 ?_|refine ab c47 ?_|refine fZ ?_|rw[hpp]|refine aa c45 ?_|refine ab c45 ?_|refine aY c49 ?_|refine aa c46 ?_|refine ab c46 ?_|refine aa c39 ?_|refine ab c39 ?_|refine aa c16 ?_|refine ab c16 ?_|refine aa c40 ?_|refine ab c40 ?_|refine aa c24 ?_|refine ab c24 ?_|refine aa c18 ?_|refine ab c18 ?_|refine aa c17 ?_|refine ab c17 ?_|refine aa c41 ?_|refine ab c41 ?_|refine aa c42 ?_|refine ab c42 ?_|refine aa c43 ?_|refine ab c43 ?_|refine aa c48 ?_|refine ab c48 ?_|refine aa c23 ?_|refine ab c23 ?_|refine aa c50 ?_|refine ab c50 ?_|refine aa c51 ?_|refine ab c51 ?_|refine aa av ?_|refine ab av ?_|refine aa (aX _) ?_|refine ab (aX _) ?_|refine aH (aM rfl rfl (hrZ _)) ?_|refine aZ ht2 ?_|refine aa h27Z ?_|refine ab h27Z ?_|rw[aW]|refine P5.mk _ rfl ?_|refine aB pok Tryz.func37 dj ?_|refine HpP.force ?_);conv=>whnf)|(intro t ht;cases t<;>conv=>whnf)
       all_goals first|exact fin rfl|(exfalso;simp at ht;done)|(exfalso;simp at *;omega)|(exfalso;simp_all;done)
      ·skip;have c46:=nY hC ct qad hgw;have c49:=pL (l:=gs.map Gt.own) zt false fF hgw';rw[gN]at c49;generalize nu cw cb gs=eC at c46 c49 hC;refine ae pok Tryz.func5 kQ ?_;conv=>whnf
       repeat' first|((first|refine O6.mk _ rfl ?_|refine O8.mk _ aK ?_|(refine aJ qA ?_)|refine aQ ?_|refine bF rfl ?_|refine lu rfl ?_|refine aa c47 ?_|refine ab c47 ?_|refine fZ ?_|rw[hpp]|refine aa c45 ?_|refine ab c45 ?_|refine aa c49 ?_|refine ab c49 ?_|refine aa c46 ?_|refine ab c46 ?_|refine aa c39 ?_|refine ab c39 ?_|refine aa c16 ?_|refine ab c16 ?_|refine aa c40 ?_|refine ab c40 ?_|refine aa c24 ?_|refine ab c24 ?_|refine aa c18 ?_|refine ab c18 ?_|refine aa c17 ?_|refine ab c17 ?_|refine aa c41 ?_|refine ab c41 ?_|refine aa c42 ?_|refine ab c42 ?_|refine aa c43 ?_|refine ab c43 ?_|refine aa c48 ?_|refine ab c48 ?_|refine aa c23 ?_|refine ab c23 ?_|refine aa c50 ?_|refine ab c50 ?_|refine aa c51 ?_|refine ab c51 ?_|refine aa av ?_|refine ab av ?_|refine aa (aX _) ?_|refine ab (aX _) ?_|refine HpP.force ?_);conv=>whnf)|(intro t ht;cases t<;>conv=>whnf)
       all_goals first|exact fin rfl|(exfalso;simp at ht;done)|(exfalso;simp at *;omega)|(exfalso;simp_all;done)
    ·skip;have hexS:Al W l p=if dg p≠0 then dg p else if p.w≠W\/p.p.tmod 2=1 then 7 else 0:=TH
     rw[if_pos hB]at hexS;have c48:=iq (w:=W) (l:=l) (p:=p) qhr false qad;rw[hexS]at c48;rw[<- ed]at c43;generalize dg p=eB at c43 c48 hB;by_cases hC:nu cw cb gs=0
     ·skip;obtain⟨CW,rfl,hCW⟩:∃ n:Nat,cw=n/\(1<=n/\n<=12):=by
       have:=(cj (iy hC).1).1;exact⟨cw.toNat,by omega,by omega⟩
      have c46:=xc hC ct qad hgw;have c49:=yo (w:=CW) (b:=cb) (l:=gs.map Gt.own) zt false fF hgw';rw[iH]at c49;have hZl:(kY CW gs).length=CW:=LD;generalize kY CW gs=Z at c46 c49 hZl;generalize JP (gs.map Gt.own).length=tz at c49;have ht2:=bz (G:=GG) CW Z tz qad qad;have h27Z:=bP (G:=GG) CW CW Z Z false false qad;rw[decide_eq_true ⟨rfl,rfl⟩]at h27Z;rw[hZl]at ht2;have hrZ:∀ ρ:Nat->Nat,some (Blk.ren ρ (ap 4 (Z.map Ps.l)))=some (ap 4 (Z.map Ps.l)):=fun ρ=>by rw[aE]
      refine ae pok Tryz.func5 kQ ?_;conv=>whnf
      repeat' first|((first|refine O6.mk _ VA ?_|refine O8.mk _ aK ?_|(refine aJ qA ?_)|refine aQ ?_|refine bF rfl ?_|refine lu rfl ?_|refine eh hB ?_|refine aa c47 ?_|refine ab c47 ?_|refine fZ ?_|refine aY c49 ?_|refine aa c46 ?_|refine ab c46 ?_|refine aa c39 ?_|refine ab c39 ?_|refine aa c16 ?_|refine ab c16 ?_|refine aa c40 ?_|refine ab c40 ?_|refine aa c24 ?_|refine ab c24 ?_|refine aa c18 ?_|refine ab c18 ?_|refine aa c17 ?_|refine ab c17 ?_|refine aa c41 ?_|refine ab c41 ?_|refine aa c42 ?_|refine ab c42 ?_|refine aa c43 ?_|refine ab c43 ?_|refine aa c48 ?_|refine ab c48 ?_|refine aa c23 ?_|refine ab c23 ?_|refine aa c50 ?_|refine ab c50 ?_|refine aa c51 ?_|refine ab c51 ?_|refine aa av ?_|refine ab av ?_|refine aa (aX _) ?_|refine ab (aX _) ?_|refine aH (aM rfl rfl (hrZ _)) ?_|refine aZ ht2 ?_|refine aa h27Z ?_|refine ab h27Z ?_|rw[aW]|refine P5.mk _ rfl ?_|refine aB pok Tryz.func37 dj ?_|refine HpP.force ?_);conv=>whnf)|(intro t ht;cases t<;>conv=>whnf)
      all_goals first|exact fin rfl|(exfalso;simp at ht;done)|(exfalso;simp at *;omega)|(exfalso;simp_all;done)
     ·skip;have c46:=nY hC ct qad hgw;have c49:=pL (l:=gs.map Gt.own) zt false fF hgw';rw[gN]at c49;generalize nu cw cb gs=eC at c46 c49 hC;refine ae pok Tryz.func5 kQ ?_;conv=>whnf
      repeat' first|((first|refine O6.mk _ rfl ?_|refine O8.mk _ aK ?_|(refine aJ qA ?_)|refine aQ ?_|refine bF rfl ?_|refine lu rfl ?_|refine eh hB ?_|refine aa c47 ?_|refine ab c47 ?_|refine fZ ?_|refine aa c49 ?_|refine ab c49 ?_|refine aa c46 ?_|refine ab c46 ?_|refine aa c39 ?_|refine ab c39 ?_|refine aa c16 ?_|refine ab c16 ?_|refine aa c40 ?_|refine ab c40 ?_|refine aa c24 ?_|refine ab c24 ?_|refine aa c18 ?_|refine ab c18 ?_|refine aa c17 ?_|refine ab c17 ?_|refine aa c41 ?_|refine ab c41 ?_|refine aa c42 ?_|refine ab c42 ?_|refine aa c43 ?_|refine ab c43 ?_|refine aa c48 ?_|refine ab c48 ?_|refine aa c23 ?_|refine ab c23 ?_|refine aa c50 ?_|refine ab c50 ?_|refine aa c51 ?_|refine ab c51 ?_|refine aa av ?_|refine ab av ?_|refine aa (aX _) ?_|refine ab (aX _) ?_|refine HpP.force ?_);conv=>whnf)|(intro t ht;cases t<;>conv=>whnf)
      all_goals first|exact fin rfl|(exfalso;simp at ht;done)|(exfalso;simp at *;omega)|(exfalso;simp_all;done)
  ·skip;have hapE:Ke W l ⟨k,ws,false,b,i⟩=if bH ⟨k,ws,u,b,i⟩ W 0≠0 then bH ⟨k,ws,u,b,i⟩ W 0 else if bV k=true then 0 else 7:=qfr
   rw[if_pos hA]at hapE;have c47:=vO (w:=W) (l:=l) (g:=⟨k,ws,false,b,i⟩) (by rw[hapE];exact hA) false qad hL3;rw[hapE]at c47;generalize bH ⟨k,ws,u,b,i⟩ W 0=eA at c41 c47 hA;by_cases hB:dg p=0
   ·by_cases hX:p.w≠W\/p.p.tmod 2=1
    ·skip;have hexS:Al W l p=if dg p≠0 then dg p else if p.w≠W\/p.p.tmod 2=1 then 7 else 0:=TH
     rw[if_neg (fun q=>q hB),if_pos hX]at hexS;have c48:=iq (w:=W) (l:=l) (p:=p) (by rw[hexS];decide) false qad;rw[hexS]at c48;rw[<- ed,hB]at c43;by_cases hC:nu cw cb gs=0
     ·skip;obtain⟨CW,rfl,hCW⟩:∃ n:Nat,cw=n/\(1<=n/\n<=12):=by
       have:=(cj (iy hC).1).1;exact⟨cw.toNat,by omega,by omega⟩
      have c46:=xc hC ct qad hgw;have c49:=yo (w:=CW) (b:=cb) (l:=gs.map Gt.own) zt false fF hgw';rw[iH]at c49;have hZl:(kY CW gs).length=CW:=LD;generalize kY CW gs=Z at c46 c49 hZl;generalize JP (gs.map Gt.own).length=tz at c49;have ht2:=bz (G:=GG) CW Z tz qad qad;have h27Z:=bP (G:=GG) CW CW Z Z false false qad;rw[decide_eq_true ⟨rfl,rfl⟩]at h27Z;rw[hZl]at ht2;have hrZ:∀ ρ:Nat->Nat,some (Blk.ren ρ (ap 4 (Z.map Ps.l)))=some (ap 4 (Z.map Ps.l)):=fun ρ=>by rw[aE]
      refine ae pok Tryz.func5 kQ ?_;conv=>whnf
      repeat' first|((first|refine O6.mk _ VA ?_|refine O8.mk _ aK ?_|(refine aJ qA ?_)|refine aQ ?_|refine bF rfl ?_|refine lu rfl ?_|refine eh hA ?_|refine aa c47 ?_|refine ab c47 ?_|refine fZ ?_|refine aY c49 ?_|refine aa c46 ?_|refine ab c46 ?_|refine aa c39 ?_|refine ab c39 ?_|refine aa c16 ?_|refine ab c16 ?_|refine aa c40 ?_|refine ab c40 ?_|refine aa c24 ?_|refine ab c24 ?_|refine aa c18 ?_|refine ab c18 ?_|refine aa c17 ?_|refine ab c17 ?_|refine aa c41 ?_|refine ab c41 ?_|refine aa c42 ?_|refine ab c42 ?_|refine aa c43 ?_|refine ab c43 ?_|refine aa c48 ?_|refine ab c48 ?_|refine aa c23 ?_|refine ab c23 ?_|refine aa c50 ?_|refine ab c50 ?_|refine aa c51 ?_|refine ab c51 ?_|refine aa av ?_|refine ab av ?_|refine aa (aX _) ?_|refine ab (aX _) ?_|refine aH (aM rfl rfl (hrZ _)) ?_|refine aZ ht2 ?_|refine aa h27Z ?_|refine ab h27Z ?_|rw[aW]|refine P5.mk _ rfl ?_|refine aB pok Tryz.func37 dj ?_|refine HpP.force ?_);conv=>whnf)|(intro t ht;cases t<;>conv=>whnf)
      all_goals first|exact fin rfl|(exfalso;simp at ht;done)|(exfalso;simp at *;omega)|(exfalso;simp_all;done)
     ·skip;have c46:=nY hC ct qad hgw;have c49:=pL (l:=gs.map Gt.own) zt false fF hgw';rw[gN]at c49;generalize nu cw cb gs=eC at c46 c49 hC;refine ae pok Tryz.func5 kQ ?_;conv=>whnf
      repeat' first|((first|refine O6.mk _ rfl ?_|refine O8.mk _ aK ?_|(refine aJ qA ?_)|refine aQ ?_|refine bF rfl ?_|refine lu rfl ?_|refine eh hA ?_|refine aa c47 ?_|refine ab c47 ?_|refine fZ ?_|refine aa c49 ?_|refine ab c49 ?_|refine aa c46 ?_|refine ab c46 ?_|refine aa c39 ?_|refine ab c39 ?_|refine aa c16 ?_|refine ab c16 ?_|refine aa c40 ?_|refine ab c40 ?_|refine aa c24 ?_|refine ab c24 ?_|refine aa c18 ?_|refine ab c18 ?_|refine aa c17 ?_|refine ab c17 ?_|refine aa c41 ?_|refine ab c41 ?_|refine aa c42 ?_|refine ab c42 ?_|refine aa c43 ?_|refine ab c43 ?_|refine aa c48 ?_|refine ab c48 ?_|refine aa c23 ?_|refine ab c23 ?_|refine aa c50 ?_|refine ab c50 ?_|refine aa c51 ?_|refine ab c51 ?_|refine aa av ?_|refine ab av ?_|refine aa (aX _) ?_|refine ab (aX _) ?_|refine HpP.force ?_);conv=>whnf)|(intro t ht;cases t<;>conv=>whnf)
      all_goals first|exact fin rfl|(exfalso;simp at ht;done)|(exfalso;simp at *;omega)|(exfalso;simp_all;done)
    ·skip;have hexS:Al W l p=if dg p≠0 then dg p else if p.w≠W\/p.p.tmod 2=1 then 7 else 0:=TH
     rw[if_neg (fun q=>q hB),if_neg hX]at hexS;have c48:=wv (w:=W) (l:=l) (p:=p) hexS false;obtain⟨W2,hW2,_,hpv,hpp⟩:=Am hexS;obtain rfl:W2=W:=qad;have c45:=jY (G:=GG) hs false hpv;rw[FN hs hpv hpp]at c48;generalize cI W2 l p=ex at c45 c48;rw[<- ed,hB]at c43;have hpw:=dr hpv;obtain⟨pw,px,pz,pp⟩:=p;obtain rfl:pw=W2:=hpw;have hpp:pp.tmod 2=0:=hpp;by_cases hC:nu cw cb gs=0
     ·skip;obtain⟨CW,rfl,hCW⟩:∃ n:Nat,cw=n/\(1<=n/\n<=12):=by
       have:=(cj (iy hC).1).1;exact⟨cw.toNat,by omega,by omega⟩
      have c46:=xc hC ct qad hgw;have c49:=yo (w:=CW) (b:=cb) (l:=gs.map Gt.own) zt false fF hgw';rw[iH]at c49;have hZl:(kY CW gs).length=CW:=LD;generalize kY CW gs=Z at c46 c49 hZl;generalize JP (gs.map Gt.own).length=tz at c49;have ht2:=bz (G:=GG) CW Z tz qad qad;have h27Z:=bP (G:=GG) CW CW Z Z false false qad;rw[decide_eq_true ⟨rfl,rfl⟩]at h27Z;rw[hZl]at ht2;have hrZ:∀ ρ:Nat->Nat,some (Blk.ren ρ (ap 4 (Z.map Ps.l)))=some (ap 4 (Z.map Ps.l)):=fun ρ=>by rw[aE]
      refine ae pok Tryz.func5 kQ ?_;conv=>whnf
      repeat' first|((first|refine O6.mk _ VA ?_|refine O8.mk _ aK ?_|(refine aJ qA ?_)|refine aQ ?_|refine bF rfl ?_|refine lu rfl ?_|refine eh hA ?_|refine aa c47 ?_|refine ab c47 ?_|refine fZ ?_|rw[hpp]|refine aa c45 ?_|refine ab c45 ?_|refine aY c49 ?_|refine aa c46 ?_|refine ab c46 ?_|refine aa c39 ?_|refine ab c39 ?_|refine aa c16 ?_|refine ab c16 ?_|refine aa c40 ?_|refine ab c40 ?_|refine aa c24 ?_|refine ab c24 ?_|refine aa c18 ?_|refine ab c18 ?_|refine aa c17 ?_|refine ab c17 ?_|refine aa c41 ?_|refine ab c41 ?_|refine aa c42 ?_|refine ab c42 ?_|refine aa c43 ?_|refine ab c43 ?_|refine aa c48 ?_|refine ab c48 ?_|refine aa c23 ?_|refine ab c23 ?_|refine aa c50 ?_|refine ab c50 ?_|refine aa c51 ?_|refine ab c51 ?_|refine aa av ?_|refine ab av ?_|refine aa (aX _) ?_|refine ab (aX _) ?_|refine aH (aM rfl rfl (hrZ _)) ?_|refine aZ ht2 ?_|refine aa h27Z ?_|refine ab h27Z ?_|rw[aW]|refine P5.mk _ rfl ?_|refine aB pok Tryz.func37 dj ?_|refine HpP.force ?_);conv=>whnf)|(intro t ht;cases t<;>conv=>whnf)
      all_goals first|exact fin rfl|(exfalso;simp at ht;done)|(exfalso;simp at *;omega)|(exfalso;simp_all;done)
     ·skip;have c46:=nY hC ct qad hgw;have c49:=pL (l:=gs.map Gt.own) zt false fF hgw';rw[gN]at c49;generalize nu cw cb gs=eC at c46 c49 hC;refine ae pok Tryz.func5 kQ ?_;conv=>whnf
      repeat' first|((first|refine O6.mk _ rfl ?_|refine O8.mk _ aK ?_|(refine aJ qA ?_)|refine aQ ?_|refine bF rfl ?_|refine lu rfl ?_|refine eh hA ?_|refine aa c47 ?_|refine ab c47 ?_|refine fZ ?_|rw[hpp]|refine aa c45 ?_|refine ab c45 ?_|refine aa c49 ?_|refine ab c49 ?_|refine aa c46 ?_|refine ab c46 ?_|refine aa c39 ?_|refine ab c39 ?_|refine aa c16 ?_|refine ab c16 ?_|refine aa c40 ?_|refine ab c40 ?_|refine aa c24 ?_|refine ab c24 ?_|refine aa c18 ?_|refine ab c18 ?_|refine aa c17 ?_|refine ab c17 ?_|refine aa c41 ?_|refine ab c41 ?_|refine aa c42 ?_|refine ab c42 ?_|refine aa c43 ?_|refine ab c43 ?_|refine aa c48 ?_|refine ab c48 ?_|refine aa c23 ?_|refine ab c23 ?_|refine aa c50 ?_|refine ab c50 ?_|refine aa c51 ?_|refine ab c51 ?_|refine aa av ?_|refine ab av ?_|refine aa (aX _) ?_|refine ab (aX _) ?_|refine HpP.force ?_);conv=>whnf)|(intro t ht;cases t<;>conv=>whnf)
      all_goals first|exact fin rfl|(exfalso;simp at ht;done)|(exfalso;simp at *;omega)|(exfalso;simp_all;done)
   ·skip;have hexS:Al W l p=if dg p≠0 then dg p else if p.w≠W\/p.p.tmod 2=1 then 7 else 0:=TH
    rw[if_pos hB]at hexS;have c48:=iq (w:=W) (l:=l) (p:=p) qhr false qad;rw[hexS]at c48;rw[<- ed]at c43;generalize dg p=eB at c43 c48 hB;by_cases hC:nu cw cb gs=0
    ·skip;obtain⟨CW,rfl,hCW⟩:∃ n:Nat,cw=n/\(1<=n/\n<=12):=by
      have:=(cj (iy hC).1).1;exact⟨cw.toNat,by omega,by omega⟩
     have c46:=xc hC ct qad hgw;have c49:=yo (w:=CW) (b:=cb) (l:=gs.map Gt.own) zt false fF hgw';rw[iH]at c49;have hZl:(kY CW gs).length=CW:=LD;generalize kY CW gs=Z at c46 c49 hZl;generalize JP (gs.map Gt.own).length=tz at c49;have ht2:=bz (G:=GG) CW Z tz qad qad;have h27Z:=bP (G:=GG) CW CW Z Z false false qad;rw[decide_eq_true ⟨rfl,rfl⟩]at h27Z;rw[hZl]at ht2;have hrZ:∀ ρ:Nat->Nat,some (Blk.ren ρ (ap 4 (Z.map Ps.l)))=some (ap 4 (Z.map Ps.l)):=fun ρ=>by rw[aE]
     refine ae pok Tryz.func5 kQ ?_;conv=>whnf
     repeat' first|((first|refine O6.mk _ VA ?_|refine O8.mk _ aK ?_|(refine aJ qA ?_)|refine aQ ?_|refine bF rfl ?_|refine lu rfl ?_|refine eh hA ?_|refine eh hB ?_|refine aa c47 ?_|refine ab c47 ?_|refine fZ ?_|refine aY c49 ?_|refine aa c46 ?_|refine ab c46 ?_|refine aa c39 ?_|refine ab c39 ?_|refine aa c16 ?_|refine ab c16 ?_|refine aa c40 ?_|refine ab c40 ?_|refine aa c24 ?_|refine ab c24 ?_|refine aa c18 ?_|refine ab c18 ?_|refine aa c17 ?_|refine ab c17 ?_|refine aa c41 ?_|refine ab c41 ?_|refine aa c42 ?_|refine ab c42 ?_|refine aa c43 ?_|refine ab c43 ?_|refine aa c48 ?_|refine ab c48 ?_|refine aa c23 ?_|refine ab c23 ?_|refine aa c50 ?_|refine ab c50 ?_|refine aa c51 ?_|refine ab c51 ?_|refine aa av ?_|refine ab av ?_|refine aa (aX _) ?_|refine ab (aX _) ?_|refine aH (aM rfl rfl (hrZ _)) ?_|refine aZ ht2 ?_|refine aa h27Z ?_|refine ab h27Z ?_|rw[aW]|refine P5.mk _ rfl ?_|refine aB pok Tryz.func37 dj ?_|refine HpP.force ?_);conv=>whnf)|(intro t ht;cases t<;>conv=>whnf)
     all_goals first|exact fin rfl|(exfalso;simp at ht;done)|(exfalso;simp at *;omega)|(exfalso;simp_all;done)
    ·skip;have c46:=nY hC ct qad hgw;have c49:=pL (l:=gs.map Gt.own) zt false fF hgw';rw[gN]at c49;generalize nu cw cb gs=eC at c46 c49 hC;refine ae pok Tryz.func5 kQ ?_;conv=>whnf
     repeat' first|((first|refine O6.mk _ rfl ?_|refine O8.mk _ aK ?_|(refine aJ qA ?_)|refine aQ ?_|refine bF rfl ?_|refine lu rfl ?_|refine eh hA ?_|refine eh hB ?_|refine aa c47 ?_|refine ab c47 ?_|refine fZ ?_|refine aa c49 ?_|refine ab c49 ?_|refine aa c46 ?_|refine ab c46 ?_|refine aa c39 ?_|refine ab c39 ?_|refine aa c16 ?_|refine ab c16 ?_|refine aa c40 ?_|refine ab c40 ?_|refine aa c24 ?_|refine ab c24 ?_|refine aa c18 ?_|refine ab c18 ?_|refine aa c17 ?_|refine ab c17 ?_|refine aa c41 ?_|refine ab c41 ?_|refine aa c42 ?_|refine ab c42 ?_|refine aa c43 ?_|refine ab c43 ?_|refine aa c48 ?_|refine ab c48 ?_|refine aa c23 ?_|refine ab c23 ?_|refine aa c50 ?_|refine ab c50 ?_|refine aa c51 ?_|refine ab c51 ?_|refine aa av ?_|refine ab av ?_|refine aa (aX _) ?_|refine ab (aX _) ?_|refine HpP.force ?_);conv=>whnf)|(intro t ht;cases t<;>conv=>whnf)
     all_goals first|exact fin rfl|(exfalso;simp at ht;done)|(exfalso;simp at *;omega)|(exfalso;simp_all;done)
 ·have he:bD w l≠0:=hc;have c47:=vO (w:=w) (l:=l) (g:=⟨k,ws,false,b,i⟩) (by unfold Ke;rw[if_pos he];exact he) false qad hL3;have e47:Ke w l ⟨k,ws,false,b,i⟩=bD w l:=by unfold Ke;rw[if_pos he]
  rw[e47]at c47;have c48:=iq (w:=w) (l:=l) (p:=p) (by unfold Al;rw[if_pos he];exact he) false qad;have e48:Al w l p=bD w l:=by unfold Al;rw[if_pos he]
  rw[e48]at c48;clear hc e47 e48;generalize bD w l=e at c17 c47 c48 he;by_cases hC:nu cw cb gs=0
  ·skip;obtain⟨CW,rfl,hCW⟩:∃ n:Nat,cw=n/\(1<=n/\n<=12):=by
    have:=(cj (iy hC).1).1;exact⟨cw.toNat,by omega,by omega⟩
   have c46:=xc hC ct qad hgw;have c49:=yo (w:=CW) (b:=cb) (l:=gs.map Gt.own) zt false fF hgw';rw[iH]at c49;have hZl:(kY CW gs).length=CW:=LD;generalize kY CW gs=Z at c46 c49 hZl;generalize JP (gs.map Gt.own).length=tz at c49;have ht2:=bz (G:=GG) CW Z tz qad qad;have h27Z:=bP (G:=GG) CW CW Z Z false false qad;rw[decide_eq_true ⟨rfl,rfl⟩]at h27Z;rw[hZl]at ht2;have hrZ:∀ ρ:Nat->Nat,some (Blk.ren ρ (ap 4 (Z.map Ps.l)))=some (ap 4 (Z.map Ps.l)):=fun ρ=>by rw[aE]
   refine ae pok Tryz.func5 kQ ?_;conv=>whnf
   repeat' first|((first|refine O6.mk _ VA ?_|refine O8.mk _ aK ?_|(refine aJ qA ?_)|refine aQ ?_|refine bF rfl ?_|refine lu rfl ?_|refine eh he ?_|refine aa c48 ?_|refine ab c48 ?_|refine aa c47 ?_|refine ab c47 ?_|refine fZ ?_|refine aY c49 ?_|refine aa c46 ?_|refine ab c46 ?_|refine aa c39 ?_|refine ab c39 ?_|refine aa c16 ?_|refine ab c16 ?_|refine aa c40 ?_|refine ab c40 ?_|refine aa c24 ?_|refine ab c24 ?_|refine aa c18 ?_|refine ab c18 ?_|refine aa c17 ?_|refine ab c17 ?_|refine aa c23 ?_|refine ab c23 ?_|refine aa c50 ?_|refine ab c50 ?_|refine aa c51 ?_|refine ab c51 ?_|refine aa av ?_|refine ab av ?_|refine aa (aX _) ?_|refine ab (aX _) ?_|refine aH (aM rfl rfl (hrZ _)) ?_|refine aZ ht2 ?_|refine aa h27Z ?_|refine ab h27Z ?_|rw[aW]|refine P5.mk _ rfl ?_|refine aB pok Tryz.func37 dj ?_|refine HpP.force ?_);conv=>whnf)|(intro t ht;cases t<;>conv=>whnf)
   all_goals first|exact fin rfl|(exfalso;simp at ht;done)|(exfalso;simp at *;omega)|(exfalso;simp_all;done)
  ·skip;have c46:=nY hC ct qad hgw;have c49:=pL (l:=gs.map Gt.own) zt false fF hgw';rw[gN]at c49;generalize nu cw cb gs=eC at c46 c49 hC;refine ae pok Tryz.func5 kQ ?_;conv=>whnf
   repeat' first|((first|refine O6.mk _ rfl ?_|refine O8.mk _ aK ?_|(refine aJ qA ?_)|refine aQ ?_|refine bF rfl ?_|refine lu rfl ?_|refine eh he ?_|refine aa c48 ?_|refine ab c48 ?_|refine aa c47 ?_|refine ab c47 ?_|refine fZ ?_|refine aa c49 ?_|refine ab c49 ?_|refine aa c46 ?_|refine ab c46 ?_|refine aa c39 ?_|refine ab c39 ?_|refine aa c16 ?_|refine ab c16 ?_|refine aa c40 ?_|refine ab c40 ?_|refine aa c24 ?_|refine ab c24 ?_|refine aa c18 ?_|refine ab c18 ?_|refine aa c17 ?_|refine ab c17 ?_|refine aa c23 ?_|refine ab c23 ?_|refine aa c50 ?_|refine ab c50 ?_|refine aa c51 ?_|refine ab c51 ?_|refine aa av ?_|refine ab av ?_|refine aa (aX _) ?_|refine ab (aX _) ?_|refine HpP.force ?_);conv=>whnf)|(intro t ht;cases t<;>conv=>whnf)
   all_goals first|exact fin rfl|(exfalso;simp at ht;done)|(exfalso;simp at *;omega)|(exfalso;simp_all;done)
end Go.Tz
namespace Go.Tz
open Go Go.AL Go.Proofs Go.Ma
theorem Yy(w:Int)(l:List Ps)(t:Bool)(cw cb:Int)(gs:List Gt)(ct:Bool)(g:Gt)(p:Ps):PC Pr GG 5 [cf w l t,ei cw cb gs ct,g.d,p.d] (.bool true):=by
 obtain⟨k,ws,u,b,i⟩:=g;by_cases h:l.length<=20/\jm gs=false/\ws.length<=6
 ·exact Sg w l t cw cb gs ct k ws u b i p h.1 h.2.1 h.2.2
 ·have c39:=vr (G:=GG) cw cb gs ct;generalize jm gs=gr at c39 h;refine ae pok Tryz.func5 kQ ?_;conv=>whnf
  repeat' first|((first|refine O6.mk _ rfl ?_|refine O8.mk _ aK ?_|refine aJ ny ?_|fail);conv=>whnf)|(refine cc c39 ?_)|(refine od c39 ?_)|((first|refine aa av ?_|refine ab av ?_|refine HpP.force ?_);conv=>whnf)|(intro t ht;cases t<;>conv=>whnf)
  all_goals first|exact fin rfl|skip
  all_goals (exfalso;simp at *;simp_all;omega)
end Go.Tz
namespace Go.Tz
open Go Go.AL Go.Proofs Go.Ma
abbrev mg(w nm:Nat)(F:FuncId):Blk:=.arr 3 [[.d (iD w),.sl nm 4 0 w w true,.fn F [.ptr 2 3 0 0] []]]
def kn:Code->List (Code×Code)
 | .seq c d=>kn c++kn d
 | .cond _ c d=>kn c++kn d
 | .block _ c=>kn c
 | .scope c=>kn c
 | .rangeFunc _ _ a b=>[(a,b)]
 | _=>[]
noncomputable def LI(f:Func)(i:Nat):Code×Code:=match f.body with
 | some c=>(kn c).getD i (.skip,.skip)
 | none=>(.skip,.skip)
def lY(p:Ps)(rf:Nat->Ps)(a0 m j:Nat):Ps:=if j<m/\j≠a0/\bS p (rf j)=false then bc (rf j) (rf a0) else rf j
section
variable{p:Ps}{rf:Nat->Ps}{a0 m:Nat}
theorem prS_0{j:Nat}:lY p rf a0 0 j=rf j:=by unfold lY;rw[if_neg qad]
theorem ZV:lY p rf a0 m m=rf m:=by unfold lY;rw[if_neg qad]
theorem GA:lY p rf a0 m a0=rf a0:=by unfold lY;rw[if_neg fun h=>h.2.1 rfl]
theorem TC(h1:m≠a0)(h2:bS p (rf m)=false):lY p rf a0 (m+1) m=bc (rf m) (rf a0):=by unfold lY;rw[if_pos ⟨by omega,h1,h2⟩]
theorem Pe(j:Nat):(if j=m then Ps.l (lY p rf a0 (m+1) m) else Ps.l (lY p rf a0 m j))=Ps.l (lY p rf a0 (m+1) j):=by
 by_cases h:j=m
 ·rw[if_pos h,h]
 ·rw[if_neg h];unfold lY;have e:(j<m+1/\j≠a0/\bS p (rf j)=false) ↔ (j<m/\j≠a0/\bS p (rf j)=false):=by constructor<;>(rintro⟨a,b,c⟩;exact⟨by omega,b,c⟩)
  simp only[e]
theorem DY(h:bS p (rf m)=true\/m=a0):lY p rf a0 (m+1)=lY p rf a0 m:=by
 funext j;unfold lY;by_cases hj:j=m
 ·subst hj;rw[if_neg,if_neg qad];rintro⟨_,h2,h3⟩;rcases h with h|h
  ·rw[h]at h3;cases h3
  ·exact h2 h
 ·have e:(j<m+1/\j≠a0/\bS p (rf j)=false) ↔ (j<m/\j≠a0/\bS p (rf j)=false):=by constructor<;>(rintro⟨a,b,c⟩;exact⟨by omega,b,c⟩)
  simp only[e]
end
theorem im{a:Int}{k:Bool->Prop}(h:k false):∀ t,(a != a)=t->k t:=fun t e=>by
 have e2:false=t:=(show(a != a)=false by simp).symm.trans e;exact e2 ▸ h
theorem mj{a b:Int}(hne:a≠b){k:Bool->Prop}(h:k true):∀ t,(a != b)=t->k t:=fun t e=>by
 have e2:true=t:=(show(a != b)=true by simpa using hne).symm.trans e;exact e2 ▸ h
theorem nQ:aq Tryz.f136=true:=ar
theorem Dz{w n o:Nat}(hw:1<=w/\w<=12)(hn:n<w)(ho:o<=1)(F:FuncId){rf:Nat->Ps}{a0:Nat}{R:List Nat}(hpv:Vl w (zP w n o))(hvl:∀ j,j<w->Vl w (rf j))(hA:fG (zP w n o) rf w=a0::R)
  (hx2:PC Pr GG 107 [.agg [iD w,.sl ((List.range w).map fun j=>Ps.l (rf j)) true],(zP w n o).d] (iD 0)) :
  bq Pr GG 136 [.ptr 2 3 0 0,.d (iD n),.d (iD o)] [(2,some (mg w 3 F)),(3,some (ap 4 ((List.range w).map fun j=>Ps.l (rf j))))] 12 fun v H n'=>v = .d (.tup [iD 1,iD 0])/\H.get 2=some (mg w 12 F)/\H.get 12=some (ap 4 ((af (bM w (eT rf (zP w n o) a0 R)) (2*w)).map Ps.l))/\n'=13:=by
 have hsh:cU .i64 1 (n:Int)=((2^n:Nat):Int):=cq qad;have him:fH .i64 2 (o:Int)=((2*o:Nat):Int):=fk (a:=2) qad;have hPv:=Bh hw.2 hvl hpv (jQ hA).1 (R:=R);have hcan:=lx (G:=GG) hw (bM w (eT rf (zP w n o) a0 R)) true fF (fun q hq=>by
  obtain⟨j,hj,rfl⟩:=bm.1 hq;exact hPv j (cJ.1 hj))
 obtain⟨sp1,sp2,sp3,sp4⟩:=jQ hA;have hno:(∀ j,j<w->bS (zP w n o) (rf j)=true)->False:=fun h=>by
  have:=h a0 sp1;rw[sp2]at this;cases this
 have hcan2:PO Pr GG 105 [.agg [iD w,.sl ((List.range w).map fun j=>Ps.l (eT rf (zP w n o) a0 R j)) true]] (.agg [.d (iD w),.sl 0 4 0 w w true]) [(0,some (ap 4 ((af (bM w (eT rf (zP w n o) a0 R)) (2*w)).map Ps.l)))] 1:=by
  have eR:(bM w (eT rf (zP w n o) a0 R)).map Ps.l=(List.range w).map fun j=>Ps.l (eT rf (zP w n o) a0 R j):=by unfold bM;rw[pU];rfl
  have eL:(bM w (eT rf (zP w n o) a0 R)).length=w:=aR;rw[<- eR];rw[eL]at hcan;exact hcan
 clear hcan;have hRm:∀ j,j∈R ↔ j<w/\j≠a0/\bS (zP w n o) (rf j)=false:=fun j=>by
  have hm:j∈a0::R ↔ j<w/\bS (zP w n o) (rf j)=false:=by
   rw[<- hA];unfold fG;rw[VY,cJ];simp
  have hnd:(a0::R).Nodup:=qei;have haR:a0 ∉ R:=(I7.1 hnd).1;constructor
  ·exact qjq
  ·exact qjl
 have hB0:bf Tryz.f136.ntmps (LI Tryz.f136 0).2=true:=ar;have hB1:bf Tryz.f136.ntmps (LI Tryz.f136 1).2=true:=ar;refine bk (bi pok Tryz.func136 nQ (K:=fun v H m=>v = .d (.tup [iD 1,iD 0])/\H.get 2=some (mg w 24 F)/\H.get 24=some (ap 4 ((af (bM w (eT rf (zP w n o) a0 R)) (2*w)).map Ps.l))) ?_) ?_
 ·conv=>whnf
  repeat' first|((first|refine O6.mk _ (by first|rfl|exact ja rfl aR) ?_|refine O8.mk _ aK ?_|refine aJ ci ?_|rw[hsh]|rw[him]|refine aH (l:=[3]) (aM rfl rfl (show _=some (ap 4 ((List.range w).map fun j=>Ps.l (rf j))) from rfl)) ?_|refine ab hx2 ?_|refine bF rfl ?_|refine HpP.force ?_);conv=>whnf)
  refine aB pok Tryz.func195 vX ?_;conv=>whnf
  skip;refine aB pok Tryz.func247 vY ?_;conv=>whnf
  repeat' first|(refine O6.mk _ rfl ?_;conv=>whnf)
  refine ax pok (fun i=>⟨[(0,.yld 18),(4,.d (.fn 114 [.agg [iD w,iD 0,iD ((2^n:Nat):Int),iD ((2*o:Nat):Int)]] [])),(14,.sl 3 4 0 w w true),(15,.d (iD w)),(16,.d (iD i))],[(2,some (mg w 3 F)),(3,some (ap 4 ((List.range w).map fun j=>Ps.l (rf j)))),(12,some (.arr 1 [[.ptr 2 3 0 0]])),(13,some (.arr 4 [[.d (iD w),.d (iD 0),.d (iD ((2^n:Nat):Int)),.d (iD ((2*o:Nat):Int))]])),(14,some (.arr 1 [[.d (iD (-1))]])),(15,some (.arr 1 [[.ptr 2 3 0 0]])),(16,some (.arr 4 [[.d (iD w),.d (iD 0),.d (iD ((2^n:Nat):Int)),.d (iD ((2*o:Nat):Int))]])),(17,some (.raw (.deferred (some [])))),(18,some (.lp [(34,.fn 247 [] [.ptr 16 4 0 0,.ptr 15 1 0 0]),(33,.d (.agg [iD w,iD 0,iD ((2^n:Nat):Int),iD ((2*o:Nat):Int)])),(32,.ptr 2 3 0 0),(9,.ptr 14 1 0 0),(30,.d (.bool false)),(31,.d (.bool false)),(28,.d (.bool false)),(29,.d (.bool false)),(27,.d (iD 0)),(26,.d (.agg [iD w,iD 0,iD ((2^n:Nat):Int),iD ((2*o:Nat):Int)])),(25,.agg [.d (iD w),.sl 3 4 0 w w true]),(24,.ptr 2 3 0 0),(23,.ptr 2 3 0 0),(22,.ptr 2 3 0 0),(8,.ptr 13 4 0 0),(21,.d (.agg [iD w,iD 0,iD ((2^n:Nat):Int),iD ((2*o:Nat):Int)])),(20,.d (iD ((2*o:Nat):Int))),(19,.d (iD o)),(18,.d (iD ((2^n:Nat):Int))),(17,.d (iD n)),(16,.d (iD w)),(15,.ptr 2 3 0 0),(14,.ptr 2 3 0 0),(13,.ptr 2 3 0 0),(12,.ptr 2 3 0 0),(7,.d (iD 0)),(6,.d (iD 0)),(3,.ptr 12 1 0 0),(0,.ptr 2 3 0 0),(1,.d (iD n)),(2,.d (iD o))] Tryz.f136.ntmps #[35] (LI Tryz.f136 0).1 (LI Tryz.f136 0).2 .ready none 17))],19⟩) (w) (fun i=>∀ j,j<i->bS (zP w n o) (rf j)=true) qad ?_ ar ?_ ?_
  ·refine ah cW ?_ ?_ trivial
   ·exact gn
   ·exact VB
  ·intro i A_i h_i I_i N_i;have e_i:aD .i64 (i:Int) 1=((i+1:Nat):Int):=ak eH;have hc:=sp (G:=GG) hw hpv (hvl i h_i);cases hb:bS (zP w n o) (rf i) with
   | true =>
    rw[hb]at hc;conv=>whnf
    repeat (refine O6.mk _ rfl ?_;conv=>whnf)
    intro t ht;cases t
    ·exact bu
    conv=>whnf
    repeat' first|((first|refine O6.mk _ qdq ?_|refine O8.mk _ aK ?_|refine aJ ci ?_|refine aa hc ?_|refine HpP.force ?_);conv=>whnf)
    refine N_i _ ?_ ?_
    ·exact qeu
    ·refine ah cW ?_ ?_ trivial
     ·exact Ch
     ·exact VB
   | false =>
    rw[hb]at hc;have hia:i=a0:=by
     rcases Ra i a0 with q|q|q
     ·have:=sp3 i q;rw[hb]at this;cases this
     ·exact q
     ·have:=I_i a0 q;rw[sp2]at this;cases this
    conv=>whnf
    repeat (refine O6.mk _ rfl ?_;conv=>whnf)
    intro t ht;cases t
    ·exact bu
    conv=>whnf
    repeat' first|((first|refine O6.mk _ qdq ?_|refine O8.mk _ aK ?_|refine aJ ci ?_|refine aa hc ?_|refine HpP.force ?_);conv=>whnf)
    refine cv pok ?_;conv=>whnf
    repeat' first|((first|refine O6.mk _ rfl ?_|refine O8.mk _ aK ?_|refine HpP.force ?_);conv=>whnf)
    refine aB pok Tryz.func195 vX ?_;conv=>whnf
    skip;refine aB pok Tryz.func247 vY ?_;conv=>whnf
    repeat' first|(refine O6.mk _ rfl ?_;conv=>whnf)
    refine ax pok (fun m=>⟨[(0,.yld 23),(4,.d (.fn 114 [.agg [iD w,iD 0,iD ((2^n:Nat):Int),iD ((2*o:Nat):Int)]] [])),(14,.sl 3 4 0 w w true),(15,.d (iD w)),(16,.d (iD m))],[(2,some (mg w 3 F)),(3,some (ap 4 ((List.range w).map fun j=>Ps.l (lY (zP w n o) rf a0 m j)))),(12,some (.arr 1 [[.ptr 2 3 0 0]])),(13,some (.arr 4 [[.d (iD w),.d (iD 0),.d (iD ((2^n:Nat):Int)),.d (iD ((2*o:Nat):Int))]])),(14,some (.arr 1 [[.d (iD a0)]])),(17,some (.raw (.deferred (some [])))),(20,some (.arr 1 [[.ptr 2 3 0 0]])),(21,some (.arr 4 [[.d (iD w),.d (iD 0),.d (iD ((2^n:Nat):Int)),.d (iD ((2*o:Nat):Int))]])),(22,some (.raw (.deferred (some [])))),(23,some (.lp [(39,.fn 247 [] [.ptr 21 4 0 0,.ptr 20 1 0 0]),(38,.d (.agg [iD w,iD 0,iD ((2^n:Nat):Int),iD ((2*o:Nat):Int)])),(37,.ptr 2 3 0 0),(34,.fn 247 [] [.ptr 16 4 0 0,.ptr 15 1 0 0]),(33,.d (.agg [iD w,iD 0,iD ((2^n:Nat):Int),iD ((2*o:Nat):Int)])),(32,.ptr 2 3 0 0),(9,.ptr 14 1 0 0),(30,.d (.bool false)),(31,.d (.bool false)),(28,.d (.bool false)),(29,.d (.bool false)),(27,.d (iD 0)),(26,.d (.agg [iD w,iD 0,iD ((2^n:Nat):Int),iD ((2*o:Nat):Int)])),(25,.agg [.d (iD w),.sl 3 4 0 w w true]),(24,.ptr 2 3 0 0),(23,.ptr 2 3 0 0),(22,.ptr 2 3 0 0),(8,.ptr 13 4 0 0),(21,.d (.agg [iD w,iD 0,iD ((2^n:Nat):Int),iD ((2*o:Nat):Int)])),(20,.d (iD ((2*o:Nat):Int))),(19,.d (iD o)),(18,.d (iD ((2^n:Nat):Int))),(17,.d (iD n)),(16,.d (iD w)),(15,.ptr 2 3 0 0),(14,.ptr 2 3 0 0),(13,.ptr 2 3 0 0),(12,.ptr 2 3 0 0),(7,.d (iD 0)),(6,.d (iD 0)),(3,.ptr 12 1 0 0),(0,.ptr 2 3 0 0),(1,.d (iD n)),(2,.d (iD o))] Tryz.f136.ntmps #[40] (LI Tryz.f136 1).1 (LI Tryz.f136 1).2 .ready none 22))],24⟩) (w) (fun _=>True) (trivial) ?_ ar ?_ ?_
    ·refine ah cW ?_ ?_ trivial
     ·exact gn
     ·exact qb8
    ·exact qhy
    ·intro A_last I_last;have hfin:∀ j,(if j=a0 then [iD w,iD 0,iD ((2^n:Nat):Int),iD ((2*o:Nat):Int)] else Ps.l (lY (zP w n o) rf a0 w j))=Ps.l (eT rf (zP w n o) a0 R j):=fun j=>by
      unfold eT kC lY;by_cases h:j=a0
      ·rw[if_pos h,if_pos h];rfl
      ·exact qi9
     have hgA:(fun j=>Ps.l (lY (zP w n o) rf a0 w j)) a0=Ps.l (rf a0):=by dsimp only;rw[GA]
     generalize lY (zP w n o) rf a0 w=g at hfin hgA;generalize eT rf (zP w n o) a0 R=g' at hfin hcan2⊢;conv=>whnf
     repeat (refine O6.mk _ rfl ?_;conv=>whnf)
     intro t ht;cases t;rotate_left
     ·exact bu
     conv=>whnf
     repeat' first|((first|refine O6.mk _ qfj ?_|refine O8.mk _ qc3 ?_|refine aJ yd ?_|refine aH (l:=[3]) (aM rfl rfl (show _=some (ap 4 ((List.range w).map fun j=>Ps.l (g' j))) from congrArg some (ee hfin))) ?_|refine aZ hcan2 ?_|rw[aW]|refine P5.mk _ rfl ?_|refine HpP.force ?_);conv=>whnf)
     refine fin ⟨rfl,rfl,?_⟩;show some (Blk.ren _ (ap 4 _))=_;rw[aE]
  ·intro A_last I_last;exact(hno I_last).elim
 ·exact qie
end Go.Tz
namespace Go.Tz
open Go Go.AL Go.Proofs Go.Ma
abbrev mK(w:Nat)(F:FuncId)(v:AV)(nm:Nat)(R:List Ps):AV->AHeap->Nat->Prop:=fun v' H n'=>v'=v/\H.get 2=some (mg w nm F)/\H.get nm=some (ap 4 (R.map Ps.l))/\n'=13
abbrev mA(w:Nat)(F:FuncId)(L:List Ps):AHeap:=[(2,some (mg w 3 F)),(3,some (ap 4 (L.map Ps.l)))]
abbrev rV(n e:Int):AV:=.d (.tup [iD n,iD e])
theorem uw{w n o:Nat}{L:List Ps}(hs:SOk w L)(hn:n<w)(ho:o<=1)(F:FuncId){e r:Int}(he:nk L (zP w n o)=e)(h:(e=1/\r=0)\/(e = -1/\r=6)) :
  bq Pr GG 136 [.ptr 2 3 0 0,.d (iD n),.d (iD o)] (mA w F L) 12 (mK w F (rV 0 r) 3 L):=by
 have hlen:=hs.len;have hhi:=hs.hi;have hpv:=kN hn ho;have hx:=gh hs true hpv;rw[he]at hx;have hsh:cU .i64 1 (n:Int)=((2^n:Nat):Int):=cq qad;have him:fH .i64 2 (o:Int)=((2*o:Nat):Int):=fk (a:=2) qad;have hx2:PC Pr GG 107 [.agg [iD w,.sl (L.map Ps.l) true],(zP w n o).d] (iD e):=hx;clear he hx;rcases h with⟨rfl,rfl⟩|⟨rfl,rfl⟩
 ·refine bk (bi pok Tryz.func136 nQ (K:=fun v H m=>v=rV 0 0/\H.get 2=some (mg w 3 F)/\H.get 3=some (ap 4 (L.map Ps.l))) ?_) ?_
  ·conv=>whnf
   repeat' first|((first|refine O6.mk _ qcl ?_|refine O8.mk _ aK ?_|refine aJ ci ?_|rw[hsh]|rw[him]|refine aH (l:=[3]) (aM rfl rfl (show _=some (ap 4 (L.map Ps.l)) from rfl)) ?_|refine ab hx2 ?_|refine aQ ?_|refine HpP.force ?_);conv=>whnf)
   exact fin ⟨rfl,rfl,rfl⟩
  ·rintro v H m ⟨rfl,h2,h3⟩;refine⟨rV 0 0,mA w F L,13,?_,rfl,rfl,rfl,rfl⟩;first|refine aO [(2,2),(3,3)] ?_ ?_ ?_ trivial|refine aI [(2,2),(3,3)] rfl rfl ?_ ?_ ?_ trivial
   ·exact gn
   ·exact F8
   ·exact iI
 ·refine bk (bi pok Tryz.func136 nQ (K:=fun v H m=>v=rV 0 6/\H.get 2=some (mg w 3 F)/\H.get 3=some (ap 4 (L.map Ps.l))) ?_) ?_
  ·conv=>whnf
   repeat' first|((first|refine O6.mk _ qcl ?_|refine O8.mk _ aK ?_|refine aJ ci ?_|rw[hsh]|rw[him]|refine aH (l:=[3]) (aM rfl rfl (show _=some (ap 4 (L.map Ps.l)) from rfl)) ?_|refine ab hx2 ?_|refine aQ ?_|refine bF rfl ?_|refine HpP.force ?_);conv=>whnf)
   exact fin ⟨rfl,rfl,rfl⟩
  ·rintro v H m ⟨rfl,h2,h3⟩;refine⟨rV 0 6,mA w F L,13,?_,rfl,rfl,rfl,rfl⟩;first|refine aO [(2,2),(3,3)] ?_ ?_ ?_ trivial|refine aI [(2,2),(3,3)] rfl rfl ?_ ?_ ?_ trivial
   ·exact gn
   ·exact F8
   ·exact iI
theorem DA{w n o:Nat}{L:List Ps}(hs:SOk w L)(hn:n<w)(ho:o<=1)(F:FuncId){a0:Nat}{R:List Nat}(he:nk L (zP w n o)=0)(hA:fG (zP w n o) (fun j=>L.getD j Ps.z0) w=a0::R) :
  bq Pr GG 136 [.ptr 2 3 0 0,.d (iD n),.d (iD o)] (mA w F L) 12 (mK w F (rV 1 0) 12 (af (bM w (eT (fun j=>L.getD j Ps.z0) (zP w n o) a0 R)) (2*w))):=by
 have hlen:=hs.len;have hpv:=kN hn ho;have hx:=gh hs true hpv;rw[he]at hx;have hvl:∀ j,j<w->Vl w (L.getD j Ps.z0):=fun j hj=>by
  rw[jI,ew (by rw[hlen];exact hj),Hw];exact hs.vl _ (ey _)
 have hLm:L.map Ps.l=(List.range w).map fun j=>Ps.l ((fun j=>L.getD j Ps.z0) j):=by
  have:=pg L hlen;conv=>lhs;rw[<- this]
  unfold bM;rw[pU];rfl
 have hx2:PC Pr GG 107 [.agg [iD w,.sl (L.map Ps.l) true],(zP w n o).d] (iD 0):=hx;unfold mA;rw[hLm]at hx2⊢;exact Dz ⟨hs.lo,hs.hi⟩ hn ho F hpv hvl hA hx2
structure WC (f:FuncId) (args:List AV) (w:Nat) (F:FuncId) (L:List Ps) (v:AV) (nm:Nat) (R:List Ps):Prop where
 fn:jw Pr f
 call:bq Pr GG f args (mA w F L) 12 (mK w F v nm R)
theorem jO{f:FuncId}{args:List AV}{w nm nx:Nat}{F:FuncId}{L R:List Ps}{v:AV}{H:AHeap}{k:AV->AHeap->Nat->Prop}(h:WC f args w F L v nm R)(hn:nx<=12)
  (h2:H.get 2=some (mg w 3 F)) (h3:H.get 3=some (ap 4 (L.map Ps.l))) (hk:k v ((2,some (mg w nm F))::(nm,some (ap 4 (R.map Ps.l)))::AHeap.del H 3) 13):P3 Pr GG f args H nx k:=by
 refine⟨h.fn,iO h.call hn (fun m b hg=>?_) ?_⟩
 ·exact qjb
 ·rintro v' H1 n' ⟨rfl,g2,g3,rfl⟩;refine⟨_,fun m b hg=>?_,hk⟩;rw[bB,bB]at hg;by_cases e2:m=2
  ·exact qds
  ·rw[if_neg e2]at hg;by_cases e3:m=nm
   ·exact qdt
   ·rw[if_neg e3,dD]at hg;by_cases e4:m=3
    ·exact qgj
    ·exact qih
theorem Mc{H:AHeap}{v1 v2 v3 v4:AV}{d1 d2 d3 d4:D}(h1:AsD H v1 d1)(h2:AsD H v2 d2)(h3:AsD H v3 d3)(h4:AsD H v4 d4):AsD H (.agg [v1,v2,v3,v4]) (.agg [d1,d2,d3,d4]):=by
 refine .agg _ _ rfl fun j v d hv hd=>?_
 match j,hv,hd with
 | 0,hv,hd=>simp at hv hd;subst hv hd;exact h1
 | 1,hv,hd=>simp at hv hd;subst hv hd;exact h2
 | 2,hv,hd=>simp at hv hd;subst hv hd;exact h3
 | 3,hv,hd=>simp at hv hd;subst hv hd;exact h4
 | j+4,hv,_=>simp at hv
theorem KJ{f:FuncId}{a c b i x:D}{nm sz N m:Nat}{t:Bool}{es:List (List D)}{v:AV}{M:AHeap}{n:Nat}{H:AHeap}{nx:Nat}{k:AV->AHeap->Nat->Prop}(h:PO Pr GG f [.agg [a,.sl es t],.agg [c,.sl [[x]] true,b,i]] v M n)(hg:H.get nm=some (ap sz es))(hm:H.get m=some (.arr 1 [[.d x]]))(hne:nm≠m)(hN:N=es.length)
  (hk:k (v.ren (· + nx)) (M.shift nx++gF [nm,m] H) (nx+n)):P3 Pr GG f [.agg [.d a,.sl nm sz 0 N N t],.agg [.d c,.sl m 1 0 1 1 true,.d b,.d i]] H nx k:=by
 have g1:AHeap.get [(nm,some (ap sz es)),(m,some (ap 1 [[x]]))] nm=some (ap sz es):=ao _ _ _;have g2:AHeap.get [(nm,some (ap sz es)),(m,some (ap 1 [[x]]))] m=some (ap 1 [[x]]):=by rw[ai _ _ (Ne.symm hne),ao]
 refine⟨h.fn,jP (HL:=[(nm,some (ap sz es)),(m,some (ap 1 [[x]]))]) (L:=[nm,m]) (fc h.call ?_) rfl (fun q bl hq=>?_) (fun j u d h1 h2=>?_)⟩
 ·rintro v' N' m' ⟨rfl,rfl,rfl⟩;exact hk
 ·rw[bB,bB]at hq;by_cases e1:q=nm
  ·rw[if_pos e1]at hq;exact⟨by simp[e1],by rw[e1,hg,hq]⟩
  ·rw[if_neg e1]at hq;by_cases e2:q=m
   ·rw[if_pos e2]at hq;refine⟨by simp[e2],?_⟩;rw[e2,hm,<- hq];rfl
   ·rw[if_neg e2]at hq;cases hq
 ·match j,h1,h2 with
  | 0,h1,h2 =>
   simp at h1 h2;subst h1 h2;exact qK (.d _) (fR g1 hN)
  | 1,h1,h2 =>
   simp at h1 h2;subst h1 h2;exact Mc (.d _) (fR g2 rfl) (.d _) (.d _)
  | j+2,h1,_=>simp at h1
def xG(n:Nat):Gt:=⟨1,[(n:Int)],true,0,0⟩
theorem uC{w n:Nat}(hn:n<w):bH (xG n) w 0=0/\bV (xG n).k=true:=by
 refine⟨?_,rfl⟩;unfold bH xG;simp only;rw[if_neg qaj,if_neg (by simp[uf]),if_neg ?_,if_neg ?_]
 ·rfl
 ·simp[Nk,pG]
 ·rw[OL]
  ·exact aR
  ·intro m hm;rw[mb.1 hm];omega
end Go.Tz
namespace Go.Tz
open Go Go.AL Go.Proofs Go.Ma
theorem vW:aq Tryz.f137=true:=ar
theorem tA{w n o:Nat}{L M:List Ps}{F:FuncId}{nm:Nat}{c x:Int}(hM:WC 136 [.ptr 2 3 0 0,.d (iD n),.d (iD o)] w F L (rV c x) nm M)(hnm:nm=3\/nm=12)(h:(x=6)\/(x=0/\o=0)) :
  WC 137 [.ptr 2 3 0 0,.d (iD n),.d (iD o)] w F L (rV c x) nm M:=by
 refine⟨bg Tryz.func137 vW,?_⟩;rcases hnm with rfl|rfl
 ·refine bk (bi pok Tryz.func137 vW (K:=fun v H m=>v=rV c x/\H.get 2=some (mg w 3 F)/\H.get 3=some (ap 4 (M.map Ps.l))) ?_) ?_
  ·exact qim
  ·rintro v H m ⟨rfl,h2,h3⟩;refine⟨rV c x,mA w F M,13,?_,rfl,rfl,rfl,rfl⟩;first|refine aO [(2,2),(3,3)] ?_ ?_ ?_ trivial|refine aI [(2,2),(3,3)] rfl rfl ?_ ?_ ?_ trivial
   ·exact gn
   ·exact F8
   ·exact iI
 ·refine bk (bi pok Tryz.func137 vW (K:=fun v H m=>v=rV c x/\H.get 2=some (mg w 12 F)/\H.get 12=some (ap 4 (M.map Ps.l))) ?_) ?_
  ·exact qim
  ·rintro v H m ⟨rfl,h2,h3⟩;refine⟨rV c x,[(2,some (mg w 12 F)),(12,some (ap 4 (M.map Ps.l)))],13,?_,rfl,rfl,rfl,rfl⟩;first|refine aO [(2,2),(12,12)] ?_ ?_ ?_ trivial|refine aI [(2,2),(12,12)] rfl rfl ?_ ?_ ?_ trivial
   ·exact gn
   ·exact F8
   ·exact iI
theorem zw{w n:Nat}{L M:List Ps}{F:FuncId}{nm:Nat}{c:Int}(hw:1<=w/\w<=12)(hn:n<w)(hM:WC 136 [.ptr 2 3 0 0,.d (iD n),.d (iD 1)] w F L (rV c 0) nm M)(hnm:nm=3\/nm=12)(hlen:M.length=w)(hv:∀ q,q∈M->Vl w q) :
  WC 137 [.ptr 2 3 0 0,.d (iD n),.d (iD 1)] w F L (rV c 0) 12 (dF w (xG n) M):=by
 refine⟨bg Tryz.func137 vW,?_⟩;have ha:=mi (G:=GG) hw (i:=0) (uC hn).1 (uC hn).2 M true qad hv;have e:dF w ⟨1,[(n:Int)],true,0,0⟩ M=dF w (xG n) M:=rfl;have ha:PO Pr GG 125 [.agg [iD w,.sl (M.map Ps.l) true],.agg [iD 1,.sl [[iD n]] true,iD 0,iD 0]] (.agg [.d (iD w),.sl 0 4 0 w w true]) [(0,some (ap 4 ((dF w (xG n) M).map Ps.l)))] 1:=by
  rw[hlen]at ha;exact ha
 have hml:w=(M.map Ps.l).length:=qgn;generalize dF w (xG n) M=Q at ha⊢;rcases hnm with rfl|rfl
 ·exact qh3
 ·exact qh3
end Go.Tz
namespace Go.Tz
open Go Go.AL Go.Proofs Go.Ma
abbrev wA(n o:Nat):List AV:=[.ptr 2 3 0 0,.d (iD n),.d (iD o)]
theorem Dy{w n o:Nat}{l r:List Ps}(h:SOk w l)(h':SOk w r)(hg:gz (r.map nf) (l.map nf))(hn:n<w)(ho:o<=1)(F:FuncId) :
  (cI w l (zP w n o)=1/\WC 136 (wA n o) w F r (rV 0 0) 3 r)\/(cI w l (zP w n o) = -1/\WC 136 (wA n o) w F r (rV 0 6) 3 r) ∨
  (cI w l (zP w n o)=0/\SOk w (dz (zP w n o) l)/\WC 136 (wA n o) w F r (rV 1 0) 12 (af (dz (zP w n o) l) (2*w))):=by
 have hpv:=kN hn ho;have hok:=Fh h.hi hn ho;obtain⟨e1,e2⟩:=Jh h h' hg hpv hok;have hf:=bg Tryz.func136 nQ;rcases iV (kE h hpv hok) with⟨a,_⟩|⟨a,_⟩|⟨a,_⟩
 ·exact .inl ⟨a,hf,uw h' hn ho F (e1.trans a) (.inl ⟨rfl,rfl⟩)⟩
 ·exact .inr (.inl ⟨a,hf,uw h' hn ho F (e1.trans a) (.inr ⟨rfl,rfl⟩)⟩)
 ·obtain⟨b,a0,R,hA,_,hR⟩:=e2 a;refine .inr (.inr ⟨a,b,hf,?_⟩);rw[<- hR];exact DA h' hn ho F (e1.trans a) hA
theorem TR{w n o:Nat}{l r:List Ps}(h:SOk w l)(h':SOk w r)(hg:gz (r.map nf) (l.map nf))(hn:n<w)(ho:o<=1)(F:FuncId) :
  (cI w l (zP w n o)=1 /\ ∃ nm,(nm=3\/nm=12)/\WC 137 (wA n o) w F r (rV 0 0) nm (if o=1 then dF w (xG n) r else r))\/(cI w l (zP w n o) = -1/\WC 137 (wA n o) w F r (rV 0 6) 3 r) ∨
  (cI w l (zP w n o)=0/\SOk w (dz (zP w n o) l)/\WC 137 (wA n o) w F r (rV 1 0) 12 (if o=1 then dF w (xG n) (af (dz (zP w n o) l) (2*w)) else af (dz (zP w n o) l) (2*w))):=by
 have hw:1<=w/\w<=12:=⟨h.lo,h.hi⟩
 have h01:o=0\/o=1:=qad;rcases Dy h h' hg hn ho F with⟨a,b⟩|⟨a,b⟩|⟨a,s,b⟩
 ·refine .inl ⟨a,?_⟩;rcases h01 with rfl|rfl
  ·exact⟨3,.inl rfl,tA b (.inl rfl) (.inr ⟨rfl,rfl⟩)⟩
  ·exact⟨12,.inr rfl,zw hw hn b (.inl rfl) h'.len h'.vl⟩
 ·exact .inr (.inl ⟨a,tA b (.inl rfl) (.inl rfl)⟩)
 ·refine .inr (.inr ⟨a,s,?_⟩);have hS:=(bK s).1;rcases h01 with rfl|rfl
  ·exact tA b (.inr rfl) (.inr ⟨rfl,rfl⟩)
  ·exact zw hw hn b (.inr rfl) hS.len hS.vl
theorem sT:aq Tryz.f128=true:=ar
abbrev Gv(w:Nat)(c:Int):AV:=.tup [.agg [.d (iD w),.sl 0 4 0 w w true],.d (iD c),.d (iD 0)]
theorem rg{w n o:Nat}{l R:List Ps}(t:Bool)(hs:SOk w l)(hn:n<w)(ho:o<=1){f:FuncId}{rs:Bool}(hf:(f=136/\rs=false)\/(f=137/\rs=true)){c:Int}{nm:Nat}(hnm:nm=3\/nm=12)
  (hM:WC f (wA n o) w f (af l (2*w)) (rV c 0) nm R):PO Pr GG 128 [cf w l t,iD n,iD o,.bool rs] (Gv w c) [(0,some (ap 4 (R.map Ps.l)))] 1:=by
 have c1:=cT w l t (dE hs);rw[kZ hs]at c1;have c2:=lJ (G:=GG) ⟨hs.lo,hs.hi⟩ l t (dE hs) hs.vl;rw[hs.len]at c2;generalize af l (2*w)=L at c2 hM;refine⟨bg Tryz.func128 sT,bk (K:=fun v H _=>v = .tup [.agg [.d (iD w),.sl nm 4 0 w w true],.d (iD c),.d (iD 0)]/\H.get nm=some (ap 4 (R.map Ps.l))) (bi pok Tryz.func128 sT ?_) ?_⟩
 ·conv=>whnf
  rcases hf with⟨rfl,rfl⟩|⟨rfl,rfl⟩<;>rcases hnm with rfl|rfl
  all_goals
   repeat' first|((first|refine O6.mk _ rfl ?_|refine O8.mk _ aK ?_|refine im ?_|refine aa c1 ?_|refine aY c2 ?_|refine jO hM qaj rfl (show some (Blk.ren _ (ap 4 (L.map Ps.l)))=_ from by rw[aE]) ?_|refine HpP.force ?_);conv=>whnf)|(intro t ht;cases t<;>conv=>whnf)
   all_goals first|exact fin ⟨rfl,rfl⟩|(exfalso;simp at ht;done)|(exfalso;simp at ht;omega)
 ·rintro v H n ⟨rfl,h2⟩;refine⟨_,_,1,?_,rfl,rfl,rfl⟩;rcases hnm with rfl|rfl
  ·first|refine aO [(0,3)] ?_ ?_ ?_ trivial|refine aI [(0,3)] rfl rfl ?_ ?_ ?_ trivial
   ·exact gn
   ·exact ZZ
   ·exact iI
  ·first|refine aO [(0,12)] ?_ ?_ ?_ trivial|refine aI [(0,12)] rfl rfl ?_ ?_ ?_ trivial
   ·exact gn
   ·exact ZZ
   ·exact iI
end Go.Tz
namespace Go.Tz
open Go Go.AL Go.Proofs Go.Ma
abbrev Vp(e:Int):D:=.tup [cf 0 [] true,iD 0,iD e]
theorem wG{w n o:Nat}{l R:List Ps}(t:Bool)(hs:SOk w l)(hn:n<w)(ho:o<=1){f:FuncId}{rs:Bool}(hf:(f=136/\rs=false)\/(f=137/\rs=true))
  (hM:WC f (wA n o) w f (af l (2*w)) (rV 0 6) 3 R):PC Pr GG 128 [cf w l t,iD n,iD o,.bool rs] (Vp 6):=by
 have c1:=cT w l t (dE hs);rw[kZ hs]at c1;have c2:=lJ (G:=GG) ⟨hs.lo,hs.hi⟩ l t (dE hs) hs.vl;rw[hs.len]at c2;generalize af l (2*w)=L at c2 hM;rcases hf with⟨rfl,rfl⟩|⟨rfl,rfl⟩
 all_goals
  refine ae pok Tryz.func128 sT ?_;conv=>whnf
  repeat' first|((first|refine O6.mk _ rfl ?_|refine O8.mk _ aK ?_|refine im ?_|refine aa c1 ?_|refine aY c2 ?_|refine jO hM qaj rfl (show some (Blk.ren _ (ap 4 (L.map Ps.l)))=_ from by rw[aE]) ?_|refine HpP.force ?_);conv=>whnf)|(intro t ht;cases t<;>conv=>whnf)
  all_goals first|exact fin rfl|(exfalso;simp at ht;done)|(exfalso;simp at ht;omega)
def fE(w:Int)(l:List Ps)(n o:Int):Int:=if bD w l≠0 then bD w l else if n<0\/n>=w then 1 else if o<0\/o>1 then 3 else 0
theorem oY{w n o:Int}{l:List Ps}(h:fE w l n o≠0)(t rs:Bool)(hl:l.length<=1000):PC Pr GG 128 [cf w l t,iD n,iD o,.bool rs] (Vp (fE w l n o)):=by
 have c1:=cT w l t hl;unfold fE at h⊢;by_cases hc:bD w l=0
 ·rw[if_neg (fun q=>q hc)]at h⊢;rw[hc]at c1;by_cases h1:n<0\/n>=w
  ·rw[if_pos h1];refine ae pok Tryz.func128 sT ?_;conv=>whnf
   repeat' first|((first|refine O6.mk _ rfl ?_|refine O8.mk _ aK ?_|refine im ?_|refine aa c1 ?_|refine HpP.force ?_);conv=>whnf)|(intro t ht;cases t<;>conv=>whnf)
   all_goals first|exact fin rfl|skip
   all_goals (exfalso;simp at *;omega)
  ·rw[if_neg h1]at h⊢;by_cases h2:o<0\/o>1
   ·rw[if_pos h2];refine ae pok Tryz.func128 sT ?_;conv=>whnf
    repeat' first|((first|refine O6.mk _ rfl ?_|refine O8.mk _ aK ?_|refine im ?_|refine aa c1 ?_|refine HpP.force ?_);conv=>whnf)|(intro t ht;cases t<;>conv=>whnf)
    all_goals first|exact fin rfl|skip
    all_goals (exfalso;simp at *;omega)
   ·rw[if_neg h2]at h;exact absurd rfl h
 ·rw[if_pos hc];generalize bD w l=e at c1 hc⊢;refine ae pok Tryz.func128 sT ?_;conv=>whnf
  repeat' first|((first|refine O6.mk _ rfl ?_|refine O8.mk _ aK ?_|refine mj hc ?_|refine aa c1 ?_|refine HpP.force ?_);conv=>whnf)
  all_goals first|exact fin rfl|(exfalso;simp at ht;exact hc ht)|skip
theorem MT:aq Tryz.f56=true:=ar
theorem MU:aq Tryz.f57=true:=ar
theorem zk{w:Nat}{n o:Int}{l R:List Ps}{t:Bool}{c:Int}(h:PO Pr GG 128 [cf w l t,iD n,iD o,.bool false] (Gv w c) [(0,some (ap 4 (R.map Ps.l)))] 1):PO Pr GG 56 [cf w l t,iD n,iD o] (Gv w c) [(0,some (ap 4 (R.map Ps.l)))] 1:=by
 refine⟨bg Tryz.func56 MT,bk (K:=fun v H _=>v = .tup [.agg [.d (iD w),.sl 2 4 0 w w true],.d (iD c),.d (iD 0)]/\H.get 2=some (ap 4 (R.map Ps.l))) (bi pok Tryz.func56 MT ?_) ?_⟩
 ·exact qil
 ·exact qh1
theorem JE{w:Nat}{n o:Int}{l R:List Ps}{t:Bool}{c:Int}(h:PO Pr GG 128 [cf w l t,iD n,iD o,.bool true] (Gv w c) [(0,some (ap 4 (R.map Ps.l)))] 1):PO Pr GG 57 [cf w l t,iD n,iD o] (Gv w c) [(0,some (ap 4 (R.map Ps.l)))] 1:=by
 refine⟨bg Tryz.func57 MU,bk (K:=fun v H _=>v = .tup [.agg [.d (iD w),.sl 2 4 0 w w true],.d (iD c),.d (iD 0)]/\H.get 2=some (ap 4 (R.map Ps.l))) (bi pok Tryz.func57 MU ?_) ?_⟩
 ·exact qil
 ·exact qh1
theorem mC{w n o e:Int}{l:List Ps}{t:Bool}(h:PC Pr GG 128 [cf w l t,iD n,iD o,.bool false] (Vp e)):PC Pr GG 56 [cf w l t,iD n,iD o] (Vp e):=by
 refine ae pok Tryz.func56 MT ?_;conv=>whnf
 repeat' first|((first|refine O6.mk _ rfl ?_|refine O8.mk _ aK ?_|refine aa h ?_|refine HpP.force ?_);conv=>whnf)
 exact fin rfl
theorem rS{w n o e:Int}{l:List Ps}{t:Bool}(h:PC Pr GG 128 [cf w l t,iD n,iD o,.bool true] (Vp e)):PC Pr GG 57 [cf w l t,iD n,iD o] (Vp e):=by
 refine ae pok Tryz.func57 MU ?_;conv=>whnf
 repeat' first|((first|refine O6.mk _ rfl ?_|refine O8.mk _ aK ?_|refine aa h ?_|refine HpP.force ?_);conv=>whnf)
 exact fin rfl
end Go.Tz
namespace Go.Tz
open Go Go.AL Go.Proofs Go.Ma
theorem MS:aq Tryz.f53=true:=ar
abbrev mD(w:Int)(l:List Ps)(t:Bool)(c e:Int):D:=.tup [cf w l t,iD c,iD e]
theorem FB{w:Nat}{l:List Ps}(hs:SOk w l)(t:Bool):PC Pr GG 26 [cf w l t] (cf w (af l (2*w)) false):=by
 have h:=ve (G:=GG) w l t w (dE hs) (by have:=hs.len;have:=hs.lo;omega) (fun q hq=>dr (hs.vl q hq)) (by have:=hs.lo;omega) qeq;simpa using h
theorem wV{w n o:Nat}{l:List Ps}(hs:SOk w l)(hn:n<w)(ho:o<=1)(t:Bool)(h:cI w l (zP w n o)=1):PC Pr GG 53 [cf w l t,iD n,iD o] (mD w (af l (2*w)) false 0 0):=by
 have hsh:cU .i64 1 (n:Int)=((2^n:Nat):Int):=cq qeq;have him:fH .i64 2 (o:Int)=((2*o:Nat):Int):=fk (a:=2) qad;have hx:=jY (G:=GG) hs t (kN hn ho);rw[h]at hx;have hc:=FB hs t;generalize af l (2*w)=R at hc⊢;refine ae pok Tryz.func53 MS ?_;conv=>whnf
 repeat' first|((first|refine O6.mk _ rfl ?_|refine O8.mk _ aK ?_|refine aJ ci ?_|rw[hsh]|rw[him]|refine aQ ?_|refine aa hx ?_|refine aa hc ?_|refine HpP.force ?_);conv=>whnf)
 exact fin rfl
theorem wW{w n o:Nat}{l:List Ps}(hs:SOk w l)(hn:n<w)(ho:o<=1)(t:Bool)(h:cI w l (zP w n o) = -1):PC Pr GG 53 [cf w l t,iD n,iD o] (mD 0 [] true 0 6):=by
 have hsh:cU .i64 1 (n:Int)=((2^n:Nat):Int):=cq qeq;have him:fH .i64 2 (o:Int)=((2*o:Nat):Int):=fk (a:=2) qad;have hx:=jY (G:=GG) hs t (kN hn ho);rw[h]at hx;refine ae pok Tryz.func53 MS ?_;conv=>whnf
 repeat' first|((first|refine O6.mk _ rfl ?_|refine O8.mk _ aK ?_|refine aJ ci ?_|rw[hsh]|rw[him]|refine aQ ?_|refine bF rfl ?_|refine aa hx ?_|refine HpP.force ?_);conv=>whnf)
 exact fin rfl
theorem wX{w n o:Nat}{l:List Ps}(hs:SOk w l)(hn:n<w)(ho:o<=1)(t:Bool)(h:cI w l (zP w n o)=0)(hP:SOk w (dz (zP w n o) l)):PC Pr GG 53 [cf w l t,iD n,iD o] (mD w (af (dz (zP w n o) l) (2*w)) false 1 0):=by
 have hsh:cU .i64 1 (n:Int)=((2^n:Nat):Int):=cq qeq;have him:fH .i64 2 (o:Int)=((2*o:Nat):Int):=fk (a:=2) qad;have hx:=jY (G:=GG) hs t (kN hn ho);rw[h]at hx;have hc:=FB hP false;generalize af (dz (zP w n o) l) (2*w)=R at hc⊢;have hhi:=hs.hi;have hSl:=hs.len;have hSv:=hs.vl;have hpv:=kN hn ho;have hpd:AV.agg [.d (iD w),.d (iD 0),.d (iD (2^n:Nat)),.d (iD (2*o:Nat))]=AV.agg ((zP w n o).l.map AV.d):=rfl;refine ae pok Tryz.func53 MS ?_;conv=>whnf
 repeat' first|((first|refine O6.mk _ rfl ?_|refine O8.mk _ aK ?_|refine aJ ci ?_|rw[hsh]|rw[him]|refine bF rfl ?_|refine aa hx ?_|refine HpP.force ?_);conv=>whnf)
 clear hsh him hpd;refine ax pok (fun j=>⟨[(3,.ptr 0 2 0 0),(6,.ptr 1 2 0 0),(9,.ptr 2 4 0 0),(10,.d (iD (dG (fun q=>!bS q (zP w n o)) (l.take j)))),(11,.ptr 3 2 0 0),(12,.d (iD j))],[(0,some (.arr 2 [[.d (iD w),.d (az l t)]])),(1,some (.arr 2 [[.d (iD 0),.d (.sl [] true)]])),(2,some (.arr 4 [(zP w n o).l.map AV.d])),(3,some (.arr 2 [[.d (iD w),.sl 4 4 0 j j false]])),(4,some (ap 4 ((dz (zP w n o) (l.take j)).map Ps.l)))],5⟩) (l.length) (fun _=>True) (trivial) ?_ ar ?_ ?_
 ·exact qik
 ·intro j A_j h_j I_j N_j;have e_j:aD .i64 (j:Int) 1=((j+1:Nat):Int):=ak eH;generalize zP w n o=p at *;have hqv:=hSv _ (ey h_j);have hcm:=sX (G:=GG) l[j] p (by rw[dr hqv];omega) (by rw[dr hqv,dr hpv]);rw[Ac hhi hqv hpv]at hcm;have hgq:(l.map Ps.l)[(j:Int).toNat]?=some (l[j]).l:=gG h_j;have hsn:(dz p (l.take (j+1))).map Ps.l=(dz p (l.take j)).map Ps.l++[(if bS l[j] p=true then l[j] else match (l.take j).find? (fun r=>!bS r p) with
    | some f=>bc f l[j]
    | none=>p).l]:=by
   rw[aC h_j,tv,nh];rfl
  have hml:((dz p (l.take j)).map Ps.l).length=j:=qgg;generalize (dz p (l.take j)).map Ps.l=M at hsn hml;cases hcc:bS l[j] p with
  | true =>
   rw[hcc]at hcm hsn;rw[if_pos rfl]at hsn;have hix:dG (fun q=>!bS q p) (l.take (j+1))=dG (fun q=>!bS q p) (l.take j):=wO h_j (by simp[hcc]);generalize dG (fun q=>!bS q p) (l.take j)=fi at hix⊢;generalize l[j]=q at hsn hgq hcm;conv=>whnf
   repeat (refine O6.mk _ rfl ?_;conv=>whnf)
   intro t ht;cases t
   ·exact bu
   conv=>whnf
   repeat' first|((first|refine O6.mk _ qft ?_|refine O8.mk _ aK ?_|(refine aJ VD ?_)|refine aa hcm ?_|rw[hJ]|refine HpP.force ?_);conv=>whnf)
   refine N_j _ ?_ ?_
   ·exact cY
   ·exact qh6
  | false =>
   rw[hcc]at hcm hsn;rw[if_neg qaj]at hsn;rcases Dl (fun q=>!bS q p) (l.take j) with⟨hf,hi2⟩|⟨i,hil,hi2,hf⟩
   ·rw[hf]at hsn;dsimp only at hsn;have hix:dG (fun q=>!bS q p) (l.take (j+1))=j:=Dj h_j (by simp[hcc]) hi2;rw[hi2];generalize l[j]=q at hsn hgq hcm;conv=>whnf
    repeat (refine O6.mk _ rfl ?_;conv=>whnf)
    intro t ht;cases t
    ·exact bu
    conv=>whnf
    repeat' first|((first|refine O6.mk _ qft ?_|refine O8.mk _ aK ?_|(refine aJ VD ?_)|refine aa hcm ?_|rw[hJ]|refine HpP.force ?_);conv=>whnf)|(intro t ht;cases t<;>conv=>whnf)
    ·exact xt
    ·exact qje
   ·rw[hf]at hsn;dsimp only at hsn;have hix:=Dk (p:=fun q=>!bS q p) h_j hi2;have hij:i<j:=by rw[BZ]at hil;omega
    have hiL:i<l.length:=qad;have eL:(l.take j)[i]=l[i]:=aR;rw[eL]at hsn;have hfv:=hSv _ (ey hiL);have hmul:=mF (G:=GG) l[i] l[j] (by rw[dr hfv];omega) (by rw[dr hqv,dr hfv]);have hgf:(l.map Ps.l)[((i:Nat):Int).toNat]?=some (l[i]).l:=gG hiL;rw[hi2];generalize l[j]=q at hsn hgq hcm hmul;generalize l[i]=f at hsn hgf hmul;generalize bc f q=r at hsn hmul;conv=>whnf
    repeat (refine O6.mk _ rfl ?_;conv=>whnf)
    intro t ht;cases t
    ·exact bu
    conv=>whnf
    repeat' first|((first|refine O6.mk _ (by first|rfl|exact hgq|exact hgf) ?_|refine O8.mk _ aK ?_|(refine aJ VD ?_)|refine aa hcm ?_|refine ab hmul ?_|rw[hJ]|refine HpP.force ?_);conv=>whnf)|(intro t ht;cases t<;>conv=>whnf)
    ·exact qje
    ·exact lQ
 ·intro A_last I_last;have hT:l.take l.length=l:=pT (cF _);rw[hT];have hml:((dz (zP w n o) l).map Ps.l).length=l.length:=by rw[ef,rJ]
  conv=>whnf
  repeat (refine O6.mk _ rfl ?_;conv=>whnf)
  intro t ht;cases t;rotate_left
  ·exact bu
  conv=>whnf
  repeat' first|((first|refine O6.mk _ rfl ?_|refine O8.mk _ aK ?_|refine DR hc rfl hml.symm ?_|refine HpP.force ?_);conv=>whnf)
  exact fin rfl
end Go.Tz
namespace Go.Tz
open Go Go.AL Go.Proofs Go.Ma
def mB(g:Gt):Bool:=decide (g.k=13\/g.k=14)
structure As where
 (r:List Ps)
 (bs:List Int)
 (c k:Nat)
 (f:FuncId)
def pA(w:Nat)(wa:List Int)(s:As)(g:Gt):Ps:=zP w (gA g) (wa.getD s.k 0).toNat
def Vq(s:As)(g:Gt):Bool:=decide (g.i=0)||decide (s.bs.getD (g.i-1).toNat 0=1)
def rA(w:Nat)(wa:List Int)(s:As)(g:Gt):List Ps:=if cI w s.r (pA w wa s g)=1 then s.r else af (dz (pA w wa s g) s.r) (2*w)
def oA(w:Nat)(wa:List Int)(s:As)(g:Gt):As :=
 if mB g=true then⟨if g.k=14/\(wa.getD s.k 0).toNat=1 then dF w (xG (gA g)) (rA w wa s g) else rA w wa s g,if g.k=13 then s.bs.set g.b.toNat (wa.getD s.k 0) else s.bs,if cI w s.r (pA w wa s g)=1 then s.c else s.c+1,s.k+1,if g.k=13 then 136 else 137⟩
 else if Vq s g=true then{ s with r:=dF w g s.r } else s
def cr(w:Nat)(wa:List Int)(b:Int)(l:List Ps)(gs:List Gt):As:=gs.foldl (oA w wa) ⟨af l (2*w),List.replicate b.toNat 0,0,0,136⟩
def jy(w:Nat)(wa:List Int)(b:Int)(l:List Ps)(gs:List Gt)(i:Nat)(g:Gt):Bool:=mB g&&decide (cI w (cr w wa b l (gs.take i)).r (pA w wa (cr w wa b l (gs.take i)) g) = -1)
theorem tE{w:Nat}{wa:List Int}{b:Int}{l:List Ps}{gs:List Gt}{i:Nat}(h:i<gs.length):cr w wa b l (gs.take (i+1))=oA w wa (cr w wa b l (gs.take i)) gs[i]:=by
 unfold cr;rw[aC h,Lm];rfl
structure AOk (w:Nat) (b:Int) (gs:List Gt) (wa:List Int):Prop where
 hw:1<=w/\w<=12
 hb:0<=b/\b<=8
 len:gs.length<=120
 gc:∀ g,g∈gs->bH g w b=0
 kd:∀ g,g∈gs->mB g=true\/bV g.k=true
 cnt:wa.length=gs.countP mB
 bit:∀ x,x∈wa->x=0\/x=1
structure Inv (w:Nat) (b:Int) (n:Nat) (k:Nat) (s:As):Prop where
 ok:SOk w s.r
 red:af s.r (2*w)=s.r
 bl:(s.bs.length:Int)=b
 bv:∀ x,x∈s.bs->x=0\/x=1
 c:s.c<=n
 k:s.k=k
theorem pa{g:Gt}{w:Nat}{b:Int}(h:bH g w b=0)(hm:mB g=true):g.ws=[(gA g:Int)]/\gA g<w/\g.i=0:=by
 obtain⟨h1,h2,h3,h4,h5⟩:=jD h;obtain⟨b1,b2,b3,b4⟩:=oP h5;have hm:g.k=13\/g.k=14:=of_decide_eq_true hm;have har:uf g.k=1:=by rcases hm with e|e<;>rw[e]<;>rfl
 rw[har]at h2;obtain⟨a,ha⟩:∃ a,g.ws=[a]:=by
  match hq:g.ws with
  | []=>rw[hq]at h2;simp at h2
  | [a]=>exact⟨a,rfl⟩
  | _::_::_=>rw[hq]at h2;simp at h2;omega
 rw[ha]at h3;have hgA:gA g=a.toNat:=by unfold gA;rw[ha];rfl
 have h3:¬(a<0\/a>=(w:Int)):=by
  unfold DK at h3;simpa using h3
 refine⟨?_,by omega,b3 hm⟩;rw[ha,hgA,show((a.toNat:Nat):Int)=a by omega]
theorem Ok{g:Gt}{w:Nat}{b:Int}(h:bH g w b=0)(hm:g.k=13):0<=g.b/\g.b<b:=(oP (jD h).2.2.2.2).2.1 hm
theorem po{wa:List Int}(hb:∀ x,x∈wa->x=0\/x=1)(k:Nat):(wa.getD k 0=0\/wa.getD k 0=1)/\(wa.getD k 0).toNat<=1/\(((wa.getD k 0).toNat:Nat):Int)=wa.getD k 0:=by
 have h:wa.getD k 0=0\/wa.getD k 0=1:=by
  rw[jI];cases hq:wa[k]? with
  | none=>exact .inl rfl
  | some x=>exact hb x (ye hq)
 exact⟨h,by omega,by omega⟩
theorem cnt_le{gs:List Gt}{i:Nat}(h:i<gs.length)(hm:mB gs[i]=true):(gs.take i).countP mB<gs.countP mB:=by
 have e:=List.take_append_drop (i+1) gs;conv=>rhs;rw[<- e,QY,aC h,QY]
 simp[List.countP_cons,hm];omega
theorem VG{w:Nat}{b:Int}{n k:Nat}{s:As}(h:Inv w b n k s){g:Gt}(hg:bH g w b=0)(hm:mB g=true){wa:List Int}(hb:∀ x,x∈wa->x=0\/x=1)(hx:cI w s.r (pA w wa s g) ≠ -1):SOk w (rA w wa s g)/\af (rA w wa s g) (2*w)=rA w wa s g:=by
 obtain⟨h1,h2,h3⟩:=pa hg hm;unfold rA;by_cases e:cI w s.r (pA w wa s g)=1
 ·rw[if_pos e];exact⟨h.ok,h.red⟩
 ·rw[if_neg e];have hs:SOk w (dz (pA w wa s g) s.r):=by
   rcases Dy h.ok h.ok (fun _=>QI) h2 (po hb s.k).2.1 0 with⟨a,_⟩|⟨a,_⟩|⟨_,a,_⟩
   ·exact absurd a e
   ·exact absurd a hx
   ·exact a
  exact⟨(bK hs).1,Bn hs⟩
theorem PV{w:Nat}{b:Int}{n k:Nat}{s:As}(h:Inv w b n k s){g:Gt}(hg:bH g w b=0)(hk:mB g=true\/bV g.k=true){wa:List Int}(hb:∀ x,x∈wa->x=0\/x=1)(hx:mB g=true->cI w s.r (pA w wa s g) ≠ -1):Inv w b (n+1) (k+if mB g=true then 1 else 0) (oA w wa s g):=by
 unfold oA;have hc:=h.c;by_cases hm:mB g=true
 ·obtain⟨r1,r2⟩:=VG h hg hm hb (hx hm);obtain⟨h1,h2,h3⟩:=pa hg hm;obtain⟨x1,x2⟩:=uC h2;rw[if_pos hm,if_pos hm];refine⟨?_,?_,?_,?_,?_,by show s.k+1=k+1;rw[h.k]⟩
  ·dsimp only;split
   ·exact vN x1 x2 r1
   ·exact r1
  ·dsimp only;split
   ·exact Cx x1 x2 r1
   ·exact r2
  ·dsimp only;split
   ·rw[List.length_set];exact h.bl
   ·exact h.bl
  ·dsimp only;split
   ·intro x hxm;rcases List.mem_or_eq_of_mem_set hxm with q|q
    ·exact h.bv x q
    ·rw[q];exact(po hb s.k).1
   ·exact h.bv
  ·dsimp only;split<;>omega
 ·have hk2:bV g.k=true:=hk.resolve_left hm;rw[if_neg hm,if_neg hm];split
  ·exact⟨vN hg hk2 h.ok,Cx hg hk2 h.ok,h.bl,h.bv,Nat.le_succ_of_le hc,h.k⟩
  ·exact⟨h.ok,h.red,h.bl,h.bv,Nat.le_succ_of_le hc,h.k⟩
theorem ol{w:Nat}{wa:List Int}{b:Int}{l:List Ps}{gs:List Gt}(hA:AOk w b gs wa)(hs:SOk w l):∀ i,i<=gs.length->(∀ j (h:j<gs.length),j<i->jy w wa b l gs j gs[j]=false)->Inv w b i ((gs.take i).countP mB) (cr w wa b l (gs.take i))
 | 0,_,_=>⟨(bK hs).1,Bn hs,by show((List.replicate b.toNat (0:Int)).length:Int)=b;rw[I4];have:=hA.hb;omega,fun x hx=>.inl (Ux hx),cF _,rfl⟩
 | i+1,hi,hb=>by
  have ih:=ol hA hs i qad fun j h hj=>hb j h qad;have hbi:=hb i qad qad;have hmem:=ey (show i<gs.length by omega);rw[tE qad];have h:=PV ih (hA.gc _ hmem) (hA.kd _ hmem) hA.bit (fun hm=>by
   unfold jy at hbi;rw[hm]at hbi;simpa using hbi)
  have e:(gs.take (i+1)).countP mB=(gs.take i).countP mB+if mB gs[i]=true then 1 else 0:=by
   rw[aC qad,QY];simp[List.countP_cons]
  rw[e];exact h
end Go.Tz
namespace Go.Tz
open Go Go.AL Go.Proofs Go.Ma
theorem Mf{H:AHeap}{v1 v2 v3 v4:AV}{d1 d2 d3 d4:D}(h1:AsD H v1 d1)(h2:AsD H v2 d2)(h3:AsD H v3 d3)(h4:AsD H v4 d4):AsD H (.tup [v1,v2,v3,v4]) (.tup [d1,d2,d3,d4]):=by
 refine .tup _ _ rfl fun j v d hv hd=>?_
 match j,hv,hd with
 | 0,hv,hd=>simp at hv hd;subst hv hd;exact h1
 | 1,hv,hd=>simp at hv hd;subst hv hd;exact h2
 | 2,hv,hd=>simp at hv hd;subst hv hd;exact h3
 | 3,hv,hd=>simp at hv hd;subst hv hd;exact h4
 | j+4,hv,_=>simp at hv
abbrev fN(bs:List Int):List (List D):=bs.map fun x=>[iD x]
theorem AB{bs:List Int}{m:Nat}(h:m<bs.length):((fN bs).map fun el=>el.map AV.d)[0+(m:Int).toNat]?=some ([iD (bs.getD m 0)].map AV.d):=by
 rw[jI,ew h];simp[h]
theorem Hb{bs:List Int}{m:Nat}{x:Int}:((fN bs).map fun el=>el.map AV.d).set (0+(m:Int).toNat) ([iD x].map AV.d)=(fN (bs.set m x)).map fun el=>el.map AV.d:=by
 simp[fN,List.map_set]
def vv(g:Gt):Bool:=mB g||bV g.k
def ln(w:Nat)(l:List Ps)(cw:Int)(b:Int)(gs:List Gt)(wa:List Int):Int :=
 if cw≠w\/gs.all vv=false then 7 else if wa.length≠gs.countP mB then 2 else if wa.all (fun x=>!cV x 0 1)=false then 3
 else if(List.range gs.length).any (fun j=>jy w wa b l gs j (gs.getD j ⟨0,[],true,0,0⟩))=true then 6 else 0
theorem mB_ge{g:Gt}{w b:Int}(h:bH g w b=0):mB g=decide (g.k>=13):=by
 have h1:=(jD h).1;have h2:¬(g.k<1\/g.k>14):=fun q=>h1 (Ro q);unfold mB;rw[tV];simp;omega
theorem F1{w:Nat}{l:List Ps}{cw b:Int}{gs:List Gt}{wa:List Int}(h:cw≠w\/gs.all vv=false):ln w l cw b gs wa=7:=by unfold ln;rw[if_pos h]
theorem al2{w:Nat}{l:List Ps}{b:Int}{gs:List Gt}{wa:List Int}(h:gs.all vv=true)(h2:wa.length≠gs.countP mB):ln w l w b gs wa=2:=by unfold ln;rw[if_neg GJ,if_pos h2]
theorem al3{w:Nat}{l:List Ps}{b:Int}{gs:List Gt}{wa:List Int}(h:gs.all vv=true)(h2:wa.length=gs.countP mB)(h3:wa.all (fun x=>!cV x 0 1)=false):ln w l w b gs wa=3:=by
 unfold ln;rw[if_neg GJ,if_neg (fun q=>q h2),if_pos h3]
theorem al6{w:Nat}{l:List Ps}{b:Int}{gs:List Gt}{wa:List Int}(h:gs.all vv=true)(h2:wa.length=gs.countP mB)(h3:wa.all (fun x=>!cV x 0 1)=true){j:Nat}(hj:j<gs.length)(h4:jy w wa b l gs j gs[j]=true):ln w l w b gs wa=6:=by
 unfold ln;rw[if_neg GJ,if_neg (fun q=>q h2),if_neg (by simp[h3]),if_pos];refine yF.2 ⟨j,cJ.2 hj,?_⟩;rw[jI,ew hj];exact h4
theorem al0{w:Nat}{l:List Ps}{b:Int}{gs:List Gt}{wa:List Int}(h:gs.all vv=true)(h2:wa.length=gs.countP mB)(h3:wa.all (fun x=>!cV x 0 1)=true)(h4:∀ j (h:j<gs.length),j<gs.length->jy w wa b l gs j gs[j]=false):ln w l w b gs wa=0:=by
 unfold ln;rw[if_neg GJ,if_neg (fun q=>q h2),if_neg (by simp[h3]),if_neg];intro q;obtain⟨j,hj,hq⟩:=yF.1 q;have hj:=cJ.1 hj;rw[jI,ew hj]at hq;have:=h4 j hj hj;simp only[Hw]at hq;rw[this]at hq;cases hq
def Cp(w:Nat)(l:List Ps)(cw b:Int)(gs:List Gt)(wa:List Int):D :=
 if ln w l cw b gs wa=0 then .tup [cf w (cr w wa b l gs).r false,aP (cr w wa b l gs).bs true,iD (cr w wa b l gs).c,iD 0] else .tup [cf 0 [] true,.sl [] true,iD 0,iD (ln w l cw b gs wa)]
theorem Cq{w:Nat}{l:List Ps}{cw b:Int}{gs:List Gt}{wa:List Int}{e:Int}(he:e≠0)(h:ln w l cw b gs wa=e):Cp w l cw b gs wa = .tup [cf 0 [] true,.sl [] true,iD 0,iD e]:=by unfold Cp;rw[h,if_neg he]
theorem OG{w:Nat}{b:Int}{gs:List Gt}{wa:List Int}(hC:dm w b gs=0)(h:gs.all vv=true)(h2:wa.length=gs.countP mB)(h3:wa.all (fun x=>!cV x 0 1)=true):AOk w b gs wa:=by
 obtain⟨a1,a2,a3,a4⟩:=cj hC;refine⟨by omega,a2,a3,a4,fun g hg=>?_,h2,fun x hx=>?_⟩
 ·have:=lh.1 h g hg;unfold vv at this;simpa using this
 ·have:=lh.1 h3 x hx;unfold cV at this;simp at this;omega
end Go.Tz
namespace Go.Tz
open Go Go.AL Go.Proofs Go.Ma
theorem UZ:aq Tryz.f55=true:=ar
theorem EZ{wa:List Int}{k:Nat}(h:k<wa.length):(wa.map fun k=>[iD k])[(k:Int).toNat]?=some [iD (wa.getD k 0)]:=by
 rw[jI,ew h];simp[h]
theorem cy{p:Prop}[Decidable p](h:¬ p){k:Bool->Prop}(hk:k false):∀ t,decide p=t->k t:=fun t e=>by
 rw[decide_eq_false h]at e;exact e ▸ hk
theorem mea53{w b n k:Nat}{s:As}(hI:Inv w b n k s){g:Gt}(hg:bH g w b=0)(hm:mB g=true){wa:List Int}(hb:∀ x,x∈wa->x=0\/x=1) :
  (cI w s.r (pA w wa s g) = -1/\PC Pr GG 53 [cf w s.r false,iD (gA g),iD ((wa.getD s.k 0).toNat:Nat)] (mD 0 [] true 0 6)) ∨
  (cI w s.r (pA w wa s g) ≠ -1 /\ ∃ ch:Nat,ch<=1/\(if cI w s.r (pA w wa s g)=1 then s.c else s.c+1)=s.c+ch/\PC Pr GG 53 [cf w s.r false,iD (gA g),iD ((wa.getD s.k 0).toNat:Nat)] (mD w (rA w wa s g) false ch 0)):=by
 obtain⟨h1,h2,h3⟩:=pa hg hm;have ho:=(po hb s.k).2.1;unfold rA;rcases Dy hI.ok hI.ok (fun _=>QI) h2 ho 0 with⟨a,_⟩|⟨a,_⟩|⟨a,hP,_⟩
 ·have c:=wV hI.ok h2 ho false a;rw[hI.red]at c;have a':cI w s.r (pA w wa s g)=1:=a;rw[a',if_pos rfl,if_pos rfl];exact .inr ⟨by decide,0,by omega,rfl,c⟩
 ·exact .inl ⟨a,wW hI.ok h2 ho false a⟩
 ·have c:=wX hI.ok h2 ho false a hP;have a':cI w s.r (pA w wa s g)=0:=a;rw[a',if_neg qaj,if_neg qaj];exact .inr ⟨by decide,1,by omega,rfl,c⟩
theorem ED{w:Nat}{wa:List Int}{s:As}{g:Gt}(hm:mB g=false):oA w wa s g=if Vq s g=true then{ s with r:=dF w g s.r } else s:=by
 unfold oA;rw[if_neg (by simp[hm])]
theorem Bv{w:Nat}{wa:List Int}{s:As}{g:Gt}(hk:g.k=13):oA w wa s g=⟨rA w wa s g,s.bs.set g.b.toNat (wa.getD s.k 0),if cI w s.r (pA w wa s g)=1 then s.c else s.c+1,s.k+1,136⟩:=by
 unfold oA;rw[if_pos (show mB g=true by unfold mB;simp[hk]),if_neg (by rw[hk];intro h;exact absurd h.1 qaj),if_pos hk,if_pos hk]
theorem Bw{w:Nat}{wa:List Int}{s:As}{g:Gt}(hk:g.k=14):oA w wa s g=⟨if(wa.getD s.k 0).toNat=1 then dF w (xG (gA g)) (rA w wa s g) else rA w wa s g,s.bs,if cI w s.r (pA w wa s g)=1 then s.c else s.c+1,s.k+1,137⟩:=by
 unfold oA;rw[if_pos (show mB g=true by unfold mB;simp[hk]),if_neg (show ¬ g.k=13 by rw[hk];decide),if_neg (show ¬ g.k=13 by rw[hk];decide)];simp only[hk,true_and]
set_option maxHeartbeats 4000000 in
theorem iC{w b:Nat}{l:List Ps}(hs:SOk w l)(cw:Int)(gs:List Gt)(wa:List Int)(ct t u:Bool)(hC:dm cw b gs=0)(hwn:wa.length<=1000):PC Pr GG 55 [ei cw b gs ct,cf w l t,aP wa u] (Cp w l cw b gs wa):=by
 obtain⟨hcw,hb,hgl,hgc⟩:=cj hC;have c26:=FB hs t;have hw:1<=w/\w<=12:=⟨hs.lo,hs.hi⟩
 refine de (bg Tryz.func55 UZ) (bi pok Tryz.func55 UZ ?_);conv=>whnf
 repeat' first|((first|refine O6.mk _ rfl ?_|refine O8.mk _ aK ?_|refine HpP.force ?_);conv=>whnf)|(intro t ht;cases t<;>conv=>whnf)
 ·have hcw:cw=w:=by simpa using ht
  subst hcw;refine ax pok (fun i=>⟨[(2,.d (aP wa u)),(3,.ptr 0 3 0 0),(4,.ptr 1 2 0 0),(6,.ptr 2 2 0 0),(10,.d (iD ((gs.take i).countP mB:Nat))),(11,.d (iD i))],[(0,some (.arr 3 [[.d (iD w),.d (iD b),.d (bN gs ct)]])),(1,some (.arr 2 [[.d (iD w),.d (az l t)]])),(2,some (.arr 2 [[.d (iD 0),.d (.sl [] true)]]))],3⟩) (gs.length) (fun i=>(gs.take i).all vv=true) (rfl) ?_ ar ?_ ?_
  ·exact nr
  ·intro i A_i h_i I_i N_i;have e_i:aD .i64 (i:Int) 1=((i+1:Nat):Int):=ak eH;have hgi:=hgc _ (ey h_i);have hge:=mB_ge hgi;have hgg:(gs.map Gt.l)[(i:Int).toNat]?=some (gs[i]).l:=wK h_i;have hcs:(gs.take (i+1)).countP mB=(gs.take i).countP mB+if mB gs[i]=true then 1 else 0:=by
    rw[aC h_i,QY];simp[List.countP_cons]
   have hal:(gs.take (i+1)).all vv=((gs.take i).all vv&&vv gs[i]):=by
    rw[aC h_i,List.all_append];simp
   have hkn:=Gd (G:=GG) gs[i].k;have hex:vv gs[i]=false->gs.all vv=false:=fun q=>sJ h_i q;have hcb:(gs.take i).countP mB<=i:=by
    have:=wdp (p:=mB) (l:=gs.take i);rw[BZ]at this;omega
   rw[I_i]at hal;rw[show vv gs[i]=(mB gs[i]||bV gs[i].k) from rfl]at hal hex;generalize gs[i]=g at hge hgg hcs hal hkn hex;obtain⟨k,ws,ug,gb,gi⟩:=g;generalize mB ⟨k,ws,ug,gb,gi⟩=m at hge hcs hal hex;generalize (gs.take i).countP mB=n at hcs hcb⊢;have hia:aD .i64 (n:Int) 1=((n+1:Nat):Int):=ak (b:=1) qad;have hge:m=decide (k>=13):=hge;conv=>whnf
   repeat (refine O6.mk _ rfl ?_;conv=>whnf)
   intro t ht;cases t
   ·exact bu
   conv=>whnf
   repeat' first|((first|refine O6.mk _ qhh ?_|refine O8.mk _ aK ?_|refine aJ ci ?_|fail);conv=>whnf)|(refine cc hkn ?_)|(refine HpP.force ?_;conv=>whnf)|(intro t ht;cases t<;>conv=>whnf)
   ·rename_i q1;have hm:m=false:=hge.trans q1;subst hm;rw[Cq qaj (F1 (.inr (hex (by show(false||bV k)=false;exact ht))))];exact fin (.d _)
   ·rename_i q1;have hm:m=false:=hge.trans q1;subst hm;refine N_i _ ?_ ?_
    ·(rw[hal];exact(show bV k=true from ht))
    ·refine ah cW ?_ ?_ trivial
     ·exact qdr
     ·exact lZ
   ·have hm:m=true:=hge.trans ht;subst hm;refine N_i _ ?_ ?_
    ·(rw[hal];rfl)
    ·refine ah cW ?_ ?_ trivial
     ·exact qdl
     ·exact lZ
  ·intro A_last I_last;rw[pS]at I_last⊢;have I_last:gs.all vv=true:=I_last;conv=>whnf
   repeat (refine O6.mk _ rfl ?_;conv=>whnf)
   intro t ht;cases t;rotate_left
   ·exact bu
   conv=>whnf
   repeat' first|((first|refine O6.mk _ rfl ?_|refine O8.mk _ aK ?_|refine HpP.force ?_);conv=>whnf)|(intro t ht;cases t<;>conv=>whnf)
   ·have hcn:wa.length=gs.countP mB:=by simp at ht;omega
    refine ax pok (fun i=>⟨[(2,.d (aP wa u)),(3,.ptr 0 3 0 0),(4,.ptr 1 2 0 0),(6,.ptr 2 2 0 0),(12,.d (iD i))],[(0,some (.arr 3 [[.d (iD w),.d (iD b),.d (bN gs ct)]])),(1,some (.arr 2 [[.d (iD w),.d (az l t)]])),(2,some (.arr 2 [[.d (iD 0),.d (.sl [] true)]]))],3⟩) (wa.length) (fun i=>(wa.take i).all (fun x=>!cV x 0 1)=true) (rfl) ?_ ar ?_ ?_
    ·exact nr
    ·intro i A_i h_i I_i N_i;have e_i:aD .i64 (i:Int) 1=((i+1:Nat):Int):=ak eH;have hgw:=EZ h_i;have hof:=OE (G:=GG) (wa.getD i 0) 0 1;have hgd:wa.getD i 0=wa[i]:=by rw[jI,ew h_i];rfl
     have hex:(!cV wa[i] 0 1)=false->wa.all (fun x=>!cV x 0 1)=false:=fun q=>sJ h_i q;have hal:(wa.take (i+1)).all (fun x=>!cV x 0 1)=((wa.take i).all (fun x=>!cV x 0 1) && !cV wa[i] 0 1):=by
      rw[aC h_i,List.all_append];simp
     rw[I_i]at hal;rw[<- hgd]at hex hal;generalize wa.getD i 0=x at hgw hof hex hal;conv=>whnf
     repeat (refine O6.mk _ rfl ?_;conv=>whnf)
     intro t ht;cases t
     ·exact bu
     conv=>whnf
     repeat' first|((first|refine O6.mk _ (by first|rfl|exact hgw) ?_|refine O8.mk _ aK ?_|refine aJ ci ?_|fail);conv=>whnf)|(refine cc hof ?_)|(refine HpP.force ?_;conv=>whnf)|(intro t ht;cases t<;>conv=>whnf)
     ·refine N_i _ ?_ ?_
      ·(rw[hal,show cV x 0 1=false from ht];rfl)
      ·exact yv
     ·rw[Cq qaj (al3 I_last hcn (hex (by rw[show cV x 0 1=true from ht];rfl)))];exact fin (.d _)
    ·intro A_last2 I_last2;rw[pS]at I_last2;conv=>whnf
     repeat (refine O6.mk _ rfl ?_;conv=>whnf)
     intro t ht;cases t;rotate_left
     ·exact bu
     conv=>whnf
     repeat' first|((first|refine O6.mk _ rfl ?_|refine O8.mk _ aK ?_|refine aJ qdh ?_|refine aa c26 ?_|refine HpP.force ?_);conv=>whnf)
     have hA:=OG hC I_last hcn I_last2;refine ax pok (fun i=>⟨[(2,.d (aP wa u)),(3,.ptr 0 3 0 0),(6,.ptr 2 2 0 0),(13,.sl 3 1 0 b b true),(14,.ptr 4 2 0 0),(15,.d (iD (cr w wa b l (gs.take i)).k)),(16,.d (iD (cr w wa b l (gs.take i)).c)),(17,.d (iD i))],[(0,some (.arr 3 [[.d (iD w),.d (iD b),.d (bN gs ct)]])),(2,some (.arr 2 [[.d (iD 0),.d (.sl [] true)]])),(3,some (ap 1 (fN (cr w wa b l (gs.take i)).bs))),(4,some (.arr 2 [[.d (iD w),.d (az (cr w wa b l (gs.take i)).r false)]]))],5⟩) (gs.length) (fun i=>∀ j (h:j<gs.length),j<i->jy w wa b l gs j gs[j]=false) (fun j _ h=>absurd h (Nat.not_lt_zero j)) ?_ ar ?_ ?_
     ·refine ah cW ?_ ?_ trivial
      ·exact gn
      ·repeat' first|exact trivial|refine⟨⟨di rfl,_,rfl,by first|rfl|assumption|exact congrArg some (show Blk.arr 1 (List.replicate b [AV.d (iD 0)])=ap 1 (fN (List.replicate b 0)) from by unfold ap fN;simp),by first|exact ay rfl|exact aj _ _ _|exact au rfl⟩,?_⟩
     ·intro i A_i h_i I_i N_i;have e_i:aD .i64 (i:Int) 1=((i+1:Nat):Int):=ak eH;have hI:=ol hA hs i qad I_i;have hgi:=hgc _ (ey h_i);have hkd:=hA.kd _ (ey h_i);have hgg:(gs.map Gt.l)[(i:Int).toNat]?=some (gs[i]).l:=wK h_i;have hsn:=tE (w:=w) (wa:=wa) (b:=b) (l:=l) h_i;have hbd:jy w wa b l gs i gs[i]=(mB gs[i]&&decide (cI w (cr w wa b l (gs.take i)).r (pA w wa (cr w wa b l (gs.take i)) gs[i]) = -1)):=rfl;have hNx:jy w wa b l gs i gs[i]=false->∀ j (h:j<gs.length),j<i+1->jy w wa b l gs j gs[j]=false:=fun q j h hj=>by
       rcases wa1 j i with c|c
       ·exact I_i j h c
       ·obtain rfl:j=i:=by omega
        exact q
      have hE6:jy w wa b l gs i gs[i]=true->ln w l w b gs wa=6:=fun q=>al6 I_last hcn I_last2 h_i q;have hkl:mB gs[i]=true->(cr w wa b l (gs.take i)).k<wa.length:=fun hm=>by rw[hI.k,hcn];exact cnt_le h_i hm
      rw[hbd]at hNx hE6;clear hbd;have hkk:(cr w wa b l (gs.take i)).k<=i:=by
       rw[hI.k];have:=wdp (p:=mB) (l:=gs.take i);rw[BZ]at this;omega
      generalize cr w wa b l (gs.take i)=s at hI hsn hNx hE6 hkl hkk⊢;generalize cr w wa b l (gs.take (i+1))=s' at hsn N_i;generalize gs[i]=g at hgi hkd hgg hsn hNx hE6 hkl;cases hm:mB g with
      | false =>
       rw[hm]at hNx;have hk:bV g.k=true:=hkd.resolve_left (by simp[hm]);have hlt:g.k<13:=by have:=of_decide_eq_true hk;omega
       have hst:=ED (w:=w) (wa:=wa) (s:=s) hm;obtain⟨b1,b2,b3,b4⟩:=oP (jD hgi).2.2.2.2;have hgb0:=b4 qad;have hg0:=hgi;obtain⟨k,ws,ug,gb,gi⟩:=g;have ha:=qJ (G:=GG) hw ⟨k,ws,ug,gb,0⟩ (oZ hk hg0) hk s.r false (by have:=hI.ok.len;omega) (dE hI.ok) hI.ok.vl;have hga:dF w ⟨k,ws,ug,gb,0⟩ s.r=dF w ⟨k,ws,ug,gb,gi⟩ s.r:=rfl;rw[hga]at ha;dsimp only at hgb0 hlt b1;subst hgb0;have hbl:=hI.bl;obtain⟨r,bs,c,kk,f⟩:=s;rw[hst]at hsn;dsimp only at ha hsn hbl⊢;generalize dF w ⟨k,ws,ug,0,gi⟩ r=r' at ha hsn;by_cases hi0:gi=0
       ·subst hi0;rw[show Vq ⟨r,bs,c,kk,f⟩ ⟨k,ws,ug,0,0⟩=true from rfl,if_pos rfl]at hsn;subst hsn;conv=>whnf
        repeat (refine O6.mk _ rfl ?_;conv=>whnf)
        intro t ht;cases t
        ·exact bu
        conv=>whnf
        repeat' first|((first|refine O6.mk _ qhh ?_|refine O8.mk _ aK ?_|refine aJ ci ?_|refine aQ ?_|refine aa ha ?_|refine HpP.force ?_);conv=>whnf)|(intro t ht;cases t<;>conv=>whnf)
        ·exact lQ
        ·refine N_i _ ?_ ?_
         ·exact hNx rfl
         ·exact yv
       ·obtain⟨m,rfl⟩:∃ m:Nat,gi=((m+1:Nat):Int):=⟨(gi-1).toNat,by omega⟩
        have hsb:cO .i64 ((m+1:Nat):Int) 1=((m:Nat):Int):=iY (b:=1) qad qad;have hmb:m<bs.length:=qad;have hgb:=AB hmb;have hon:Vq ⟨r,bs,c,kk,f⟩ ⟨k,ws,ug,0,((m+1:Nat):Int)⟩=decide (bs.getD m 0=1):=by
         unfold Vq;rw[decide_eq_false (show ¬((m+1:Nat):Int)=0 by omega),show(((m+1:Nat):Int)-1).toNat=m by omega];rfl
        rw[hon]at hsn;generalize bs.getD m 0=x at hgb hsn;conv=>whnf
        repeat (refine O6.mk _ rfl ?_;conv=>whnf)
        intro t ht;cases t
        ·exact bu
        conv=>whnf
        repeat' first|((first|refine O6.mk _ (by first|rfl|exact hgg|exact hgb) ?_|refine O8.mk _ aK ?_|refine aJ ci ?_|rw[hsb]|refine aa ha ?_|refine HpP.force ?_);conv=>whnf)|(intro t ht;cases t<;>conv=>whnf)
        all_goals first|(exfalso;simp at ht;omega)|skip
        ·exact qix
        ·rw[decide_eq_true (show x=1 from eq_of_beq ht),if_pos rfl]at hsn;subst hsn;refine N_i _ ?_ ?_
         ·exact hNx rfl
         ·exact yv
      | true =>
       rw[hm]at hNx hE6;have hkl:=hkl hm;obtain⟨hws,hn,hi0⟩:=pa hgi hm;obtain⟨w1,w2,w3⟩:=po hA.bit s.k;have hwg:=EZ hkl;rw[<- w3]at hwg;have hib:aD .i64 (s.k:Int) 1=((s.k+1:Nat):Int):=ak (b:=1) qad;have hrc:=hI.c;have hbl:=hI.bl;rcases mea53 hI hgi hm hA.bit with⟨hx,hc⟩|⟨hx,ch,hch,hcc,hc⟩
       ·rw[Cq qaj (hE6 (by rw[hx];rfl))];have hk13:¬ g.k<13:=by have:=of_decide_eq_true hm;omega
        clear hE6 hNx hx hsn hI w1 w2 w3 hkd hgi hm hib;generalize (wa.getD s.k 0).toNat=o at *;generalize gA g=n at *;obtain⟨k,ws,ug,gb,gi⟩:=g;obtain⟨r,bs,c,kk,f⟩:=s;dsimp only at hws hc hwg hi0 hk13⊢;subst hws;conv=>whnf
        repeat (refine O6.mk _ rfl ?_;conv=>whnf)
        intro t ht;cases t
        ·exact bu
        conv=>whnf
        repeat' first|((first|refine O6.mk _ TI ?_|refine O8.mk _ aK ?_|refine aJ ci ?_|refine cy hk13 ?_|refine ab hc ?_|refine mj (a:=6) (b:=0) qaj ?_|refine HpP.force ?_);conv=>whnf)
        all_goals first|exact fin (.d _)|(exfalso;simp at ht;done)
       ·have hNx2:=hNx (by rw[decide_eq_false hx];rfl);have hia:aD .i64 (s.c:Int) (ch:Int)=((s.c+ch:Nat):Int):=ak qad;rcases (of_decide_eq_true hm:g.k=13\/g.k=14) with hk|hk
        ·have hbb:=Ok hgi hk;rw[Bv hk,hcc,<- w3]at hsn;clear hE6 hNx hx hI w1 hkd hgi hm hcc;generalize rA w wa s g=R at hsn hc;generalize (wa.getD s.k 0).toNat=o at *;generalize gA g=n at *;obtain⟨k,ws,ug,gb,gi⟩:=g;obtain⟨r,bs,c,kk,f⟩:=s;dsimp only at hk hws hi0 hbb hsn hc hwg hib hia⊢;subst hk hws hi0;have a13:¬(13:Int)<13:=qaj;obtain⟨m,rfl⟩:∃ m:Nat,gb=m:=⟨gb.toNat,by omega⟩
         have hmb:m<bs.length:=by dsimp only at hbl;omega
         have hgb:=AB hmb;subst hsn;conv=>whnf
         repeat (refine O6.mk _ rfl ?_;conv=>whnf)
         intro t ht;cases t
         ·exact bu
         conv=>whnf
         repeat' first|((first|refine O6.mk _ (by first|rfl|exact hgg|exact hwg|exact hgb) ?_|refine O8.mk _ (by first|exact Hb (x:=o)|(simp only[List.set,bU,List.take,List.drop,JV,uV,yf,List.length];rfl)|rfl) ?_|refine aJ ci ?_|refine cy (a13:¬(13:Int)<13) ?_|refine ab hc ?_|refine aQ ?_|refine HpP.force ?_);conv=>whnf)
         refine N_i _ ?_ ?_
         ·exact hNx2
         ·exact qjh
        ·obtain⟨x1,x2⟩:=uC hn;obtain⟨r1,r2⟩:=VG hI hgi hm hA.bit hx;have ha:=qJ (G:=GG) hw ⟨1,[(gA g:Int)],g.u,0,0⟩ x1 x2 (rA w wa s g) false (by have:=r1.len;omega) (dE r1) r1.vl;have hga:dF w ⟨1,[(gA g:Int)],g.u,0,0⟩ (rA w wa s g)=dF w (xG (gA g)) (rA w wa s g):=rfl;rw[hga]at ha;rw[Bw hk,hcc]at hsn;clear hE6 hNx hx hI w1 hkd hgi hm hcc x1 x2 r1 r2 hga;generalize dF w (xG (gA g)) (rA w wa s g)=R2 at hsn ha;generalize rA w wa s g=R at hsn hc ha;generalize (wa.getD s.k 0).toNat=o at *;generalize gA g=n at *;obtain⟨k,ws,ug,gb,gi⟩:=g;obtain⟨r,bs,c,kk,f⟩:=s;dsimp only at hk hws hi0 hsn hc ha hwg hib hia⊢;subst hk hws hi0;have a14:¬(14:Int)<13:=qaj;by_cases ho1:o=1
         ·subst ho1;rw[if_pos rfl]at hsn;subst hsn;conv=>whnf
          repeat (refine O6.mk _ rfl ?_;conv=>whnf)
          intro t ht;cases t
          ·exact bu
          conv=>whnf
          repeat' first|((first|refine O6.mk _ TI ?_|refine O8.mk _ aK ?_|refine aJ ci ?_|refine cy (a14:¬(14:Int)<13) ?_|refine ab hc ?_|refine aQ ?_|refine aa ha ?_|refine HpP.force ?_);conv=>whnf)
          refine N_i _ ?_ ?_
          ·exact hNx2
          ·exact qjh
         ·rw[if_neg ho1]at hsn;have ho0:(o:Int)≠1:=qad;subst hsn;conv=>whnf
          repeat (refine O6.mk _ rfl ?_;conv=>whnf)
          intro t ht;cases t
          ·exact bu
          conv=>whnf
          repeat' first|((first|refine O6.mk _ TI ?_|refine O8.mk _ aK ?_|refine aJ ci ?_|refine cy (a14:¬(14:Int)<13) ?_|refine ab hc ?_|refine eh ho0 ?_|refine HpP.force ?_);conv=>whnf)
          refine N_i _ ?_ ?_
          ·exact hNx2
          ·exact qjh
     ·intro A_last3 I_last3;rw[pS];have hE0:=al0 I_last hcn I_last2 I_last3;have hR:Cp w l w b gs wa = .tup [cf w (cr w wa b l gs).r false,aP (cr w wa b l gs).bs true,iD (cr w wa b l gs).c,iD 0]:=by unfold Cp;rw[hE0,if_pos rfl]
      have hbl:=(ol hA hs gs.length (cF _) I_last3).bl;rw[pS]at hbl;rw[hR];generalize cr w wa b l gs=s at hbl⊢;conv=>whnf
      repeat (refine O6.mk _ rfl ?_;conv=>whnf)
      intro t ht;cases t;rotate_left
      ·exact bu
      conv=>whnf
      repeat' first|((first|refine O6.mk _ rfl ?_|refine O8.mk _ aK ?_|refine HpP.force ?_);conv=>whnf)
      exact fin (Mf (.d _) (fR rfl fF) (.d _) (.d _))
   ·have hcn:wa.length≠gs.countP mB:=by simp at ht;omega
    rw[Cq qaj (al2 I_last hcn)];exact fin (.d _)
 ·have hcw:cw≠w:=by simpa using ht
  rw[Cq qaj (F1 (.inl hcw))];exact fin (.d _)
end Go.Tz
namespace Go.Tz
open Go Go.AL Go.Proofs Go.Ma
theorem WZ:aq Tryz.f130=true:=ar
theorem AO(g:Gt):PC Pr GG 130 ([]++[g.d]++[]) (.bool (mB g)):=by
 obtain⟨k,ws,u,b,i⟩:=g;show PC Pr GG 130 [(Gt.mk k ws u b i).d] _;refine ae pok Tryz.func130 WZ ?_;conv=>whnf
 repeat' first|(refine O6.mk _ rfl ?_;conv=>whnf)|(intro t ht;cases t<;>conv=>whnf)
 all_goals refine fin ?_
 all_goals refine Kq ?_
 all_goals (unfold mB;simp at *;try omega)
theorem Xc:aq Tryz.f133=true:=ar
theorem SY(g:Gt):PC Pr GG 133 [g.d] (.bool (bV g.k)):=by
 obtain⟨k,ws,u,b,i⟩:=g;refine ae pok Tryz.func133 Xc ?_;conv=>whnf
 repeat' first|(refine O6.mk _ rfl ?_;conv=>whnf)|(intro t ht;cases t<;>conv=>whnf)
 all_goals refine fin ?_
 all_goals refine Kq ?_
 all_goals (unfold bV;simp at *;try omega)
theorem Xb:aq Tryz.f132=true:=ar
theorem ok132(g:Gt):PC Pr GG 132 ([]++[g.d]++[.rop [.fn 130 [] []] 0]) (.bool (vv g)):=by
 have c1:=AO g;have c2:=SY g;have e:vv g=(mB g||bV g.k):=rfl;rw[e];generalize mB g=m at c1⊢;generalize bV g.k=n at c2⊢;show PC Pr GG 132 [g.d,.rop [.fn 130 [] []] 0] _;refine ae pok Tryz.func132 Xb ?_;conv=>whnf
 repeat' first|((first|refine O6.mk _ rfl ?_|refine cK c1 rfl ?_);conv=>whnf)|(refine cc c2 ?_)|(intro t ht;cases t<;>conv=>whnf)
 all_goals refine fin ?_
 all_goals refine Kq ?_
 all_goals simp_all
theorem Xe:aq Tryz.f135=true:=ar
theorem Wz(x:Int):PC Pr GG 135 ([]++[iD x]++[]) (.bool (!cV x 0 1)):=by
 show PC Pr GG 135 [iD x] _;refine ae pok Tryz.func135 Xe ?_;conv=>whnf
 repeat' first|(intro t ht;cases t<;>conv=>whnf)
 all_goals refine fin ?_
 all_goals refine Kq ?_
 all_goals (unfold cV;simp at *;try omega)
end Go.Tz
