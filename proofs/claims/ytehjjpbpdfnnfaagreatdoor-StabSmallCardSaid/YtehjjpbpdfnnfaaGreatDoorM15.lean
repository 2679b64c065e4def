import Derived.Test.YtehjjpbpdfnnfaaGreatDoorM00
import Derived.Test.YtehjjpbpdfnnfaaGreatDoorM14
/- The examples, limits and errors of the states kept as strings: the closed law StabSmall answers true; it has no arguments and no further conditions. -/
namespace Go.Proofs.YtehjjpbpdfnnfaaGreatDoor
open Go Go.AL Go.Tz Go.Proofs Go.ChangeShapes Go.WideShapes Go.ChangeAt Go.RowKit Go.Deep
noncomputable abbrev cP:=Tryz.pinned.checked.prog
theorem own:ownKnob Tryz.prog.godebug=none:=ar
theorem cj2:laidOutB cP=true:=ar
theorem cj3:mapsRowed cP=true:=ar
theorem cj7:(Program.stops cP==[])=true:=ar
theorem cj9:(Program.stopKnobs cP==[])=true:=ar
theorem cj20:(OpenClaim.plainKeys Rows.stabChecksRow==Program.plainKeys cP)=true:=ar
theorem cj22:Program.stopsHeard cP=true:=ar
theorem cj23:Program.mayEnter cP=true:=ar
theorem cj24:(OpenClaim.lifted Rows.stabChecksRow==Program.liftsFinal cP)=true:=ar
theorem cj25:(Program.make cP==some (OpenClaim.make Rows.stabChecksRow))=true:=ar
theorem cjM : Program.mainIs cP = some (true, String.toList "8b097af312537285be51cb7f5f4f0726b8661743bb377639627160fb316d0ecd") := by kernel_rfl
theorem cjL:false=Program.looks cP []:=ar
end Go.Proofs.YtehjjpbpdfnnfaaGreatDoor
namespace Go.Tz
open Go Go.AL Go.Proofs
def Uk:List D->Option Ps
 | [.int .i64 w,.int .i64 x,.int .i64 z,.int .i64 p]=>some ⟨w,x,z,p⟩
 | _=>none
def VQ{α:Type}(f:List D->Option α):List (List D)->Option (List α)
 | []=>some []
 | a::l=>match f a,VQ f l with
  | some q,some m=>some (q::m)
  | _,_=>none
def toI:List D->Option Int
 | [.int .i64 a]=>some a
 | _=>none
def Qh:List D->Option Gt
 | [.int .i64 k,.sl l u,.int .i64 b,.int .i64 i]=>match VQ toI l with
  | some ws=>some ⟨k,ws,u,b,i⟩
  | none=>none
 | _=>none
theorem JQ{l:List D}{q:Ps}(h:Uk l=some q):q.l=l:=by
 unfold Uk at h;split at h
 ·cases h;rfl
 ·cases h
theorem Qi{l:List D}{q:Int}(h:toI l=some q):[iD q]=l:=by
 unfold toI at h;split at h
 ·cases h;rfl
 ·cases h
theorem tN{α:Type}{f:List D->Option α}{g:α->List D}(hf:∀ a q,f a=some q->g q=a):∀{l:List (List D)} {m:List α},VQ f l=some m->m.map g=l
 | [],m,h=>by cases h;rfl
 | a::l,m,h=>by
  unfold VQ at h;split at h
  ·rename_i q m' h1 h2;cases h;rw[nB,hf _ _ h1,tN hf h2]
  ·cases h
theorem BH{l:List D}{q:Gt}(h:Qh l=some q):q.l=l:=by
 unfold Qh at h;split at h
 ·split at h
  ·rename_i h1;cases h;show [_,D.sl (List.map (fun k=>[iD k]) _) _,_,_]=_;rw[tN (g:=fun k=>[iD k]) (fun _ _=>Qi) h1]
  ·cases h
 ·cases h
def Gb:D->Bool
 | .agg [.int .i64 _,.sl l _]=>(VQ Uk l).isSome
 | _=>false
def Su:D->Bool
 | .sl l _=>(VQ toI l).isSome
 | _=>false
def F6:D->Bool
 | .int .i64 _=>true
 | _=>false
def YN:D->Bool
 | .agg l=>(Uk l).isSome
 | _=>false
def YM:D->Bool
 | .agg l=>(Qh l).isSome
 | _=>false
def Sr:D->Bool
 | .agg [.int .i64 _,.int .i64 _,.sl l _]=>(VQ Qh l).isSome
 | _=>false
theorem ru{d:D}(h:Gb d=true):∃ w l t,d=cf w l t:=by
 unfold Gb at h;split at h
 ·obtain⟨m,hm⟩:=wdg.1 h;exact⟨_,m,_,by rw[cf,az,tN (fun _ _=>JQ) hm]⟩
 ·cases h
theorem Jb{d:D}(h:Su d=true):∃ l t,d=aP l t:=by
 unfold Su at h;split at h
 ·obtain⟨m,hm⟩:=wdg.1 h;exact⟨m,_,by rw[aP,tN (g:=fun k=>[iD k]) (fun _ _=>Qi) hm]⟩
 ·cases h
theorem AG{d:D}(h:F6 d=true):∃ n,d=iD n:=by
 unfold F6 at h;split at h
 ·exact⟨_,rfl⟩
 ·cases h
theorem Sv{d:D}(h:YN d=true):∃ q:Ps,d=q.d:=by
 unfold YN at h;split at h
 ·obtain⟨m,hm⟩:=wdg.1 h;exact⟨m,by rw[Ps.d,JQ hm]⟩
 ·cases h
theorem Ss{d:D}(h:YM d=true):∃ q:Gt,d=q.d:=by
 unfold YM at h;split at h
 ·obtain⟨m,hm⟩:=wdg.1 h;exact⟨m,by rw[Gt.d,BH hm]⟩
 ·cases h
theorem Ja{d:D}(h:Sr d=true):∃ w b l t,d=ei w b l t:=by
 unfold Sr at h;split at h
 ·obtain⟨m,hm⟩:=wdg.1 h;exact⟨_,_,m,_,by rw[ei,bN,tN (fun _ _=>BH) hm]⟩
 ·cases h
def smB(gs:List Gt):Bool:=decide (gs.length<=1000)&&gs.all fun g=>decide (g.ws.length<=1000)
def O7:Ov:=fun f ds=>match f with
 | 46=>match ds with
  | [.agg [.int .i64 w,.int .i64 b,.sl l _]]=>match VQ Qh l with
   | some gs=>match decide (w=2)&&smB gs with
    | true=>match decide (nu 2 b gs=0) with
     | true=>some (.tup [cf 2 (kY 2 gs) false,iD 0])
     | false=>some (.tup [cf 0 [] true,iD (nu 2 b gs)])
    | false=>none
   | none=>none
  | _=>none
 | 15=>match ds with
  | []=>some (.bool true)
  | _=>none
 | 4=>match ds with
  | [a,b,c,d]=>match Gb a&&(Gb b&&(Su c&&F6 d)) with
   | true=>some (.bool true)
   | false=>none
  | _=>none
 | 5=>match ds with
  | [a,b,c,d]=>match Gb a&&(Sr b&&(YM c&&YN d)) with
   | true=>some (.bool true)
   | false=>none
  | _=>none
 | 6=>match ds with
  | [a,b,c,d,e]=>match Gb a&&(F6 b&&(F6 c&&(Sr d&&Su e))) with
   | true=>some (.bool true)
   | false=>none
  | _=>none
 | 3=>match ds with
  | [a,b]=>match Gb a&&F6 b with
   | true=>some (.bool true)
   | false=>none
  | _=>none
 | _=>none
theorem OC(f:FuncId)(ds:List D)(d:D)(h:O7 f ds=some d):PC Pr GG f ds d:=by
 unfold O7 at h;split at h
 ·split at h
  ·split at h
   ·rename_i gs hgs;split at h
    ·rename_i h1;simp only[smB,li,decide_eq_true_eq,lh]at h1;obtain⟨rfl,h2,h3⟩:=h1;have hl:=tN (fun _ _=>BH) hgs;subst hl;split at h
     ·rename_i h4;cases h;exact xc (w:=2) (of_decide_eq_true h4) _ h2 h3
     ·rename_i h4;cases h;exact nY (of_decide_eq_false h4) _ h2 h3
    ·cases h
   ·cases h
  ·cases h
 ·split at h
  ·cases h;exact av
  ·cases h
 ·split at h
  ·split at h
   ·rename_i h1;simp only[li]at h1;obtain⟨w,l,t,rfl⟩:=ru h1.1;obtain⟨w',l',t',rfl⟩:=ru h1.2.1;obtain⟨ks,u,rfl⟩:=Jb h1.2.2.1;obtain⟨n,rfl⟩:=AG h1.2.2.2;cases h;exact Ry ..
   ·cases h
  ·cases h
 ·split at h
  ·split at h
   ·rename_i h1;simp only[li]at h1;obtain⟨w,l,t,rfl⟩:=ru h1.1;obtain⟨cw,cb,gs,ct,rfl⟩:=Ja h1.2.1;obtain⟨g,rfl⟩:=Ss h1.2.2.1;obtain⟨p,rfl⟩:=Sv h1.2.2.2;cases h;exact Yy ..
   ·cases h
  ·cases h
 ·split at h
  ·split at h
   ·rename_i h1;simp only[li]at h1;obtain⟨w,l,t,rfl⟩:=ru h1.1;obtain⟨n,rfl⟩:=AG h1.2.1;obtain⟨o,rfl⟩:=AG h1.2.2.1;obtain⟨cw,cb,gs,ct,rfl⟩:=Ja h1.2.2.2.1;obtain⟨wa,u,rfl⟩:=Jb h1.2.2.2.2;cases h;exact KC ..
   ·cases h
  ·cases h
 ·split at h
  ·split at h
   ·rename_i h1;simp only[li]at h1;obtain⟨w,l,t,rfl⟩:=ru h1.1;obtain⟨n,rfl⟩:=AG h1.2;cases h;exact QA ..
   ·cases h
  ·cases h
 ·cases h
theorem o7_ok:Go.AL.OvOk Pr GG O7:=OY OC
noncomputable abbrev E7(q:Nat):Ex:=exec FF tab GG O7 q
theorem Nl(q:Nat):ExOk Pr GG (E7 q):=Iz Nz o7_ok pok.tab pok.mixed q
end Go.Tz
namespace Go.Tz
open Go Go.AL Go.Proofs
variable{G:Nat->Option (List D)}{P:Program}
def Vm(H:AHeap)(v:AV):AV:=match eY H 9 [] v with
 | some d=>.d d
 | none=>v
def fzB(H:AHeap):Blk->Blk
 | .arr sz els=>.arr sz (els.map fun el=>el.map (Vm H))
 | b=>b
def fzH(H:AHeap)(H':AHeap):AHeap:=H'.map fun p=>(p.1,p.2.map (fzB H))
def Vk(H:AHeap)(e:List (Nat×AV)):List (Nat×AV):=e.map fun p=>(p.1,Vm H p.2)
def fzS(L:List Nat)(st:St):St:=⟨Vk (kV 0 L st.heap) st.env,fzH (kV 0 L st.heap) (gF L st.heap),st.nx⟩
theorem IK(H:AHeap)(nm:Nat):∀ H':AHeap,(fzH H H').get nm=(H'.get nm).map (fzB H)
 | []=>rfl
 | (k,b)::r=>by
  have ih:=IK H nm r;by_cases e:nm=k
  ·subst e;show AHeap.get ((nm,b.map (fzB H))::fzH H r) nm=_;rw[ao,ao]
  ·show AHeap.get ((k,b.map (fzB H))::fzH H r) nm=_;rw[ai _ _ e,ai _ _ e,ih]
theorem NL(H:AHeap)(t:Nat):∀ e:List (Nat×AV),lk (Vk H e) t = .top\/lk (Vk H e) t=Vm H (lk e t)
 | []=>.inl rfl
 | (k,v)::e=>by
  by_cases h:t=k
  ·subst h;refine .inr ?_;show lk ((t,Vm H v)::Vk H e) t=_;rw[ba,ba]
  ·show lk ((k,Vm H v)::Vk H e) t=_\/lk ((k,Vm H v)::Vk H e) t=_;rw[aV _ _ h,aV _ _ h];exact NL H t e
theorem Iu{nm:Nat}{b:Blk}:∀(L:List Nat) (H:AHeap),(gF L H).get nm=some b->H.get nm=some b
 | [],_,h=>h
 | m::L,H,h=>by
  have:=Iu L _ h;rw[dD]at this;split at this
  ·cases this
  ·exact this
theorem Hg{bb:Nat}{ms:List Nat}(L:List Nat)(st:St):Sub G bb ms st (fzS L st):=by
 intro k C ac hR;obtain⟨C',w',u',b',g,tt,r,q⟩:=gH L hR.heap;have hHL:P0 G C (kV 0 L st.heap):=iv hR.heap fun m bl h=>(jK m bl h).2;have hcell:∀ v x,O9 C v x->O9 C' (Vm (kV 0 L st.heap) v) x:=fun v x hx=>by
  unfold Vm;split
  ·rename_i d hd;have:=jR hHL (RO:=C'.RO) r (fun m bl j h1 h2=>q m bl j (jK m bl h1).1 (jK m bl h1).2 h2) (ff _ _ _ _ hd) x hx;exact .d _ _ (by rw[w'];exact this)
  ·exact hx.later tt hR.heap
 have hget:∀ nm b,(fzH (kV 0 L st.heap) (gF L st.heap)).get nm=some b->∃ b0,(gF L st.heap).get nm=some b0/\b=fzB (kV 0 L st.heap) b0:=fun nm b h=>by
  rw[IK]at h;cases hg:(gF L st.heap).get nm with
  | none=>rw[hg]at h;cases h
  | some b0=>rw[hg]at h;cases h;exact⟨b0,rfl,rfl⟩
 refine⟨C',w',⟨⟨fun nm b h=>?_,fun nm nm' b1 b2 j h1 h2 h3 h4=>?_,g.ro,g.glob⟩,⟨hR.env.size,fun m=>?_⟩,fun m hm=>?_,fun m hm=>?_,?_⟩,fun X hX=>?_⟩
 ·obtain⟨b0,h0,rfl⟩:=hget nm b h;obtain⟨hU,hB⟩:=g.blk nm b0 h0;refine⟨hU,?_⟩;have hB0:=(hR.heap.blk nm b0 (Iu L _ h0)).2;cases b0 with
  | arr sz els =>
   rcases hB with⟨e1,e2⟩|⟨k',cs,ty,g1,g2,g3,g4,g5,g6⟩
   ·exact .inl ⟨e1,by rw[e2];rfl⟩
   rcases hB0 with⟨e1,e2⟩|⟨k2,cs2,ty2,f1,f2,f3,f4,f5,f6⟩
   ·rw[b',e1]at g1;cases g1
   rw[b',f1]at g1;cases g1;rw[w',f2]at g2;cases g2;refine .inr ⟨_,_,_,by rw[b'];exact f1,by rw[w'];exact f2,g3,by rw[ef];exact f4,fun el hel=>?_,fun i j el v a1 a2=>?_⟩
   ·obtain⟨el0,h1,rfl⟩:=bm.1 hel;rw[ef];exact f5 el0 h1
   ·rw[mV]at a1;cases ho:els[i]? with
    | none=>rw[ho]at a1;cases a1
    | some el0 =>
     rw[ho]at a1;cases a1;rw[mV]at a2;cases hv:el0[j]? with
     | none=>rw[hv]at a2;cases a2
     | some v0 =>
      rw[hv]at a2;cases a2;obtain⟨x,x1,x2⟩:=f6 i j el0 v0 ho hv;exact⟨x,x1,hcell _ _ x2⟩
  | _=>exact hB
 ·obtain⟨c1,q1,_⟩:=hget _ _ h1;obtain⟨c2,q2,_⟩:=hget _ _ h2;exact g.inj nm nm' c1 c2 j q1 q2 h3 h4
 ·rcases NL (kV 0 L st.heap) m st.env with e|e
  ·show O9 C' (lk (Vk _ st.env) m) _;rw[e];exact .top _
  ·show O9 C' (lk (Vk _ st.env) m) _;rw[e];exact hcell _ _ (hR.env.env m)
 ·rw[u']at hm;exact hR.names m hm
 ·rw[u'];exact hR.marks m hm
 ·rw[hR.defers];exact(eo tt hR.marks).symm
 ·have h5:=tt.weaken (Y:=X) fun m hm=>(hX m hm).1;refine{ os:=h5.os,tape:=h5.tape,output:=h5.output,size:=h5.size,shape:=h5.shape,frame:=h5.frame,names:=h5.names,ros:=h5.ros,img:=fun m bl j h1 h6 h7=>?_,rob:=h5.rob };obtain⟨b0,h0,_⟩:=hget m bl h1;exact h5.img m b0 j h0 h6 h7
end Go.Tz
namespace Go.Tz
open Go Go.AL Go.Proofs
variable{G:Nat->Option (List D)}{P:Program}{r:Option Nat}
theorem yK{ops:Array Oper}{H0:AHeap}{K K1:List (Nat×AV)->List HE->Nat->Prop}{l2:List Oper}:∀(l1:List Oper) (i:Nat) (env:List (Nat×AV)) (effs:List HE) (lo:Nat),(∀ env effs lo,K1 env effs lo->ua r P G ops H0 K l2 (i+l1.length) env effs lo)->ua r P G ops H0 K1 l1 i env effs lo->ua r P G ops H0 K (l1++l2) i env effs lo
 | [],i,env,effs,lo,hk,h=>hk _ _ _ h
 | o::l1,i,env,effs,lo,hk,h=>by
  obtain⟨he,h1,h2⟩:=h;exact⟨he,h1,yK l1 (i+1) _ _ _ (fun env effs lo h=>by
   have:=hk env effs lo h;rw[Ln]at this
   rwa [show i+1+l1.length=i+(l1.length+1) by omega]) h2⟩
noncomputable def Ys(env:List (Nat×AV))(lo:Nat)(o:Oper):Option (List (List D)×Bool×Nat):=match Hk (DI (AV×AHeap×Nat)) tab GG ⟨env,[],0⟩ lo o fun v N n=>some (v,N,n) with
 | some (.sl nm S 0 len room t,[(nm',some (.arr S' els))],n)=>match fb mh els with
  | some es=>match decide (nm'=nm/\S'=S/\room=len/\len=es.length) with
   | true=>some (es,t,n)
   | false=>none
  | none=>none
 | _=>none
theorem Sb{env:List (Nat×AV)}{lo:Nat}{o:Oper}{es:List (List D)}{t:Bool}{n:Nat}(h:Ys env lo o=some (es,t,n)):vG r Pr GG o (sD GG env) [] (.d (.sl es t)) [] none lo (lo+n):=by
 unfold Ys at h;split at h
 ·rename_i nm S len room t' nm' S' els n' hv;split at h
  ·rename_i es' hes;split at h
   ·rename_i hd;simp only[decide_eq_true_eq]at hd;obtain⟨rfl,rfl,rfl,hl⟩:=hd;simp only[tU,Cl]at h;obtain⟨rfl,rfl,rfl⟩:=h;have ok:=OH (R:=AV×AHeap×Nat) (.sl nm' S' 0 room room t',[(nm',some (.arr S' els))],n');obtain⟨v,N,k,e1,e2,e3⟩:=qq (T:=tab) ok pok.tab hv;have e1:some (v,N,k)=some (AV.sl nm' S' 0 room room t',[(nm',some (Blk.arr S' els))],n'):=e1;cases e1;refine qZ (BJ ok hv) fun H2 _=>?_;have hels:els=es'.map (·.map AV.d):=by
     obtain⟨m1,m2⟩:=cE hes;refine wea fun q=>?_;rw[mV];cases hq:els[q]? with
     | none =>
      rw[wdn (by rw[<- m1];exact List.getElem?_eq_none_iff.1 hq)];rfl
     | some el =>
      have hlt:q<es'.length:=by rw[<- m1];exact(nt.1 hq).1
      rw[ew hlt];exact congrArg some (fu _ _ (m2 q el _ hq (ew hlt)))
    have hst:=e3 H2 (fun nm bl h=>by cases h);rw[hels]at hst;intro C a hH hop hn;obtain⟨C2,rr,h1,h2,h3,h4,h5⟩:=EC hst hl C a hH hop hn;have hsub:∀ m bl,H2.get m=some bl->(gF [nm'] ((nm',some (ap S' es'))::H2)).get m=some bl:=fun m bl hg=>by
     have hU:=(hH.blk m bl hg).1;have hne:m≠nm':=fun e=>hn nm' (e2 _ (mb.2 rfl)) (e ▸ hU);show(AHeap.del _ nm').get m=_;rw[dD,if_neg hne,ai _ _ hne];exact hg
    exact⟨C2,rr,h1,h2,iv h3 hsub,h4.anti hsub,h5⟩
   ·cases h
  ·cases h
 ·cases h
noncomputable def rdr(f:Nat)(ops:Array Oper)(st:St):Option St :=
 match uD (DI (List (Nat×AV)×List HE×Nat)) tab GG (iE _ (E7 300)) ops st.heap (ops.toList.take f) 0 st.env [] st.nx fun e fs l=>some (e,fs,l) with
 | some (env,fs,lo)=>match ops.toList.drop f with
  | o::rest=>match kF ops env o,Ys env lo o with
   | some true,some (es,t,n)=>match uD (DI (List (Nat×AV)×List HE×Nat)) tab GG (iE _ (E7 300)) ops st.heap rest (f+1) (yU o.dst (.d (.sl es t)) env) (fs++[⟨.d (.sl es t),[],none,[],lo+n⟩]) (lo+n) fun e fs l=>some (e,fs,l) with
    | some (env,fs,lo)=>some ⟨env,dS fs st.heap,lo⟩
    | none=>none
   | _,_=>none
  | []=>none
 | none=>none
theorem B4{N b f id:Nat}{ms:List Nat}{ops:Array Oper}{st st':St}(hB:zf ops ops.size N=true)(hf:f<ops.size)(h:rdr f ops st=some st'):kw r Pr GG N b (.region id ops true) st ms fun e s m=>m=ms/\e = .normal/\s=st':=by
 unfold rdr at h;split at h
 ·rename_i env fs lo h1;split at h
  ·rename_i o rest hd;split at h
   ·rename_i es t n hg hz;split at h
    ·rename_i env2 fs2 lo2 h2;cases h;refine CB ops.size pok.mixed hB ?_;have e0:ops.toList.take ops.size=ops.toList.take f++o::rest:=by
      rw[<- hd,List.take_append_drop];exact pT (Nat.le_of_eq wd0)
     rw[e0];have hx:∀ res:List (Nat×AV)×List HE×Nat,XOk Pr GG (DI _) (fun w=>w=some res) tab (mo _ (E7 300)) (iE _ (E7 300)):=fun res=>tX res (Nl 300) pok.tab pok.mixed;refine yK (K1:=fun e x l=>(e,x,l)=(env,fs,lo)) _ _ _ _ _ ?_ (jh (hx (env,fs,lo)).ok pok.tab (hx (env,fs,lo)).dcall (fun e x l q=>ku q) _ _ _ _ _ h1);rintro e x l q;cases q;have hlen:(ops.toList.take f).length=f:=by rw[BZ,wd0];omega
     rw[jj,hlen];refine⟨⟨.d (.sl es t),[],none,[],lo+n⟩,.go _ [] hg (Nat.le_add_right _ _) (fun p hp=>by cases hp) (fun p hp=>by cases hp) (fun p hp=>by cases hp) (fun q hq=>by cases hq) (Sb hz),?_⟩;refine jh (hx (env2,fs2,lo2)).ok pok.tab (hx (env2,fs2,lo2)).dcall (fun e x l q=>?_) _ _ _ _ _ h2;have q:=ku q;cases q;refine⟨dS fs2 st.heap,fun _ _ h=>h,?_⟩;rw[List.drop_of_length_le (Nat.le_of_eq wd0)];exact⟨rfl,rfl,rfl⟩
    ·cases h
   ·cases h
  ·cases h
 ·cases h
end Go.Tz
namespace Go.Tz
open Go Go.AL Go.Proofs
variable{r:Option Nat}
def undr(H:AHeap):AV->List AV
 | .ptr nm _ _ _=>match H.get nm with
  | some (.arr _ els)=>els.flatten
  | _=>[]
 | v=>[v]
def frz(id:Nat)(st:St):St:=match Nat.beq id 18 with
 | true=>fzS (Go.AL.mark st.heap 300 (kX (undr st.heap (lk st.env 92)) []) []) st
 | false=>match Nat.beq id 21 with
  | true=>fzS (Go.AL.mark st.heap 300 (kX (undr st.heap (lk st.env 9)) []) []) st
  | false=>st
theorem Uf{b:Nat}{ms:List Nat}(id:Nat)(st:St):Sub GG b ms st (frz id st):=by
 unfold frz;split
 ·exact Hg _ _
 ·split
  ·exact Hg _ _
  ·exact Sub.refl
noncomputable def zc(c:Code)(st:St):Option (Exit×St):=oH (DI (Exit×St)) tab GG (mo _ (E7 300)) (iE _ (E7 300)) (qe _ (E7 300) 0) c st fun e s=>some (e,s)
theorem Wl{N b:Nat}{ms:List Nat}{c:Code}{st st':St}{e:Exit}(hc:bf N c=true)(h:zc c st=some (e,st')):kw r Pr GG N b c st ms fun e' s m=>m=ms/\e'=e/\s=st':=by
 refine bd (bJ (tX (e,st') (Nl 300) pok.tab pok.mixed) (lH (r:=r) (n:=N) (b:=b) (ms:=ms) (Nl 300)) c st _ hc h) ?_;rintro e2 s2 m2 ⟨hm2,h3⟩;have h3:some (e2,s2)=some (e,st'):=h3;simp only[tU,Cl]at h3;exact⟨hm2,h3⟩
noncomputable def zrg(id:Nat)(ops:Array Oper)(draw:Bool)(st:St):Option (Exit×St):=match Nat.beq id 43&&draw with
 | true=>match zf ops ops.size 321&&Nat.blt 32 ops.size with
  | true=>match rdr 32 ops st with
   | some s=>some (.normal,s)
   | none=>none
  | false=>none
 | false=>zc (.region id ops draw) (frz id st)
noncomputable def mW:Nat->Code->St->Option (Exit×St)
 | 0,_,_=>none
 | n+1,c,st=>match c with
  | .seq a b=>match mW n a st with
   | some (.normal,s)=>mW n b s
   | x=>x
  | .block id a=>match mW n a st with
   | some (.exit i,s)=>match Nat.beq i id with
    | true=>some (.normal,s)
    | false=>some (.exit i,s)
   | x=>x
  | .cond x a b=>match st.ev GG x with
   | .d (.bool true)=>mW n a st
   | .d (.bool false)=>mW n b st
   | _=>none
  | .loop a=>match mW n a st with
   | some (.normal,s)=>mW n (.loop a) (xO 0 s)
   | x=>x
  | .region id ops draw=>zrg id ops draw st
  | c=>zc c st
theorem F0{b:Nat}{ms:List Nat}{id:Nat}{ops:Array Oper}{draw:Bool}{st st':St}{e:Exit}(hc:bf 321 (.region id ops draw)=true)(h:zrg id ops draw st=some (e,st')):kw r Pr GG 321 b (.region id ops draw) st ms fun e' s m=>m=ms/\e'=e/\s=st':=by
 unfold zrg at h;split at h
 ·rename_i h0;simp only[li]at h0;obtain⟨_,rfl⟩:=h0;split at h
  ·rename_i h1;simp only[li]at h1;split at h
   ·rename_i s hs;cases h;exact B4 h1.1 (by simpa using h1.2) hs
   ·cases h
  ·cases h
 ·exact zS (Uf id st) (Wl hc h)
theorem Ka{b:Nat}{ms:List Nat}:∀(n:Nat) (c:Code) (st:St) (e:Exit) (st':St),bf 321 c=true->mW n c st=some (e,st')->kw r Pr GG 321 b c st ms fun e' s m=>m=ms/\e'=e/\s=st':=by
 intro n
 induction n using Nat.strongRecOn with
 | _ n ih =>
  intro c st e st' hc h;cases n with
  | zero=>cases h
  | succ n =>
   have ih1:=ih n (Ck n);cases c with
   | seq a d =>
    simp only[bf,li]at hc;simp only[mW]at h;refine jx ?_;split at h
    ·rename_i s hs;refine bd (ih1 a st _ _ hc.1 hs) ?_;rintro e2 s2 m2 ⟨rfl,rfl,rfl⟩;exact ih1 d _ _ _ hc.2 h
    ·rename_i x hx;refine bd (ih1 a st _ _ hc.1 h) ?_;rintro e2 s2 m2 ⟨rfl,rfl,rfl⟩;cases e2 with
     | normal=>exact(hx _ h).elim
     | _=>exact⟨rfl,rfl,rfl⟩
   | block id a =>
    simp only[mW]at h;refine oM ?_;split at h
    ·rename_i i s hs;refine bd (ih1 a st _ _ hc hs) ?_;rintro e2 s2 m2 ⟨rfl,rfl,rfl⟩;simp only[sQ];split at h
     ·exact qgl
     ·exact qgl
    ·rename_i x hx;refine bd (ih1 a st _ _ hc h) ?_;rintro e2 s2 m2 ⟨rfl,rfl,rfl⟩;cases e2 with
     | exit i=>exact(hx _ _ h).elim
     | _=>exact⟨rfl,rfl,rfl⟩
   | cond x a d =>
    simp only[bf,li]at hc;simp only[mW]at h;split at h
    ·rename_i hv;exact iP hv (fun _=>ih1 a _ _ _ hc.1 h) (fun e=>by cases e)
    ·rename_i hv;exact iP hv (fun e=>by cases e) (fun _=>ih1 d _ _ _ hc.2 h)
    ·cases h
   | loop a =>
    refine nJ (σ:={ p:Nat×St // p.1<=n+1/\mW p.1 (.loop a) p.2=some (e,st') }) (fun p=>p.1.2) (fun p=>p.1.1) ⟨(n+1,st),cF _,h⟩ Sub.refl ?_;rintro⟨⟨q1,s⟩,hq1,h1⟩;cases q1 with
    | zero=>cases h1
    | succ q1 =>
     have hq2:q1+1<=n+1:=hq1;have ih2:=ih q1 qad;have h2:mW (q1+1) (.loop a) s=some (e,st'):=h1;simp only[mW]at h2;split at h2
     ·rename_i s1 hr;refine bd (ih2 a s _ _ hc hr) ?_;rintro e2 s2 m2 ⟨rfl,rfl,rfl⟩;exact⟨rfl,⟨(q1,xO 0 s2),by simp only;omega,h2⟩,EL,Ck q1⟩
     ·rename_i x hx;refine bd (ih2 a s _ _ hc h2) ?_;rintro e2 s2 m2 ⟨rfl,rfl,rfl⟩;cases e2 with
      | normal=>exact(hx _ h2).elim
      | _=>exact⟨rfl,rfl,rfl⟩
   | region id ops draw=>exact F0 hc h
   | _=>exact Wl hc h
end Go.Tz
namespace Go.Tz
open Go Go.AL Go.Proofs
noncomputable def prj(J:St)(r:Option (Exit×St)):Option (Exit×List AV×List (Option Blk)):=match r with
 | some (e,s)=>some (e,J.env.map (fun p=>lk s.env p.1),J.heap.map fun p=>s.heap.get p.1)
 | none=>none
abbrev cL(i:Nat)(st J:St)(e:Exit):Prop:=prj J (mW 900 (fa Tryz.f7 i) st)=some (e,J.env.map (·.2),J.heap.map (·.2))
theorem aA{i:Nat}{st J:St}{e:Exit}(h:prj J (mW 900 (fa Tryz.f7 i) st)=some (e,J.env.map (·.2),J.heap.map (·.2))):cL i st J e:=h
def vs7:List Int:=[-9223372036854775808,-1,0,1,2,3,4,12,13,9223372036854775807]
abbrev J0(i:Nat):St:=⟨[(0,.d (.bool false)),(19,.sl 0 1 0 10 10 true),(20,.d (iD 10)),(21,.d (iD i))],[(0,some (.arr 1 (vs7.map fun v=>[.d (iD v)])))],1⟩
def ws7:List (List D):=[[.sl [[iD 0]] true],[.sl [[iD 1]] true],[.sl [[iD 0],[iD 1]] true],[.sl [[iD 1],[iD 0]] true]]
abbrev J3(k j:Nat):St:=⟨[(0,.d (.bool false)),(6,.d (iD k)),(85,.d (iD k)),(92,.d (.sl ws7 true)),(93,.d (iD 4)),(94,.d (iD j))],[],0⟩
abbrev J5(i:Nat):St:=⟨[(0,.d (.bool false)),(210,.d (iD i))],[],0⟩
theorem HP{α:Type}{f g:α->AV}:∀{l:List α},l.map f=l.map g->∀ x,x∈l->f x=g x
 | [],_,x,hx=>by cases hx
 | a::l,h,x,hx=>by
  rw[nB,nB]at h;rcases jJ.1 hx with e|hx
  ·rw[e];exact(List.cons.inj h).1
  ·exact HP (List.cons.inj h).2 x hx
theorem zM{α:Type}{p:α->Prop}:∀{l:List α},(∀ x,x∈l->p x)->AllP p l
 | [],_=>trivial
 | a::l,h=>⟨h a (sF ..),zM fun x hx=>h x (eJ _ hx)⟩
def HV(n:Nat):Nat×Option Blk->Bool
 | (k,some (.arr _ els))=>Nat.blt k n&&els.all fun el=>AV.bels n el
 | _=>false
theorem JN{i b:Nat}{ms:List Nat}{st J s:St}{e e':Exit}(h:cL i st J e)(hr:mW 900 (fa Tryz.f7 i) st=some (e',s))(hb:b<=J.nx)(h1:(J.env.all fun p=>p.2.bel J.nx)=true)(h2:List.all J.heap (HV J.nx)=true)(hms:AllP (fun m=>m<J.nx) ms):e'=e/\Sub GG b ms s J:=by
 unfold cL at h;rw[hr]at h;simp only[prj,tU,Cl]at h;obtain⟨rfl,ha,hh⟩:=h;refine⟨rfl,ah hb (zM fun p hp=>⟨HP ha p hp,lh.1 h1 p hp⟩) (zM fun p hp=>?_) hms⟩;have q:=lh.1 h2 p hp;obtain⟨k,bl⟩:=p;have hg:s.heap.get k=bl:=by
  have:∀{l:List (Nat×Option Blk)},l.map (fun p=>s.heap.get p.1)=l.map (·.2)->∀ x,x∈l->s.heap.get x.1=x.2:=by
   intro l
   induction l with
   | nil=>intro _ x hx;cases hx
   | cons a l ih =>
    intro h x hx;rw[nB,nB]at h;rcases jJ.1 hx with e|hx
    ·rw[e];exact(List.cons.inj h).1
    ·exact ih (List.cons.inj h).2 x hx
  exact this hh _ hp
 unfold HV at q;split at q
 ·rename_i k' sz els heq;cases heq;simp only[li]at q;exact⟨by simpa using q.1,_,rfl,hg,fun el hel=>lh.1 q.2 el hel⟩
 ·cases q
theorem Ap{i b N:Nat}{ms:List Nat}{st JL:St}{e:Exit}{k:Exit->St->Prop}(J:Nat->St)(h0:Sub GG b ms st (J 0))(hc:bf 321 (fa Tryz.f7 i)=true)(hrun:∀ j,j<N->cL i (J j) (J (j+1)) .normal)(hl:cL i (J N) JL e)(he:e ≠ .normal)
  (hb:∀ j,b<=(J j).nx/\((J j).env.all fun p=>p.2.bel (J j).nx)=true/\List.all (J j).heap (HV (J j).nx)=true/\AllP (fun m=>m<(J j).nx) ms) (hbl:b<=JL.nx/\(JL.env.all fun p=>p.2.bel JL.nx)=true/\List.all JL.heap (HV JL.nx)=true/\AllP (fun m=>m<JL.nx) ms) (hk:k e JL):P2 Pr GG 321 b ms (fa Tryz.f7 i) st k:=by
 refine kf ⟨fun r=>nJ (σ:={ j:Nat // j<=N }) (fun s=>J s.1) (fun s=>N-s.1) ⟨0,dW _⟩ h0 ?_⟩;rintro⟨j,hj⟩;rcases wa1 j N with h|h
 ·have hR:=hrun j h;cases hz:mW 900 (fa Tryz.f7 i) (J j) with
  | none=>unfold cL at hR;rw[hz]at hR;cases hR
  | some p =>
   obtain⟨e',s⟩:=p;obtain⟨a1,a2,a3,a4⟩:=hb (j+1);obtain⟨rfl,hs⟩:=JN hR hz a1 a2 a3 a4;refine bd (Ka 900 _ _ _ _ hc hz) ?_;rintro e2 s2 m2 ⟨rfl,rfl,rfl⟩;exact⟨rfl,⟨j+1,h⟩,hs,by show N-(j+1)<N-j;omega⟩
 ·have:j=N:=by omega
  subst this;cases hz:mW 900 (fa Tryz.f7 i) (J j) with
  | none=>unfold cL at hl;rw[hz]at hl;cases hl
  | some p =>
   obtain⟨e',s⟩:=p;obtain⟨a1,a2,a3,a4⟩:=hbl;obtain⟨rfl,hs⟩:=JN hl hz a1 a2 a3 a4;refine bd (Ka 900 _ _ _ _ hc hz) ?_;rintro e2 s2 m2 ⟨rfl,rfl,rfl⟩;cases e2 with
   | normal=>exact(he rfl).elim
   | _=>exact⟨rfl,JL,hs,hk⟩
end Go.Tz
namespace Go.Tz
open Go Go.AL Go.Proofs
theorem v7_0:cL 0 (J0 0) (J0 1) .normal:=aA ar
theorem v7_1:cL 0 (J0 1) (J0 2) .normal:=aA ar
theorem v7_2:cL 0 (J0 2) (J0 3) .normal:=aA ar
theorem v7_3:cL 0 (J0 3) (J0 4) .normal:=aA ar
theorem v7_4:cL 0 (J0 4) (J0 5) .normal:=aA ar
theorem v7_5:cL 0 (J0 5) (J0 6) .normal:=aA ar
theorem v7_6:cL 0 (J0 6) (J0 7) .normal:=aA ar
theorem v7_7:cL 0 (J0 7) (J0 8) .normal:=aA ar
theorem v7_8:cL 0 (J0 8) (J0 9) .normal:=aA ar
theorem v7_9:cL 0 (J0 9) (J0 10) .normal:=aA ar
theorem v7_l:cL 0 (J0 10) (J0 10) (.exit 0):=aA ar
theorem v7:∀ i,i<10->cL 0 (J0 i) (J0 (i+1)) .normal
 | 0,_=>v7_0
 | 1,_=>v7_1
 | 2,_=>v7_2
 | 3,_=>v7_3
 | 4,_=>v7_4
 | 5,_=>v7_5
 | 6,_=>v7_6
 | 7,_=>v7_7
 | 8,_=>v7_8
 | 9,_=>v7_9
 | i+10,h=>absurd h qad
theorem n7_0:cL 5 (J5 0) (J5 1) .normal:=aA ar
theorem n7_1:cL 5 (J5 1) (J5 2) .normal:=aA ar
theorem n7_2:cL 5 (J5 2) (J5 3) .normal:=aA ar
theorem n7_3:cL 5 (J5 3) (J5 4) .normal:=aA ar
theorem n7_4:cL 5 (J5 4) (J5 5) .normal:=aA ar
theorem n7_5:cL 5 (J5 5) (J5 6) .normal:=aA ar
theorem n7_6:cL 5 (J5 6) (J5 7) .normal:=aA ar
theorem n7_7:cL 5 (J5 7) (J5 8) .normal:=aA ar
theorem n7_8:cL 5 (J5 8) (J5 9) .normal:=aA ar
theorem n7_9:cL 5 (J5 9) (J5 10) .normal:=aA ar
theorem n7_10:cL 5 (J5 10) (J5 11) .normal:=aA ar
theorem n7_11:cL 5 (J5 11) (J5 12) .normal:=aA ar
theorem n7_12:cL 5 (J5 12) (J5 13) .normal:=aA ar
theorem n7_13:cL 5 (J5 13) (J5 14) .normal:=aA ar
theorem n7_14:cL 5 (J5 14) (J5 15) .normal:=aA ar
theorem n7_l:cL 5 (J5 15) (J5 15) (.exit 10):=aA ar
theorem n7:∀ i,i<15->cL 5 (J5 i) (J5 (i+1)) .normal
 | 0,_=>n7_0
 | 1,_=>n7_1
 | 2,_=>n7_2
 | 3,_=>n7_3
 | 4,_=>n7_4
 | 5,_=>n7_5
 | 6,_=>n7_6
 | 7,_=>n7_7
 | 8,_=>n7_8
 | 9,_=>n7_9
 | 10,_=>n7_10
 | 11,_=>n7_11
 | 12,_=>n7_12
 | 13,_=>n7_13
 | 14,_=>n7_14
 | i+15,h=>absurd h qad
end Go.Tz
namespace Go.Tz
open Go Go.AL Go.Proofs
theorem YO:cL 3 (J3 0 0) (J3 0 1) .normal:=aA ar
theorem YP:cL 3 (J3 0 1) (J3 0 2) .normal:=aA ar
theorem YQ:cL 3 (J3 0 2) (J3 0 3) .normal:=aA ar
theorem YR:cL 3 (J3 0 3) (J3 0 4) .normal:=aA ar
theorem k7_0:∀ j,j<4->cL 3 (J3 0 j) (J3 0 (j+1)) .normal
 | 0,_=>YO
 | 1,_=>YP
 | 2,_=>YQ
 | 3,_=>YR
 | j+4,h=>absurd h qad
theorem YS:cL 3 (J3 1 0) (J3 1 1) .normal:=aA ar
theorem YT:cL 3 (J3 1 1) (J3 1 2) .normal:=aA ar
theorem YU:cL 3 (J3 1 2) (J3 1 3) .normal:=aA ar
theorem YV:cL 3 (J3 1 3) (J3 1 4) .normal:=aA ar
theorem k7_1:∀ j,j<4->cL 3 (J3 1 j) (J3 1 (j+1)) .normal
 | 0,_=>YS
 | 1,_=>YT
 | 2,_=>YU
 | 3,_=>YV
 | j+4,h=>absurd h qad
theorem YW:cL 3 (J3 2 0) (J3 2 1) .normal:=aA ar
theorem YX:cL 3 (J3 2 1) (J3 2 2) .normal:=aA ar
theorem YY:cL 3 (J3 2 2) (J3 2 3) .normal:=aA ar
theorem YZ:cL 3 (J3 2 3) (J3 2 4) .normal:=aA ar
theorem k7_2:∀ j,j<4->cL 3 (J3 2 j) (J3 2 (j+1)) .normal
 | 0,_=>YW
 | 1,_=>YX
 | 2,_=>YY
 | 3,_=>YZ
 | j+4,h=>absurd h qad
theorem Za:cL 3 (J3 3 0) (J3 3 1) .normal:=aA ar
theorem Zb:cL 3 (J3 3 1) (J3 3 2) .normal:=aA ar
theorem Zc:cL 3 (J3 3 2) (J3 3 3) .normal:=aA ar
theorem Zd:cL 3 (J3 3 3) (J3 3 4) .normal:=aA ar
theorem k7_3:∀ j,j<4->cL 3 (J3 3 j) (J3 3 (j+1)) .normal
 | 0,_=>Za
 | 1,_=>Zb
 | 2,_=>Zc
 | 3,_=>Zd
 | j+4,h=>absurd h qad
end Go.Tz
namespace Go.Tz
open Go Go.AL Go.Proofs
theorem Ze:cL 3 (J3 4 0) (J3 4 1) .normal:=aA ar
theorem Zf:cL 3 (J3 4 1) (J3 4 2) .normal:=aA ar
theorem Zg:cL 3 (J3 4 2) (J3 4 3) .normal:=aA ar
theorem Zh:cL 3 (J3 4 3) (J3 4 4) .normal:=aA ar
theorem k7_4:∀ j,j<4->cL 3 (J3 4 j) (J3 4 (j+1)) .normal
 | 0,_=>Ze
 | 1,_=>Zf
 | 2,_=>Zg
 | 3,_=>Zh
 | j+4,h=>absurd h qad
theorem Zi:cL 3 (J3 5 0) (J3 5 1) .normal:=aA ar
theorem Zj:cL 3 (J3 5 1) (J3 5 2) .normal:=aA ar
theorem Zk:cL 3 (J3 5 2) (J3 5 3) .normal:=aA ar
theorem Zl:cL 3 (J3 5 3) (J3 5 4) .normal:=aA ar
theorem k7_5:∀ j,j<4->cL 3 (J3 5 j) (J3 5 (j+1)) .normal
 | 0,_=>Zi
 | 1,_=>Zj
 | 2,_=>Zk
 | 3,_=>Zl
 | j+4,h=>absurd h qad
theorem Zm:cL 3 (J3 6 0) (J3 6 1) .normal:=aA ar
theorem Zn:cL 3 (J3 6 1) (J3 6 2) .normal:=aA ar
theorem Zo:cL 3 (J3 6 2) (J3 6 3) .normal:=aA ar
theorem Zp:cL 3 (J3 6 3) (J3 6 4) .normal:=aA ar
theorem k7_6:∀ j,j<4->cL 3 (J3 6 j) (J3 6 (j+1)) .normal
 | 0,_=>Zm
 | 1,_=>Zn
 | 2,_=>Zo
 | 3,_=>Zp
 | j+4,h=>absurd h qad
theorem Zq:cL 3 (J3 7 0) (J3 7 1) .normal:=aA ar
theorem Zr:cL 3 (J3 7 1) (J3 7 2) .normal:=aA ar
theorem Zs:cL 3 (J3 7 2) (J3 7 3) .normal:=aA ar
theorem Zt:cL 3 (J3 7 3) (J3 7 4) .normal:=aA ar
theorem k7_7:∀ j,j<4->cL 3 (J3 7 j) (J3 7 (j+1)) .normal
 | 0,_=>Zq
 | 1,_=>Zr
 | 2,_=>Zs
 | 3,_=>Zt
 | j+4,h=>absurd h qad
end Go.Tz
namespace Go.Tz
open Go Go.AL Go.Proofs
theorem Zu:cL 3 (J3 8 0) (J3 8 1) .normal:=aA ar
theorem Zv:cL 3 (J3 8 1) (J3 8 2) .normal:=aA ar
theorem Zw:cL 3 (J3 8 2) (J3 8 3) .normal:=aA ar
theorem Zx:cL 3 (J3 8 3) (J3 8 4) .normal:=aA ar
theorem k7_8:∀ j,j<4->cL 3 (J3 8 j) (J3 8 (j+1)) .normal
 | 0,_=>Zu
 | 1,_=>Zv
 | 2,_=>Zw
 | 3,_=>Zx
 | j+4,h=>absurd h qad
theorem Zy:cL 3 (J3 9 0) (J3 9 1) .normal:=aA ar
theorem Zz:cL 3 (J3 9 1) (J3 9 2) .normal:=aA ar
theorem ZA:cL 3 (J3 9 2) (J3 9 3) .normal:=aA ar
theorem ZB:cL 3 (J3 9 3) (J3 9 4) .normal:=aA ar
theorem k7_9:∀ j,j<4->cL 3 (J3 9 j) (J3 9 (j+1)) .normal
 | 0,_=>Zy
 | 1,_=>Zz
 | 2,_=>ZA
 | 3,_=>ZB
 | j+4,h=>absurd h qad
theorem Sw:cL 3 (J3 10 0) (J3 10 1) .normal:=aA ar
theorem Sx:cL 3 (J3 10 1) (J3 10 2) .normal:=aA ar
theorem Sy:cL 3 (J3 10 2) (J3 10 3) .normal:=aA ar
theorem Sz:cL 3 (J3 10 3) (J3 10 4) .normal:=aA ar
theorem k7_10:∀ j,j<4->cL 3 (J3 10 j) (J3 10 (j+1)) .normal
 | 0,_=>Sw
 | 1,_=>Sx
 | 2,_=>Sy
 | 3,_=>Sz
 | j+4,h=>absurd h qad
theorem SA:cL 3 (J3 11 0) (J3 11 1) .normal:=aA ar
theorem SB:cL 3 (J3 11 1) (J3 11 2) .normal:=aA ar
theorem SD:cL 3 (J3 11 2) (J3 11 3) .normal:=aA ar
theorem SE:cL 3 (J3 11 3) (J3 11 4) .normal:=aA ar
theorem k7_11:∀ j,j<4->cL 3 (J3 11 j) (J3 11 (j+1)) .normal
 | 0,_=>SA
 | 1,_=>SB
 | 2,_=>SD
 | 3,_=>SE
 | j+4,h=>absurd h qad
end Go.Tz
namespace Go.Tz
open Go Go.AL Go.Proofs
theorem SF:cL 3 (J3 12 0) (J3 12 1) .normal:=aA ar
theorem SG:cL 3 (J3 12 1) (J3 12 2) .normal:=aA ar
theorem SH:cL 3 (J3 12 2) (J3 12 3) .normal:=aA ar
theorem SI:cL 3 (J3 12 3) (J3 12 4) .normal:=aA ar
theorem k7_12:∀ j,j<4->cL 3 (J3 12 j) (J3 12 (j+1)) .normal
 | 0,_=>SF
 | 1,_=>SG
 | 2,_=>SH
 | 3,_=>SI
 | j+4,h=>absurd h qad
theorem SJ:cL 3 (J3 13 0) (J3 13 1) .normal:=aA ar
theorem SL:cL 3 (J3 13 1) (J3 13 2) .normal:=aA ar
theorem SM:cL 3 (J3 13 2) (J3 13 3) .normal:=aA ar
theorem SN:cL 3 (J3 13 3) (J3 13 4) .normal:=aA ar
theorem k7_13:∀ j,j<4->cL 3 (J3 13 j) (J3 13 (j+1)) .normal
 | 0,_=>SJ
 | 1,_=>SL
 | 2,_=>SM
 | 3,_=>SN
 | j+4,h=>absurd h qad
theorem SP:cL 3 (J3 14 0) (J3 14 1) .normal:=aA ar
theorem SQ:cL 3 (J3 14 1) (J3 14 2) .normal:=aA ar
theorem SS:cL 3 (J3 14 2) (J3 14 3) .normal:=aA ar
theorem ST:cL 3 (J3 14 3) (J3 14 4) .normal:=aA ar
theorem k7_14:∀ j,j<4->cL 3 (J3 14 j) (J3 14 (j+1)) .normal
 | 0,_=>SP
 | 1,_=>SQ
 | 2,_=>SS
 | 3,_=>ST
 | j+4,h=>absurd h qad
theorem SU:cL 3 (J3 15 0) (J3 15 1) .normal:=aA ar
theorem SV:cL 3 (J3 15 1) (J3 15 2) .normal:=aA ar
theorem SW:cL 3 (J3 15 2) (J3 15 3) .normal:=aA ar
theorem SX:cL 3 (J3 15 3) (J3 15 4) .normal:=aA ar
theorem k7_15:∀ j,j<4->cL 3 (J3 15 j) (J3 15 (j+1)) .normal
 | 0,_=>SU
 | 1,_=>SV
 | 2,_=>SW
 | 3,_=>SX
 | j+4,h=>absurd h qad
end Go.Tz
namespace Go.Tz
open Go Go.AL Go.Proofs
theorem k7:∀ k,k<16->∀ j,j<4->cL 3 (J3 k j) (J3 k (j+1)) .normal
 | 0,_=>k7_0
 | 1,_=>k7_1
 | 2,_=>k7_2
 | 3,_=>k7_3
 | 4,_=>k7_4
 | 5,_=>k7_5
 | 6,_=>k7_6
 | 7,_=>k7_7
 | 8,_=>k7_8
 | 9,_=>k7_9
 | 10,_=>k7_10
 | 11,_=>k7_11
 | 12,_=>k7_12
 | 13,_=>k7_13
 | 14,_=>k7_14
 | 15,_=>k7_15
 | k+16,h=>absurd h qad
theorem k7_l(k:Nat):cL 3 (J3 k 4) (J3 k 4) (.exit 6):=aA ar
theorem Wx:PC Pr GG 59 [] jS:=kL ar
theorem g54a:PC Pr GG 54 [iD 7,.sl [[iD 0]] true] (.agg (QR 7 [0])):=kL ar
theorem m6a:PC Pr GG 6 [jS,iD 0,iD 0,.agg [iD 2,iD 0,.sl [QR 7 [0]] true],.sl [] true] (.bool true):=OC _ _ _ ar
theorem m6b:PC Pr GG 6 [jS,iD 0,iD 0,.agg [iD 1,iD 0,.sl [] true],.sl [[iD 7]] true] (.bool true):=OC _ _ _ ar
theorem chk7:aq Tryz.f7=true:=ar
theorem Yg:bf 321 (fa Tryz.f7 0)=true:=ar
theorem Yh:bf 321 (fa Tryz.f7 3)=true:=ar
theorem Yi:bf 321 (fa Tryz.f7 5)=true:=ar
theorem lp0{st:St}{k:Exit->St->Prop}(h0:Sub GG 0 [] st (J0 0))(hk:k (.exit 0) (J0 10)):P2 Pr GG 321 0 [] (fa Tryz.f7 0) st k :=
 Ap J0 h0 Yg v7 v7_l (fun h=>by cases h) (fun _=>⟨dW _,rfl,rfl,trivial⟩) ⟨dW _,rfl,rfl,trivial⟩ hk
theorem lp3{st:St}{k:Exit->St->Prop}{i:Nat}(hi:i<16)(h0:Sub GG 0 [] st (J3 i 0))(hk:k (.exit 6) (J3 i 4)):P2 Pr GG 321 0 [] (fa Tryz.f7 3) st k :=
 Ap (J3 i) h0 Yh (k7 i hi) (k7_l i) (fun h=>by cases h) (fun _=>⟨dW _,rfl,rfl,trivial⟩) ⟨dW _,rfl,rfl,trivial⟩ hk
theorem lp5{st:St}{k:Exit->St->Prop}(h0:Sub GG 0 [] st (J5 0))(hk:k (.exit 10) (J5 15)):P2 Pr GG 321 0 [] (fa Tryz.f7 5) st k :=
 Ap J5 h0 Yi n7 n7_l (fun h=>by cases h) (fun _=>⟨dW _,rfl,rfl,trivial⟩) ⟨dW _,rfl,rfl,trivial⟩ hk
theorem D0:PC Pr GG 7 [] (.bool true):=by
 refine ae pok Tryz.func7 chk7 ?_;conv=>whnf
 repeat' first|((first|refine O8.mk _ aK ?_|fail);conv=>whnf)|fail
 refine lp0 ?_ ?_
 ·exact nr
 conv=>whnf
 skip;refine ax pok (fun k=>⟨[(0,.d (.bool false)),(85,.d (iD k))],[],0⟩) (16) (fun _=>True) (trivial) ?_ ar ?_ ?_
 ·exact nr
 ·intro k A_k h_k I_k N_k;have e_k:aD .i64 (k:Int) 1=((k+1:Nat):Int):=ak eH;conv=>whnf
  repeat (refine O6.mk _ rfl ?_;conv=>whnf)
  intro t ht;cases t
  ·exact bu
  conv=>whnf
  repeat' first|((first|refine O8.mk _ aK ?_|fail);conv=>whnf)|fail
  refine lp3 h_k (Sub.trans (Hg [0,1,2,3,4] _) ?_) ?_
  ·exact nr
  conv=>whnf
  skip;refine N_k _ ?_ ?_
  ·exact cY
  ·exact I1
 ·intro A_last I_last;conv=>whnf
  repeat (refine O6.mk _ rfl ?_;conv=>whnf)
  intro t ht;cases t;rotate_left
  ·exact bu
  conv=>whnf
  skip;refine lp5 ?_ ?_
  ·exact nr
  conv=>whnf
  repeat' first|((first|refine O8.mk _ aK ?_|refine aa Wx ?_|refine jd (g54a) rfl ?_|refine kh (m6a) rfl rfl ?_|refine kh (m6b) rfl rfl ?_|refine aa av ?_);conv=>whnf)
  exact fin rfl
end Go.Tz
namespace Go.Proofs.YtehjjpbpdfnnfaaGreatDoor
open Go Go.AL Go.Tz Go.Proofs Go.ChangeShapes Go.WideShapes Go.ChangeAt Go.RowKit Go.Deep
theorem stabSmallD_met(os:Os)(args:Array Value):laidMetH Tryz.prog Go.Tz.laid2 ((World.doorLaid Tryz.prog 400 os).forCall (fun _ _=>0) ⟨#[],args,[]⟩).memory :=
 laidMetH_of_parts3 (fuel:=8) (laidMet_of_run' 8 ar ar) ar ar
set_option maxRecDepth 100000 in
theorem stabSmall_lifted(os:Os)(started:os.Started)(H:Type)(enc:TypeId×Value->H) :
  ReturnsInHanded {} Tryz.checked os 7 .any (fun w args=>(Rows.stabSmallSpec.pre enc Tryz.prog Tryz.f7 [] false w args/\laidMetH Tryz.prog Go.Tz.laid2 w)/\sizedMet enc Tryz.prog Tryz.f7 (OpenSpec.ofChange Rows.stabSmallSpec) false w args)
   (Rows.stabSmallSpec.post enc Tryz.prog Tryz.f7 false true false false):=by
 refine returnsInHanded_of_change_and (C:=Tryz.checked) (X:=fun w _=>laidMetH Tryz.prog Go.Tz.laid2 w) (fun _ _ _ hh h=>h.of_heap hh) own started ar Tryz.func7
  (ChangeSpec.witness_shaped (enc:=enc) (C:=Tryz.checked) (os:=os) (X:=fun w _=>laidMetH Tryz.prog Go.Tz.laid2 w) false (World.doorLaid Tryz.prog 400 os) #[] 8 rfl (World.shaped_of_RefB ar ar) ar ar ar (stabSmallD_met os _)) ?_
 intro W base args ds gs before hval0 hW _ _ hL _;have hval:∀(j:Nat) t v,Tryz.f7.params[j]?=some t->args[j]?=some v->Value.okWide Tryz.prog W .any base t v:=hval0;have hW':=hW;obtain⟨p,q,hA0,hV,rfl,hfz,hnd⟩:=hW;have hlt0:=hW'.lt;have hA:DataW.TrodAll enc Tryz.prog W 0 (fun _=>true) true Tryz.f7.params.toList args.toList ds p:=hA0;rw[Tryz.params7]at hA;obtain⟨q1,rfl,rfl⟩:=trodAll_nil hA;obtain rfl:args = #[]:=by cases args;simp_all
 obtain⟨rfl,rfl⟩:=trodVars_none hV;have hc:=D0.call;have hH:P0 GG ⟨fun _=>False,fun _=>none,fun k=>k<W.heap.size,W⟩ []:=⟨fun _ _ h=>(by cases h),fun _ _ _ _ _ h=>(by cases h),fun _ h=>h,Sk hL⟩
 refine(hc ⟨fun _=>False,fun _=>none,fun k=>k<W.heap.size,W⟩ #[] hH (fun _ h=>h.elim) rfl (fun i v hi=>?_)).mono ?_
 ·simp at hi
 ·rintro e W' ⟨x,v,H',nx',C',rfl,rfl,⟨rfl,rfl,rfl⟩,hx,_,_,hT⟩;have hbelow:Below W.heap.size W C'.w:=⟨hT.os,hT.tape,hT.output,hT.size,fun k hk=>hT.frame k hk (fun _ _ h=>by cases h)⟩
  have hd:=bZ hx;cases hd;refine⟨_,rfl,_,_,_,[],[],[],hW',?_,?_,rfl,hbelow.frame _,fun h=>by cases h⟩
  ·exact trodAll_mk1 (shut_bool Tryz.underlying4 _)
  ·first|rfl|exact⟨rfl,rfl⟩|exact trivial
theorem stabSmall_c1:OpenClaim.wf (OpenSpec.ofChange Rows.stabSmallSpec) Rows.stabSmallRow=true:=ar
theorem stabSmall_c10:(OpenClaim.inPlace Rows.stabSmallRow==Program.inPlace cP 7)=true:=ar
theorem stabSmall_c11:(OpenClaim.unfollowed Rows.stabSmallRow==Program.unfollowed cP 7)=true:=ar
theorem stabSmall_c12:(OpenClaim.recurses Rows.stabSmallRow==Program.recurses cP 7)=true:=ar
theorem stabSmall_c13:(OpenClaim.named Rows.stabSmallRow==Program.varsNamed cP 7)=true:=ar
theorem stabSmall_cN:Program.funcNamed cP (OpenClaim.func Rows.stabSmallRow)=some 7:=ar
theorem stabSmall_cI:Func.isInstance cP Tryz.f7 (OpenClaim.origin Rows.stabSmallRow) (OpenClaim.targs Rows.stabSmallRow):=of_decide_eq_true ar
theorem stabSmall_cW:Func.isWrapper cP Tryz.f7 (OpenClaim.wrapper Rows.stabSmallRow) (OpenClaim.mainSum Rows.stabSmallRow):=by
 unfold Func.isWrapper;first|(rw[if_pos (by decide +kernel)];kernel_rfl)|(rw[if_neg (by decide +kernel)];exact⟨rfl,rfl⟩)
theorem stabSmall_cT:OpenClaim.wfByText (OpenSpec.ofChange Rows.stabSmallSpec) Rows.stabSmallRow=true:=ar
theorem stabSmall_cG:false=OpenClaim.goesBy Rows.stabSmallRow cP:=ar
theorem stabSmall_c24:(OpenClaim.lifted Rows.stabSmallRow==Program.liftsFinal cP)=true:=by
 rw[show OpenClaim.lifted Rows.stabSmallRow=OpenClaim.lifted Rows.stabChecksRow from rfl];exact cj24
theorem stabSmall_joined:joinedFacts cP 7 Tryz.f7 Rows.stabSmallSpec Rows.stabSmallRow=true:=by
 unfold joinedFacts;simp only[li];refine⟨⟨⟨⟨⟨⟨⟨⟨⟨⟨⟨⟨⟨⟨⟨⟨⟨⟨⟨⟨⟨⟨⟨⟨⟨⟨⟨⟨⟨⟨⟨stabSmall_c1,cj2⟩,cj3⟩,?_⟩,?_⟩,?_⟩,cj7⟩,?_⟩,cj9⟩,stabSmall_c10⟩,stabSmall_c11⟩,stabSmall_c12⟩,stabSmall_c13⟩,?_⟩,?_⟩,?_⟩,?_⟩,?_⟩,?_⟩,?_⟩,?_⟩,?_⟩,cj20⟩,?_⟩,cj22⟩,cj23⟩,stabSmall_c24⟩,cj25⟩,?_⟩,?_⟩,?_⟩,?_⟩;all_goals kernel_rfl
theorem stabSmall_holds:Rows.StabSmallSaid :=
 OpenClaim.holds_of_wide 7 Tryz.f7 rfl rfl rfl rfl rfl rfl rfl ⟨rfl,rfl,rfl,rfl,rfl⟩ rfl rfl rfl rfl rfl stabSmall_cN Tryz.func7 stabSmall_joined stabSmall_cI stabSmall_cW
  (fun os started H enc _=>stabSmall_lifted os started H enc)
theorem stabSmall_card:Rows.StabSmallCardSaid :=
 Claim7.holds_tied_plain_at .later [] [.data, .data] true (true, "8b097af312537285be51cb7f5f4f0726b8661743bb377639627160fb316d0ecd") false
  stabSmall_holds (fun _ h=>by cases h) stabSmall_cT (fun _ h=>by cases h) stabSmall_row_tie rfl ⟨rfl,rfl⟩ cjM rfl
  (fun f fn hf hfn=>by
   obtain rfl:f=7:=ku (stabSmall_cN.symm.trans hf) |>.symm
   obtain rfl:fn=Tryz.f7:=(ku (Tryz.func7.symm.trans hfn)).symm;exact⟨cjL,fun j t ht=>by
    rw[Tryz.params7]at ht;have hm:t∈[]:=by simpa using xW ht
    have hall:([].all fun u=>!Tryz.prog.wantsStandIn u)=true:=ar;exact(show Tryz.prog.wantsStandIn t=false by simpa using lh.1 hall t hm)⟩)
  stabSmall_cG
#print axioms stabSmall_card
end Go.Proofs.YtehjjpbpdfnnfaaGreatDoor
