import Derived.Test.YtehjjpbpdfnnfaaGreatDoorM00
import Derived.Test.YtehjjpbpdfnnfaaGreatDoorM02
import Derived.Laws.BitsLemmas
import Derived.Laws.Cover3
import Derived.RangeFuncRecord
namespace Go.AL
open Go
variable{G:Nat->Option (List D)}{P:Program}{st:St}{o:Oper}
variable{M:Om}{hd:M.W->Prop}{T:Tab}
def AHeap.del:AHeap->Nat->AHeap
 | [],_=>[]
 | (k,b)::r,n=>match Nat.beq k n with
  | true=>AHeap.del r n
  | false=>(k,b)::AHeap.del r n
def AHeap.put(H:AHeap)(nm:Nat)(b:Blk):AHeap:=(nm,some b)::AHeap.del H nm
theorem dD:∀(H:AHeap) (nm m:Nat),(H.del nm).get m=if m=nm then none else H.get m
 | [],nm,m=>by simp[AHeap.del,AHeap.get]
 | (k,b)::r,nm,m=>by
  unfold AHeap.del;split
  ·rename_i e;have e:=waf e;subst e;rw[dD r k m];by_cases h:m=k
   ·exact GJ
   ·rw[if_neg h,if_neg h,ai _ _ h]
  ·rename_i e;have hne:k≠nm:=fun h=>by subst h;simp at e
   by_cases h:m=k
   ·subst h;rw[ao,ao,if_neg hne]
   ·rw[ai _ _ h,ai _ _ h,dD r nm m]
theorem cM(H:AHeap)(nm:Nat)(b:Blk)(m:Nat):(H.put nm b).get m=AHeap.get ((nm,some b)::H) m:=by
 unfold AHeap.put;by_cases h:m=nm
 ·subst h;rw[ao,ao]
 ·rw[ai _ _ h,ai _ _ h,dD,if_neg h]
theorem StepOp.congr{v:AV}{H' H'':AHeap}{N:Nat->Prop}(h:StepOp G P st o v H' N)(he:∀ nm,H''.get nm=H'.get nm):StepOp G P st o v H'' N:=by
 intro C a hH hop hn;obtain⟨C',r,h1,h2,h3,h4,h5⟩:=h C a hH hop hn;exact⟨C',r,h1,h2,h3.anti fun nm bl h=>by rw[<- he];exact h,h4.anti fun nm bl h=>by rw[<- he];exact h,h5⟩
theorem StepOp.anti{v:AV}{H' H'':AHeap}{N:Nat->Prop}(h:StepOp G P st o v H' N)(he:∀ nm bl,H''.get nm=some bl->H'.get nm=some bl):StepOp G P st o v H'' N:=by
 intro C a hH hop hn;obtain⟨C',r,h1,h2,h3,h4,h5⟩:=h C a hH hop hn;exact⟨C',r,h1,h2,h3.anti he,h4.anti he,h5⟩
theorem StepOp.names{v:AV}{H':AHeap}{N N':Nat->Prop}(h:StepOp G P st o v H' N)(he:∀ nm,N nm->N' nm):StepOp G P st o v H' N':=by
 intro C a hH hop hn;obtain⟨C',r,h1,h2,h3,h4,h5⟩:=h C a hH hop (fun m hm=>hn m (he m hm));exact⟨C',r,h1,h2,h3,h4,fun m hm=>(h5 m hm).imp id (he m)⟩
theorem Els.ext{H H2:AHeap}{S:Nat}{v:AV}{ys:List (List AV)}(h:Els H S v ys)(hE:Ext H H2):Els H2 S v ys:=by
 cases h with
 | sl nm lo' len room t els hh hf=>exact .sl nm lo' len room t els (hE _ _ hh) hf
 | d es t h=>exact .d es t h
def Qt(M:Om)(H:AHeap)(S:Nat)(v:AV)(k:List (List AV)->M.W):M.W:=match v with
 | .sl nm sz lo len _ _=>match H.get nm with
  | some (.arr sz' els)=>match Nat.beq sz S,Nat.beq sz' S with
   | true,true=>M.chk (lo+len<=els.length) (M.shl ((els.drop lo).take len) k)
   | _,_=>M.bad
  | _=>M.bad
 | .d (.sl es _)=>M.chk (∀ el,el∈es->el.length=S) (M.shl (es.map (·.map .d)) k)
 | _=>M.bad
theorem qr(ok:P4 M hd){H H2:AHeap}{S:Nat}{v:AV}{k:List (List AV)->M.W}(h:hd (Qt M H S v k))(hE:Ext H H2):∃ ys,hd (k ys)/\Els H2 S v ys:=by
 unfold Qt at h;split at h
 ·split at h
  ·rename_i sz' els hh;split at h
   ·rename_i e1 e2;have e1:=waf e1;have e2:=waf e2;subst e1 e2;obtain⟨h1,h2⟩:=ok.h_chk h;exact⟨_,ok.h_shl h2,.sl _ _ _ _ _ _ (hE _ _ hh) h1⟩
   ·exact bX
  ·exact bX
 ·obtain⟨h1,h2⟩:=ok.h_chk h;exact⟨_,ok.h_shl h2,.d _ _ h1⟩
 ·exact bX
def nR{α:Type}(S:Nat):Nat->List α->List (List α)
 | 0,_=>[]
 | n+1,l=>l.take S::nR S n (l.drop S)
theorem pF{α:Type}(S:Nat):∀(n:Nat) (l:List α),l.length=n*S->(nR S n l).flatten=l/\(nR S n l).length=n /\ ∀ el,el∈nR S n l->el.length=S
 | 0,l,h=>by
  have:l=[]:=wdi qad;subst this;simp[nR]
 | n+1,l,h=>by
  have hS:S<=l.length:=by rw[h,Lp];omega
  obtain⟨h1,h2,h3⟩:=pF S n (l.drop S) (by simp[h,Lp]);refine⟨by simp[nR,h1],by simp[nR,h2],fun el hel=>?_⟩;simp only[nR,jJ]at hel;rcases hel with rfl|hel
  ·exact fF
  ·exact h3 el hel
def Hk(M:Om)(T:Tab)(G:Nat->Option (List D))(st:St)(lo:Nat)(o:Oper)(k:AV->AHeap->Nat->M.W):M.W:=match o.op with
 | .box t x=>match T.get t,(st.ev G x).known with
  | some ⟨_,S,_,_,_⟩,true=>dZ (st.ev G x).cells fun c=>match Nat.beq c.length S with
   | true=>k (.ptr lo S 0 0) [(lo,some (.arr S [c]))] 1
   | false=>M.bad
  | _,_=>M.bad
 | .alloc t=>match T.get t with
  | some ⟨_,S,_,z,_⟩=>match (AV.d z).known with
   | true=>dZ (AV.d z).cells fun c=>match Nat.beq c.length S with
    | true=>k (.ptr lo S 0 0) [(lo,some (.arr S [c]))] 1
    | false=>M.bad
   | false=>M.bad
  | none=>M.bad
 | .makeSlice t x y=>match T.get t,st.ev G x,st.ev G y with
  | some ⟨_,_,_,_,.sl e⟩,.d (.int _ i),.d (.int _ j)=>match T.get e with
   | some ty=>match (AV.d ty.z).known with
    | true=>dZ (AV.d ty.z).cells fun c=>M.chk (0<=i/\i=j/\ty.B*i.toNat<=281474976710656/\0<ty.B/\0<ty.S) (M.shl (List.replicate i.toNat c) fun els=>k (.sl lo ty.S 0 i.toNat i.toNat true) [(lo,some (.arr ty.S els))] 1)
    | false=>M.bad
   | none=>M.bad
  | _,_,_=>M.bad
 | .buildSlice t len ps=>match T.get t with
  | some ⟨_,_,_,_,.sl e⟩=>match T.get e with
   | some ty=>match (AV.d ty.z).known,pI ((List.range len).map fun i=>(i*ty.S,ty.S)) (List.replicate len (AV.d ty.z).cells).flatten (ps.toList.map fun p=>(p.1,st.ev G p.2)) with
    | true,some fl=>dZ fl fun fl=>match Nat.beq fl.length (len*ty.S),Nat.ble (len*ty.S) 16777216 with
     | true,true=>M.shl (nR ty.S len fl) fun els=>k (.sl lo ty.S 0 len len true) [(lo,some (.arr ty.S els))] 1
     | _,_=>M.bad
    | _,_=>M.bad
   | none=>M.bad
  | _=>M.bad
 | .call { callee:=.builtin .append,args:=⟨[x,y]⟩,argTypes:=⟨[t,t2]⟩ }=>match T.get t,T.get t2 with
  | some ⟨_,_,_,_,.sl e⟩,some ⟨_,_,_,_,.sl _⟩=>match T.get e with
   | some ty=>match st.ev G x with
    | .d (.sl es tg)=>match tg with
     | true=>Qt M st.heap ty.S (st.ev G y) fun ys=>M.chk ((∀ el,el∈es->el.length=ty.S)/\(ys.length≠0\/es.length=0)/\0<ty.B/\(2*(es.length+ys.length)+192)*ty.B<=281474976710656)
      (M.shl (es.map (·.map .d)++ys) fun els=>k (.sl lo ty.S 0 (es.length+ys.length) (es.length+ys.length) false) [(lo,some (.arr ty.S els))] 1)
     | false=>M.bad
    | _=>M.bad
   | none=>M.bad
  | _,_=>M.bad
 | .makeMap _ none=>k (.map lo) [(lo,some (.map []))] 1
 | _=>M.bad
theorem qq(ok:P4 M hd){lo:Nat}{k:AV->AHeap->Nat->M.W}(hT:TabOk P T)(h:hd (Hk M T G st lo o k)) :
  ∃ v N n,hd (k v N n)/\(∀ p,p∈N->lo<=p.1/\p.1<lo+n) /\ ∀ H2,Ext st.heap H2->StepOp G P { st with heap:=H2 } o v (N++H2) (fun m=>lo<=m/\m<lo+n):=by
 have hev:∀(H2:AHeap) x,st.ev G x=St.ev G { st with heap:=H2 } x:=fun H2 x=>Ns rfl x;have nm1:∀ m,m=lo->lo<=m/\m<lo+1:=fun m h=>by omega
 have one:∀ b:Blk,∀ p,p∈[(lo,some b)]->lo<=p.1/\p.1<lo+1:=fun b p hp=>by simp at hp;subst hp;exact⟨cF _,Ck _⟩
 unfold Hk at h;split at h
 ·rename_i t x ho;split at h
  ·rename_i q0 S q1 q2 q3 hg hk;rw[bI]at h;split at h
   ·rename_i hl;have hl:=waf hl;rw[<- hl]at h;exact⟨_,_,_,h,one _,fun H2 _=>(PU (st:={ st with heap:=H2 }) ho (hev H2 x).symm hk).names nm1⟩
   ·exact bX
  ·exact bX
 ·rename_i t ho;split at h
  ·rename_i q0 S q1 z q3 hg;split at h
   ·rename_i hk;rw[bI]at h;split at h
    ·rename_i hl;have hl:=waf hl;have h2:hd (k (.ptr lo (AV.d z).cells.length 0 0) [(lo,some (.arr (AV.d z).cells.length [(AV.d z).cells]))] 1):=by rw[hl];exact h
     exact⟨_,_,_,h2,one _,fun H2 _=>(Hd (st:={ st with heap:=H2 }) ho (hT.get hg).1 rfl hk).names nm1⟩
    ·exact bX
   ·exact bX
  ·exact bX
 ·rename_i t x y ho;split at h
  ·rename_i e _ i _ j hg hx hy;split at h
   ·rename_i ty he;have hTS:cH P t e ty.S ty.B ty.z:=⟨(hT.get hg).2,(hT.get he).1⟩
    split at h
    ·rename_i hk;rw[bI]at h;obtain⟨⟨a1,a2,a3,a4,a5⟩,h3⟩:=ok.h_chk h;have h3:=ok.h_shl h3;clear h;obtain⟨n,rfl⟩:=Int.eq_ofNat_of_zero_le a1;subst a2;simp only[gx]at h3 a3;exact⟨_,_,_,h3,one _,fun H2 _=>(xJ (st:={ st with heap:=H2 }) ho hTS ((hev H2 x).symm.trans hx) ((hev H2 y).symm.trans hy) rfl hk a3 a4 a5).names nm1⟩
    ·exact bX
   ·exact bX
  ·exact bX
 ·rename_i t len ps ho;split at h
  ·rename_i e hg;split at h
   ·rename_i ty he;have hTS:cH P t e ty.S ty.B ty.z:=⟨(hT.get hg).2,(hT.get he).1⟩
    split at h
    ·rename_i fl hk hf;rw[bI]at h;split at h
     ·rename_i e1 e2;have h:=ok.h_shl h;obtain⟨c1,c2,c3⟩:=pF ty.S len fl (waf e1);refine⟨_,_,_,h,one _,fun H2 _=>(ng (st:={ st with heap:=H2 }) ho hTS rfl hk ?_ c3 c2 (nA e2)).names nm1⟩;rw[c1,<- hf];rfl
     ·exact bX
    ·exact bX
   ·exact bX
  ·exact bX
 ·rename_i x y t t2 ho;split at h
  ·rename_i S0 B0 z0 e q1 S1 B1 z1 e2 hg hg2;split at h
   ·rename_i ty he;have hTS:cH P t e ty.S ty.B ty.z:=⟨(hT.get hg).2,(hT.get he).1⟩
    split at h
    ·rename_i es tg hx;split at h
     ·obtain⟨ys,h,hy0⟩:=qr ok h Ext.refl;obtain⟨⟨a1,a2,a3,a4⟩,h⟩:=ok.h_chk h;have h:=ok.h_shl h;refine⟨_,_,_,h,one _,fun H2 hE=>?_⟩;have hy:Els H2 ty.S (st.ev G y) ys:=hy0.ext hE;exact(xI (st:={ st with heap:=H2 }) ho hTS (hT.get hg2).2 ((hev H2 x).symm.trans hx) a1 ((hev H2 y) ▸ hy) (a2.imp (fun h e=>h (by rw[e];rfl)) (fun h=>wdi h)) a3 a4).names nm1
     ·exact bX
    ·exact bX
   ·exact bX
  ·exact bX
 ·rename_i t ho;exact⟨_,_,_,h,one _,fun H2 _=>(sg (st:={ st with heap:=H2 }) ho).names nm1⟩
 ·exact bX
theorem uo{C:Ctx}{H:AHeap}(hH:P0 G C H){nm kk:Nat}{b0:Blk}(hg:H.get nm=some b0)(hb:C.β nm=some kk) :
  P0 G { C with RO:=fun j=>C.RO j\/j=kk } (H.del nm)/\Tr C.U C H { C with RO:=fun j=>C.RO j\/j=kk } (H.del nm):=by
 have hdel:∀ n b,(H.del nm).get n=some b->n≠nm/\H.get n=some b:=fun n b h=>by
  rw[dD]at h;split at h
  ·cases h
  ·rename_i e;exact⟨e,h⟩
 have ht:Tr C.U C H { C with RO:=fun j=>C.RO j\/j=kk } (H.del nm):={
  os:=rfl,tape:=rfl,output:=rfl,size:=cF _,shape:=fun k cs e fz h=>⟨cs,fz,h,rfl⟩,frame:=fun _ _ _=>rfl,names:=fun m hm=>⟨hm,rfl⟩,ros:=fun _ h=>.inl h
  img:=fun n b k h1 h2 _=>⟨n,b,(hdel n b h1).2,h2⟩
  rob:=fun j h _=>h.imp id fun e=>⟨nm,b0,hg,by rw[e];exact hb⟩ }
 refine⟨⟨fun n b h=>?_,fun n n' b b' k h1 h2=>hH.inj n n' b b' k (hdel n b h1).2 (hdel n' b' h2).2,fun j hj=>?_,fun g ds hgd=>(hH.glob g ds hgd).mono (fun _ _=>rfl) fun _ h=>.inl h⟩,ht⟩
 ·obtain⟨hn,hg'⟩:=hdel n b h;obtain⟨hU,hB⟩:=hH.blk n b hg';refine⟨hU,eD hH ht hU hB fun j hj=>⟨rfl,fun hro=>?_⟩⟩;rcases hro with hro|hro
  ·exact hH.ro_apart hro n b hg' hj
  ·exact hn (hH.inj n nm b b0 kk hg' hg (hro ▸ hj) hb)
 ·rcases hj with hj|hj
  ·exact hH.ro j hj
  ·rw[hj];exact gD (C:=C) (hH.blk nm b0 hg).2 hb
theorem yw{t e n B nm:Nat}{z:D}{x:Operand}{ds:List D}(ho:o.op = .slice t x none none none)(hu:P.underlying t=some (.array n e))(hE:EOk P e 1 B z)(hx:st.ev G x = .ptr nm n 0 0)
  (hg:st.heap.get nm=some (.arr n [ds.map .d])):StepOp G P st o (.d (.sl (ds.map fun d=>[d]) true)) (st.heap.del nm) (fun _=>False):=by
 intro C a hH hop _;obtain⟨k,hU,hb,hxv⟩:=jg (hx ▸ hop x fI);obtain⟨h1,h2⟩:=uo hH hg hb;obtain⟨hlen,hc⟩:=oQ (hH.blk nm _ hg).2 hb (idx:=0) rfl;have hlen:ds.length=n:=by simpa using hlen
 refine⟨_,.value (.slice (some ⟨k,0,none⟩) n n),?_,.inl ⟨_,rfl,.d _ _ ?_⟩,h1,h2,fun _ h=>.inl h⟩
 ·simp only[execOp,ho,Instr.sliceAt,hxv,Nat.zero_mul,Lq];simp only[run_underlying hu,Instr.sureAddr,Instr.sliceBounds,Sem.run_bind,Sem.run_pure,Result.andThen_ok,Option.map_none,EOk.size hE];by_cases h0:n=0
  ·simp[h0]
  ·simp[h0,dY]
 ·have key:=P1.sl (w:=C.w) (RO:=fun j=>C.RO j\/j=k) (ds.map fun d=>[d]) true k 0 n 1 (fun i j=>(C.w.cell? ⟨k,0+i*1+j,none⟩).getD undef) (.inr rfl) (by simp[hlen]) (fun _=>by simp[hlen]) (fun el hel=>by
   obtain⟨d,_,rfl⟩:=bm.1 hel;rfl)
  have cell:∀ i j el d,(ds.map fun d=>[d])[i]?=some el->el[j]?=some d->∃ y,C.w.cell? ⟨k,0+i*1+j,none⟩=some y/\P1 C.w (fun j=>C.RO j\/j=k) d y:=by
   intro i j el d hi hj;simp only[mV,tT]at hi;obtain⟨d',hd',rfl⟩:=hi;cases j with
   | succ j=>simp at hj
   | zero =>
    simp at hj;subst hj;obtain⟨y,y1,y2⟩:=hc i (.d d') (by simp[hd']);exact⟨y,by rw[<- y1];congr 2;omega,(bZ y2).mono (fun _ _=>rfl) fun _ h=>.inl h⟩
  have:=key (fun i j el d hi hj=>by obtain⟨y,y1,_⟩:=cell i j el d hi hj;rw[y1];rfl) (fun i j el d hi hj=>by obtain⟨y,y1,y2⟩:=cell i j el d hi hj;rw[y1];exact y2);simpa[hlen] using this
def vD(M:Om)(T:Tab)(st:St)(t:Nat)(m x u:AV)(k:AV->AHeap->Nat->M.W):M.W:=match T.get t with
 | some ⟨_,_,_,_,.map _ _ ag S⟩=>match m,x,u with
  | .map nm,.d d,.d y=>match st.heap.get nm with
   | some (.map es)=>match ym ag d,mZ ag es with
    | some as,some kss=>match Nat.beq as.length S,pW S kss with
     | true,true=>match fD as kss 0 with
      | some j=>dP (es.set j (d,y)) fun es'=>k .top (st.heap.put nm (.map es')) 0
      | none=>dP (es++[(d,y)]) fun es'=>k .top (st.heap.put nm (.map es')) 0
     | _,_=>M.bad
    | _,_=>M.bad
   | _=>M.bad
  | _,_,_=>M.bad
 | _=>M.bad
theorem pR(ok:P4 M hd){k:AV->AHeap->Nat->M.W}(hT:TabOk P T){t:TypeId}{m x u:Operand}(ho:o.op = .mapUpdate t m x u\/o.op = .insert t m x u)(h:hd (vD M T st t (st.ev G m) (st.ev G x) (st.ev G u) k)) :
  ∃ v H' n,hd (k v H' n)/\StepOp G P st o v H' (fun m=>st.nx<=m/\m<st.nx+n):=by
 unfold vD at h;split at h
 ·rename_i kt et ag S hg;obtain⟨hu,hk⟩:=(hT.get hg).2;split at h
  ·rename_i nm d y hm hx hy;split at h
   ·rename_i es hh;split at h
    ·rename_i as kss has hkss;split at h
     ·rename_i e1 e2;have e1:=waf e1;have e2:=nG e2;split at h
      ·rename_i j hj;rw[cR]at h;exact⟨_,_,_,h,((kr ho hu hk hm hh hx has hy e1 hkss e2 (by rw[hj])).congr fun m=>cM _ _ _ m).names fun _ h=>h.elim⟩
      ·rename_i hj;rw[cR]at h;exact⟨_,_,_,h,((kr ho hu hk hm hh hx has hy e1 hkss e2 (by rw[hj])).congr fun m=>cM _ _ _ m).names fun _ h=>h.elim⟩
     ·exact bX
    ·exact bX
   ·exact bX
  ·exact bX
 ·exact bX
def Qw(M:Om)(T:Tab)(G:Nat->Option (List D))(st:St)(o:Oper)(k:AV->AHeap->Nat->M.W):M.W:=match o.op with
 | .store t x y=>match T.get t,st.ev G x with
  | some ty,.ptr nm sz idx off=>match st.heap.get nm with
   | some (.arr sz' els)=>match Nat.beq sz' sz,(st.ev G y).known,Nat.beq (st.ev G y).cells.length ty.S,(st.ev G y).cells.all AV.scalar,Nat.ble (off+ty.S) sz with
    | true,true,true,true,true=>dZ (st.ev G y).cells fun cs=>M.look els[idx]? fun el=>dP (bU el off cs) fun el'=>M.shl (els.set idx el') fun els'=>k .top (st.heap.put nm (.arr sz els')) 0
    | _,_,_,_,_=>M.bad
   | _=>M.bad
  | _,_=>M.bad
 | .call { callee:=.builtin .append,args:=⟨[x,y]⟩,argTypes:=⟨[t,t2]⟩ }=>match T.get t,T.get t2 with
  | some ⟨_,_,_,_,.sl e⟩,some ⟨_,_,_,_,.sl _⟩=>match T.get e with
   | some ty=>match st.ev G x with
    | .sl nm sz lo len room tg=>match st.heap.get nm with
     | some (.arr sz' els)=>match Nat.beq sz ty.S,Nat.beq sz' ty.S with
      | true,true=>Qt M st.heap ty.S (st.ev G y) fun ys=>match ys.all fun el=>el.all AV.scalar with
       | true=>match Nat.beq room len&&Nat.beq lo 0 with
        | true=>M.chk (els.length=len/\0<ty.B/\(2*(len+ys.length)+192)*ty.B<=281474976710656)
         (M.shl (els++ys) fun els'=>k (.sl st.nx ty.S 0 (len+ys.length) (len+ys.length) false) ((st.heap.del nm).put st.nx (.arr ty.S els')) 1)
        | false=>M.chk (len+ys.length<=room/\lo+(len+ys.length)<=els.length)
         (M.shl (bU els (lo+len) ys) fun els'=>k (.sl nm ty.S lo (len+ys.length) room tg) (st.heap.put nm (.arr ty.S els')) 0)
       | false=>M.bad
      | _,_=>M.bad
     | _=>M.bad
    | _=>M.bad
   | none=>M.bad
  | _,_=>M.bad
 | .call { callee:=.builtin .copy,args:=⟨[x,y]⟩,argTypes:=tys }=>match tys[0]? with
  | some t=>match T.get t with
   | some ⟨_,_,_,_,.sl e⟩=>match T.get e with
    | some ty=>match st.ev G x with
     | .sl nm sz lo len room tg=>match st.heap.get nm with
      | some (.arr sz' els)=>match Nat.beq sz ty.S,Nat.beq sz' ty.S with
       | true,true=>Qt M st.heap ty.S (st.ev G y) fun ys=>match ys.all fun el=>el.all AV.scalar with
        | true=>M.chk (lo+len<=els.length) (M.shl (bU els lo (ys.take len)) fun els'=>k (.d (.int .i64 ((min ys.length len:Nat):Int))) (st.heap.put nm (.arr ty.S els')) 0)
        | false=>M.bad
       | _,_=>M.bad
      | _=>M.bad
     | _=>M.bad
    | none=>M.bad
   | _=>M.bad
  | none=>M.bad
 | .call { callee:=.builtin .clear,args:=⟨[x]⟩,argTypes:=tys }=>match tys[0]? with
  | some t=>match T.get t with
   | some ⟨_,_,_,_,.sl e⟩=>match T.get e with
    | some ⟨_,S,_,z,_⟩=>match st.ev G x with
     | .sl nm sz lo len _ _=>match st.heap.get nm with
      | some (.arr sz' els)=>match Nat.beq sz S,Nat.beq sz' S,(AV.d z).known,(AV.d z).cells.all AV.scalar with
       | true,true,true,true=>M.chk (lo+len<=els.length) (M.shl (bU els lo (List.replicate len (AV.d z).cells)) fun els'=>k (.d (.tup [])) (st.heap.put nm (.arr S els')) 0)
       | _,_,_,_=>M.bad
      | _=>M.bad
     | .d (.sl [] _)=>k (.d (.tup [])) st.heap 0
     | _=>M.bad
    | none=>M.bad
   | _=>M.bad
  | none=>M.bad
 | .mapUpdate t m x u=>vD M T st t (st.ev G m) (st.ev G x) (st.ev G u) k
 | .insert t m x u=>vD M T st t (st.ev G m) (st.ev G x) (st.ev G u) k
 | .slice t x none none none=>match T.get t,st.ev G x with
  | some ⟨_,_,_,_,.arr n e⟩,.ptr nm sz 0 0=>match T.get e,st.heap.get nm with
   | some ⟨_,S,_,_,_⟩,some (.arr sz' [el])=>match Nat.beq S 1,Nat.beq sz n,Nat.beq sz' n,mh el with
    | true,true,true,some ds=>dP (ds.map fun d=>[d]) fun es=>dP (st.heap.del nm) fun H'=>k (.d (.sl es true)) H' 0
    | _,_,_,_=>M.bad
   | _,_=>M.bad
  | _,_=>M.bad
 | _=>M.bad
theorem pY{ys:List (List AV)}(h:(ys.all fun el=>el.all AV.scalar)=true):∀ el,el∈ys->∀ v,v∈el->v.scalar=true:=by
 intro el hel v hv;exact lh.1 (lh.1 h el hel) v hv
theorem Hs(ok:P4 M hd){k:AV->AHeap->Nat->M.W}(hT:TabOk P T)(h:hd (Qw M T G st o k)) :
  ∃ v H' n,hd (k v H' n)/\StepOp G P st o v H' (fun m=>st.nx<=m/\m<st.nx+n):=by
 have none0:∀ m,False->st.nx<=m/\m<st.nx+0:=fun m h=>h.elim;unfold Qw at h;split at h
 ·rename_i t x y ho;split at h
  ·rename_i ty nm sz idx off hg hx;split at h
   ·rename_i sz' els hh;split at h
    ·rename_i e1 e2 e3 e4 e5;have e1:=waf e1;subst e1;rw[bI]at h;obtain⟨el,h1,h2⟩:=ok.h_look h;rw[cR]at h2;exact⟨_,_,_,ok.h_shl h2,((mU ho (hT.get hg).1 hx rfl hh h1 e2 (waf e3) e4 (nA e5)).congr fun m=>cM _ _ _ m).names none0⟩
    ·exact bX
   ·exact bX
  ·exact bX
 ·rename_i x y t t2 ho;split at h
  ·rename_i S0 B0 z0 e q1 S1 B1 z1 e2 hg hg2;split at h
   ·rename_i ty he;have hTS:cH P t e ty.S ty.B ty.z:=⟨(hT.get hg).2,(hT.get he).1⟩
    split at h
    ·rename_i nm sz lo len room tg hx;split at h
     ·rename_i sz' els hh;split at h
      ·rename_i f1 f2;have f1:=waf f1;have f2:=waf f2;subst f1 f2;obtain⟨ys,h,hy⟩:=qr ok h Ext.refl;split at h
       ·rename_i hsc;split at h
        ·rename_i hr;simp only[li]at hr;have r1:=waf hr.1;have r2:=waf hr.2;obtain⟨⟨a1,a2,a3⟩,h3⟩:=ok.h_chk h;have h3:=ok.h_shl h3;clear h;subst r1 r2;refine⟨_,_,_,h3,((EA ho hTS (hT.get hg2).2 hx hh a1 (cF _) hy (pY hsc) a2 a3).congr fun m=>?_).names fun m hm=>⟨Nat.le_of_eq hm.symm,by omega⟩⟩;rw[cM];by_cases hm:m=st.nx
         ·subst hm;rw[ao,ao]
         ·rw[ai _ _ hm,ai _ _ hm,dD];by_cases hm2:m=nm
          ·subst hm2;rw[if_pos rfl,ao]
          ·rw[if_neg hm2,ai _ _ hm2]
        ·obtain⟨⟨a1,a2⟩,h⟩:=ok.h_chk h;exact⟨_,_,_,ok.h_shl h,((tH ho hTS (hT.get hg2).2 hx hh a1 a2 hy (pY hsc)).congr fun m=>cM _ _ _ m).names none0⟩
       ·exact bX
      ·exact bX
     ·exact bX
    ·exact bX
   ·exact bX
  ·exact bX
 ·rename_i x y tys ho;split at h
  ·rename_i t ht;split at h
   ·rename_i e hg;split at h
    ·rename_i ty he;have hTS:cH P t e ty.S ty.B ty.z:=⟨(hT.get hg).2,(hT.get he).1⟩
     split at h
     ·rename_i nm sz lo len room tg hx;split at h
      ·rename_i sz' els hh;split at h
       ·rename_i f1 f2;have f1:=waf f1;have f2:=waf f2;subst f1 f2;obtain⟨ys,h,hy⟩:=qr ok h Ext.refl;split at h
        ·rename_i hsc;obtain⟨a1,h⟩:=ok.h_chk h;exact⟨_,_,_,ok.h_shl h,((KW ho ht hTS hx hh hy a1 (pY hsc)).congr fun m=>cM _ _ _ m).names none0⟩
        ·exact bX
       ·exact bX
      ·exact bX
     ·exact bX
    ·exact bX
   ·exact bX
  ·exact bX
 ·rename_i x tys ho;split at h
  ·rename_i t ht;split at h
   ·rename_i e hg;split at h
    ·rename_i q0 S B z q1 he;have hTS:cH P t e S B z:=⟨(hT.get hg).2,(hT.get he).1⟩
     split at h
     ·rename_i nm sz lo len room tg hx;split at h
      ·rename_i sz' els hh;split at h
       ·rename_i f1 f2 f3 f4;have f1:=waf f1;have f2:=waf f2;subst f1 f2;obtain⟨a1,h⟩:=ok.h_chk h;exact⟨_,_,_,ok.h_shl h,((Hf ho ht hTS hx hh a1 rfl f3 f4).congr fun m=>cM _ _ _ m).names none0⟩
       ·exact bX
      ·exact bX
     ·rename_i tg hx;exact⟨_,_,_,h,(EB ho ht hTS hx).names none0⟩
     ·exact bX
    ·exact bX
   ·exact bX
  ·exact bX
 ·rename_i ho;exact pR ok hT (.inl ho) h
 ·rename_i ho;exact pR ok hT (.inr ho) h
 ·rename_i t x ho;split at h
  ·rename_i n e nm sz hg hx;split at h
   ·rename_i q0 S B z q1 sz' el he hh;split at h
    ·rename_i ds e1 e2 e3 hds;have e1:=waf e1;have e2:=waf e2;have e3:=waf e3;subst e1 e2 e3;have:=fu _ _ hds;subst this;simp only[cR]at h;exact⟨_,_,_,h,(yw ho (hT.get hg).2 (hT.get he).1 hx hh).names none0⟩
    ·exact bX
   ·exact bX
  ·exact bX
 ·exact bX
end Go.AL
namespace Go.AL
open Go
variable{G:Nat->Option (List D)}{P:Program}{st:St}{o:Oper}
variable{r:Option Nat}{n b:Nat}{ms:List Nat}{Q:Exit->St->List Nat->Prop}
theorem Ai{n:Nat}{st:St}{ms:List Nat}{C:Ctx}{a:Act}{fn:FuncId}{ps:Array Tmp}{assign body:Code}(hR:Rel G n st ms C a) :
  P0 G ((C.alloc st.nx (.deferred (some []))).alloc (st.nx+1) (.loop { state:=.ready,pending:=none,fn:=fn,tmps:=a.tmps,params:=ps,assign:=assign,body:=body,defers:=C.w.heap.size }))
   ((st.nx+1,some (.lp st.env n ps assign body .ready none st.nx))::(st.nx,some (.raw (.deferred (some []))))::st.heap) ∧
  Tr C.U C st.heap ((C.alloc st.nx (.deferred (some []))).alloc (st.nx+1) (.loop { state:=.ready,pending:=none,fn:=fn,tmps:=a.tmps,params:=ps,assign:=assign,body:=body,defers:=C.w.heap.size }))
   ((st.nx+1,some (.lp st.env n ps assign body .ready none st.nx))::(st.nx,some (.raw (.deferred (some []))))::st.heap):=by
 have hn1:¬ C.U st.nx:=fun h=>by have:=hR.names _ h;omega
 have t1:=lX (C:=C) (H:=st.heap) (some (.raw (.deferred (some [])))) (.deferred (some [])) hn1;have hB1:iL (C.alloc st.nx (.deferred (some []))) st.nx (.raw (.deferred (some []))) :=
  ⟨C.w.heap.size,by simp[Ctx.alloc],eU _ _,fun hro=>D9 _ (hR.heap.ro _ hro),rfl⟩
 have h1:=mv hR.heap hn1 hB1;have hn2:¬(C.alloc st.nx (.deferred (some []))).U (st.nx+1):=fun h=>by
  rcases h with h|h
  ·have:=hR.names _ h;omega
  ·exact qad
 have t2:=lX (C:=C.alloc st.nx (.deferred (some []))) (H:=(st.nx,some (.raw (.deferred (some []))))::st.heap) (some (.lp st.env n ps assign body .ready none st.nx))
  (.loop { state:=.ready,pending:=none,fn:=fn,tmps:=a.tmps,params:=ps,assign:=assign,body:=body,defers:=C.w.heap.size }) hn2
 refine⟨mv h1 hn2 ?_,vC t1 t2⟩;refine⟨(C.alloc st.nx (.deferred (some []))).w.heap.size,_,by simp[Ctx.alloc],eU _ _,fun hro=>?_,rfl,rfl,rfl,rfl,rfl,hR.env.size,fun t=>?_,.inl (.inr rfl),?_⟩
 ·exact D9 _ (h1.ro _ hro)
 ·exact((hR.env.env t).later t1 hR.heap).later t2 h1
 ·have:st.nx≠st.nx+1:=by omega
  simp[Ctx.alloc]
theorem Un{C:Ctx}{H H':AHeap}{nm k:Nat}{b0:Blk}{o0 o1:Obj}(hh:C.w.heap[k]?=some o0)(hnc:∀ cs e fz,o0 ≠ .cells cs e fz)(hg:H.get nm=some b0)(hb:C.β nm=some k)
  (himg:∀ n b k',H'.get n=some b->C.β n=some k'->∃ n0 b0,H.get n0=some b0/\C.β n0=some k'):Tr C.U C H (C.put k o1) H' where
 os:=rfl
 tape:=rfl
 output:=rfl
 size:=by simp[Ctx.put]
 shape j a t fz h:=by
  by_cases hj:j=k
  ·subst hj;rw[hh]at h;cases h;exact absurd rfl (hnc _ _ _)
  ·exact qek
 frame j hj hn:=World.putObj_heap_other (fun ej=>hn nm b0 hg (by rw[hb,ej]))
 names n h:=⟨h,rfl⟩
 ros j h:=h
 img n b k' h1 h2 _:=himg n b k' h1 h2
 rob _ h _:=.inl h
theorem zg{C:Ctx}{H:AHeap}(hH:P0 G C H){nm k:Nat}{b0 b':Blk}{o0 o1:Obj}(hh:C.w.heap[k]?=some o0)(hnc:∀ cs e fz,o0 ≠ .cells cs e fz)(hg:H.get nm=some b0)(hb:C.β nm=some k)
  (hb':Tr C.U C H (C.put k o1) ((nm,some b')::H)->iL (C.put k o1) nm b'):P0 G (C.put k o1) ((nm,some b')::H)/\Tr C.U C H (C.put k o1) ((nm,some b')::H):=by
 have himg:∀ n b k',AHeap.get ((nm,some b')::H) n=some b->C.β n=some k'->∃ n0 b0,H.get n0=some b0/\C.β n0=some k':=fun n b k' h1 h2=>by
  by_cases e:n=nm
  ·subst e;exact⟨n,b0,hg,h2⟩
  ·exact G4
 have ht:=Un (C:=C) (o1:=o1) hh hnc hg hb himg;refine⟨⟨?_,?_,fun j hj=>?_,fun g ds hgd=>(hH.glob g ds hgd).later ht hH⟩,ht⟩
 ·exact qjc
 ·exact qh7
 ·exact qf0
theorem GH{C:Ctx}{H:AHeap}{nm n d:Nat}{env:List (Nat×AV)}{ps:Array Tmp}{assign body:Code}{s s':LoopState}{p p':Option Code}(hH:P0 G C H)(hg:H.get nm=some (.lp env n ps assign body s p d)) :
  ∃(k:Nat) (r:Loop),C.β nm=some k/\C.w.heap[k]?=some (.loop r)/\r.state=s/\r.pending=p/\r.params=ps/\r.assign=assign/\r.body=body/\r.tmps.size=n/\(∀ t,O9 C (Du env t) (r.tmps.getD t undef)) ∧
   P0 G (C.put k (.loop { r with state:=s',pending:=p' })) ((nm,some (.lp env n ps assign body s' p' d))::H)/\Tr C.U C H (C.put k (.loop { r with state:=s',pending:=p' })) ((nm,some (.lp env n ps assign body s' p' d))::H):=by
 obtain⟨hU,k,r,h1,h2,h3,h4,h5,h6,h7,h8,h9,h10,h11,h12⟩:=hH.blk nm _ hg;obtain⟨q1,q2⟩:=zg (o1:=.loop { r with state:=s',pending:=p' }) (b':=.lp env n ps assign body s' p' d) hH h2 (fun _ _ _ h=>by cases h) hg h1 fun ht =>
  ⟨k,{ r with state:=s',pending:=p' },h1,dk h2,h3,rfl,rfl,h6,h7,h8,h9,fun t=>(h10 t).later ht hH,h11,h12⟩
 exact⟨k,r,h1,h2,h4,h5,h6,h7,h8,h9,h10,q1,q2⟩
def zr:List Nat->List AV->List (Nat×AV)->List (Nat×AV)
 | p::ps,v::vs,e=>zr ps vs ((p,v)::e)
 | _,_,e=>e
def RoundEnd(nm:Nat)(K:AV->AHeap->Nat->Prop)(e:Exit)(s:St)(m:List Nat):Prop :=
 m=[] /\ ∃ env n ps assign body st' p d,s.heap.get nm=some (.lp env n ps assign body st' p d)/\match e with
  | .normal=>K (.d (.bool true)) (s.heap.put nm (.lp env n ps assign body .ready none d)) s.nx
  | .ret=>K (.d (.bool false)) (s.heap.put nm (.lp env n ps assign body .done (some .ret) d)) s.nx
  | .exit id=>K (.d (.bool false)) (s.heap.put nm (.lp env n ps assign body .done (some (.exit id)) d)) s.nx
  | _=>False
def ARound(P:Program)(G:Nat->Option (List D))(nm:Nat)(args:List AV)(H:AHeap)(nx:Nat)(K:AV->AHeap->Nat->Prop):Prop :=
 ∃ env n ps assign body dnm,H.get nm=some (.lp env n ps assign body .ready none dnm)/\ps.size=args.length/\(∀ p,p∈ps.toList->p<n) ∧
  ∀ r,kw r P G n nx assign ⟨zr ps.toList args env,H,nx⟩ [] fun e s m=>e = .normal/\m=[] ∧
   ∃ env2 n2 ps2 as2 body2 p2 d2,s.heap.get nm=some (.lp env2 n2 ps2 as2 body2 .ready p2 d2) ∧
    kw r P G n nx body ⟨s.env,s.heap.put nm (.lp env2 n2 ps2 as2 body2 .busy p2 d2),s.nx⟩ [] (RoundEnd nm K)
theorem RoundEnd.mono{nm:Nat}{K K':AV->AHeap->Nat->Prop}{e:Exit}{s:St}{m:List Nat}(h:RoundEnd nm K e s m)(hk:∀ v H' n,K v H' n->K' v H' n):RoundEnd nm K' e s m:=by
 obtain⟨h1,env,n,ps,assign,body,st',p,d,h2,h3⟩:=h;refine⟨h1,env,n,ps,assign,body,st',p,d,h2,?_⟩;cases e with
 | normal=>exact hk _ _ _ h3
 | ret=>exact hk _ _ _ h3
 | exit id=>exact hk _ _ _ h3
 | _=>exact h3.elim
theorem ARound.mono{nm:Nat}{args:List AV}{H:AHeap}{nx:Nat}{K K':AV->AHeap->Nat->Prop}(h:ARound P G nm args H nx K)(hk:∀ v H' n,K v H' n->K' v H' n):ARound P G nm args H nx K':=by
 obtain⟨env,n,ps,assign,body,dnm,h1,h2,h3,h4⟩:=h;refine⟨env,n,ps,assign,body,dnm,h1,h2,h3,fun r=>bd (h4 r) ?_⟩;rintro e s m ⟨g1,g2,env2,n2,ps2,as2,body2,p2,d2,g3,g4⟩;exact⟨g1,g2,env2,n2,ps2,as2,body2,p2,d2,g3,bd g4 fun e s m h=>h.mono hk⟩
theorem Ei{C:Ctx}{n:Nat}:∀(ps:List Nat) (vs:List AV) (env:List (Nat×AV)) (xs:List Value) (tmps:Array Value),ps.length=vs.length->xs.length=vs.length->(∀ p,p∈ps->p<n)->tmps.size=n ->
  (∀ i d,vs[i]?=some d->O9 C d (xs.getD i undef))->(∀ t,O9 C (Du env t) (tmps.getD t undef)) ->
  ((ps.zip xs).foldl (fun(tmps:Array Value) (p:Nat×Value)=>tmps.setIfInBounds p.1 p.2) tmps).size=n ∧
  ∀ t,O9 C (Du (zr ps vs env) t) (((ps.zip xs).foldl (fun(tmps:Array Value) (p:Nat×Value)=>tmps.setIfInBounds p.1 p.2) tmps).getD t undef)
 | [],vs,env,xs,tmps,_,_,_,hs,_,h=>⟨hs,h⟩
 | p::ps,[],env,xs,tmps,hl,_,_,_,_,_=>by simp at hl
 | p::ps,v::vs,env,[],tmps,_,hl,_,_,_,_=>by simp at hl
 | p::ps,v::vs,env,x::xs,tmps,hl,hl2,hp,hs,hv,h=>by
  have hlt:p<n:=hp p aR;have hE:=ly (C:=C) (st:=⟨env,[],0⟩) (n:=n) (a:={ tmps:=tmps,defers:=[] }) ⟨hs,h⟩ (d:=some p) (v:=v) (x:=x) (by simpa[eO] using hlt) (by simpa using hv 0 v rfl);have:=Ei ps vs ((p,v)::env) xs (tmps.setIfInBounds p x) yu (by simpa using hl2) (fun q hq=>hp q (by simp[hq])) (by simp[hs])
   (fun i d hi=>by have:=hv (i+1) d B3;simpa using this) (fun t=>hE.env t)
  simpa[zr] using this
theorem ZF{C:Ctx}{H:AHeap}{nm n d:Nat}{env:List (Nat×AV)}{ps:Array Tmp}{assign body:Code}{s:LoopState}{p:Option Code}(hH:P0 G C H)(hg:H.get nm=some (.lp env n ps assign body s p d)) :
  ∃(k:Nat) (r:Loop),C.U nm/\C.β nm=some k/\C.w.heap[k]?=some (.loop r)/\r.state=s/\r.pending=p/\r.params=ps/\r.assign=assign/\r.body=body/\r.tmps.size=n/\(∀ t,O9 C (Du env t) (r.tmps.getD t undef)):=by
 obtain⟨hU,k,r,h1,h2,_,h4,h5,h6,h7,h8,h9,h10,_,_⟩:=hH.blk nm _ hg;exact⟨k,r,hU,h1,h2,h4,h5,h6,h7,h8,h9,h10⟩
theorem jG{H:AHeap}{nm:Nat}{b0:Blk}:∀ m bl,(H.put nm b0).get m=some bl->AHeap.get ((nm,some b0)::H) m=some bl:=fun m bl h=>by rw[cM]at h;exact h
theorem Gs{g:Operand}{args:Array Operand}{tys:Array TypeId}{nm:Nat}{l:List AV}{K:St->Prop}(ho:o.op = .call { callee:=.value g,args:=args,argTypes:=tys })(hg:st.ev G g = .yld nm)
  (hl:args.toList.map (st.ev G)=l) (hdst:eO o.dst n=true)
  (hc:ARound P G nm l st.heap st.nx fun v H' nx'=>K ({ env:=st.env,heap:=H',nx:=nx':St }.put o.dst v)):nF r P G n b o st ms K:=by
 intro X C a next Q hR hX hn
 refine⟨iM r,?_⟩;have hd:∀ c,o.op ≠ .defer c:=fun c h=>by rw[ho]at h;cases h
 obtain⟨env,n',ps,assign,body,dnm,hget,hlen,hps,hA⟩:=hc;have hy:=nS hR.heap hR.env g;rw[hg]at hy;obtain⟨k,rc,hU,hb,hh,e1,e2,e3,e4,e5,e6,e7⟩:=ZF hR.heap hget;have hval:a.eval g = .func (.yield k) #[] #[]:=by
  generalize a.eval g=y at hy;cases hy with
  | yld _ k' hU' hb'=>rw[hb]at hb';cases hb';rfl
 have hargs:∀ i d,l[i]?=some d->O9 C d ((args.toList.map a.eval).getD i undef):=by
  intro i d h;rw[<- hl]at h;simp only[mV,tT]at h;obtain⟨p,hp,rfl⟩:=h;have:(args.toList.map a.eval).getD i undef=a.eval p:=by
   rw[jI,mV,hp];rfl
  rw[this];exact nS hR.heap hR.env p
 have hll:args.size=l.length:=by rw[<- hl];simp
 subst e3 e4 e5;have hrun:(execOp a.eval o).run P C.w = .ok (.round k rc.fn ((rc.params.toList.zip (args.toList.map a.eval)).foldl (fun(tmps:Array Value) (p:Nat×Value)=>tmps.setIfInBounds p.1 p.2) rc.tmps) rc.assign rc.body) C.w:=by
  have hz:=run_yield (P:=P) (args:=args.map a.eval) hh (by simp[hlen,hll]);simp only[execOp,ho,resolve,hval,Deferred.ofValue];simp only[invoke,Sem.run_bind,Sem.run_pure,Result.andThen_ok,Array.empty_append,hz];congr 2;rw[<- Array.foldl_toList,Array.toList_zip];simp
 obtain⟨hsz,henv⟩:=Ei (C:=C) (n:=n') rc.params.toList l env (args.toList.map a.eval) rc.tmps (by simpa using hlen) (by simp[hll]) hps e6 hargs e7;rw[Oper.semAt_eq _ _ _ hd,hrun];refine⟨(fun h=>by cases h),?_⟩;refine roundIn_of_wpIn trivial ?_;have hRel:Rel G n' ⟨zr rc.params.toList l env,st.heap,st.nx⟩ [] C { tmps:=(rc.params.toList.zip (args.toList.map a.eval)).foldl (fun(tmps:Array Value) (p:Nat×Value)=>tmps.setIfInBounds p.1 p.2) rc.tmps,defers:=[] } :=
  ⟨hR.heap,⟨hsz,henv⟩,hR.names,(fun m hm=>by cases hm),rfl⟩
 refine wpIn_mono (hA (some k) C.U C _ hRel fun m hm=>⟨hm,hR.names m hm⟩) ?_;rintro e a1 w1 ⟨s1,m1,C1,rfl,⟨rfl,rfl,env2,n2,ps2,as2,body2,p2,d2,hg2,hbody⟩,hR1,hT1⟩;obtain⟨k2,r2,q1,q2,q3,q4,_,_,_,_,_,hH2,hT2⟩:=GH (s':=.busy) (p':=p2) hR1.heap hg2;have hk2:k2=k:=by have:=(hT1.names nm hU).2;rw[q1,hb]at this;cases this;rfl
 subst hk2;have hrec:({ r2 with state:=.busy,pending:=p2 }:Loop)={ r2 with state:=.busy }:=by subst q4;rfl
 rw[hrec]at hH2 hT2;refine⟨_,run_beginRound q2 q3,?_⟩;have hT2':Tr C.U C st.heap (C1.put k2 (.loop { r2 with state:=.busy })) (s1.heap.put nm (.lp env2 n2 ps2 as2 body2 .busy p2 d2)) :=
  (vC hT1 (hT2.weaken fun m hm=>hm)).anti jG
 have hRel2:Rel G n' ⟨s1.env,s1.heap.put nm (.lp env2 n2 ps2 as2 body2 .busy p2 d2),s1.nx⟩ [] (C1.put k2 (.loop { r2 with state:=.busy })) a1 :=
  ⟨hH2.anti jG,⟨hR1.env.size,fun t=>(hR1.env.env t).later hT2 hR1.heap⟩,hR1.names,(fun m hm=>by cases hm),hR1.defers⟩
 refine wpIn_mono (hbody C.U _ _ hRel2 fun m hm=>⟨(hT2'.names m hm).1,hR.names m hm⟩) ?_;rintro e3 a3 w3 ⟨s3,m3,C3,rfl,⟨rfl,env4,n4,ps4,as4,body4,st4,p4,d4,hg4,hK⟩,hR3,hT3⟩;have done:∀(s':LoopState) (p':Option Code) (v:Bool),s'=(if p'.isNone then LoopState.ready else .done)->v=p'.isNone->K ({ env:=st.env,heap:=s3.heap.put nm (.lp env4 n4 ps4 as4 body4 s' p' d4),nx:=s3.nx:St }.put o.dst (.d (.bool v))) ->
   ∃ y w',(Instr.endRound k2 p').run P C3.w = .ok y w'/\next (a.put o.dst y) w':=by
  intro s' p' v hs' hv hKK;obtain⟨k3,r3,t1,t2,_,_,_,_,_,_,_,hH4,hT4⟩:=GH (s':=s') (p':=p') hR3.heap hg4;have hT3':Tr C.U C st.heap C3 s3.heap:=hT2'.trans hT3;have hk3:k3=k2:=by have:=(hT3'.names nm hU).2;rw[t1,hb]at this;cases this;rfl
  subst hk3;refine⟨_,_,run_endRound p' t2,?_⟩;have hrec2:(Loop.mk r3.state r3.pending r3.fn r3.tmps r3.params r3.assign r3.body r3.defers)=r3:=rfl;have hw:({ r3 with state:=if p'.isNone then LoopState.ready else .done,pending:=p' }:Loop)={ r3 with state:=s',pending:=p' }:=by rw[hs']
  rw[hw];have hT4':Tr C.U C st.heap (C3.put k3 (.loop { r3 with state:=s',pending:=p' })) (s3.heap.put nm (.lp env4 n4 ps4 as4 body4 s' p' d4)) :=
   (hT3'.trans (hT4.weaken fun m hm=>(hT3'.names m hm).1)).anti jG
  have hE':P9 (C3.put k3 (.loop { r3 with state:=s',pending:=p' })) { env:=st.env,heap:=s3.heap.put nm (.lp env4 n4 ps4 as4 body4 s' p' d4),nx:=s3.nx } n a:=jX hR.heap hT4' hR.env rfl;rw[<- hv];refine hn _ (C3.put k3 (.loop { r3 with state:=s',pending:=p' })) _ hKK ⟨?_,ly hE' hdst (fh v),?_,?_,?_⟩ ?_
  ·have:=hH4.anti (H':=s3.heap.put nm (.lp env4 n4 ps4 as4 body4 s' p' d4)) jG;cases o.dst<;>exact this
  ·intro m hm;have:m<s3.nx:=hR3.names m hm;cases o.dst<;>exact this
  ·exact fun m hm=>(hT4'.names m (hR.marks m hm)).1
  ·rw[eo hT4' hR.marks,<- hR.defers];cases o.dst<;>rfl
  ·have:=hT4'.weaken (Y:=X) (fun m hm=>(hX m hm).1);cases o.dst<;>exact this
 cases e3 with
 | normal=>exact done .ready none true rfl rfl hK
 | ret=>exact done .done (some .ret) false rfl rfl hK
 | exit id=>exact done .done (some (.exit id)) false rfl rfl hK
 | goto t=>exact hK.elim
 | panic ch=>exact hK.elim
 | outgrown=>exact hK.elim
def Nr(n:Nat)(st:St)(ps:Array Tmp)(assign body:Code):AHeap:=(st.nx+1,some (.lp st.env n ps assign body .ready none st.nx))::(st.nx,some (.raw (.deferred (some []))))::st.heap
def Cn(Q:Exit->St->List Nat->Prop)(st:St)(ms:List Nat)(H':AHeap)(nx':Nat):Prop :=
 ∃ env n ps assign body s p d,H'.get (st.nx+1)=some (.lp env n ps assign body s p d)/\s ≠ .busy/\match p with
  | none=>Q .normal ⟨st.env,H'.del (st.nx+1),nx'⟩ (st.nx::ms)
  | some .ret=>Q .ret ⟨st.env,H'.del (st.nx+1),nx'⟩ (st.nx::ms)
  | some (.exit id)=>Q (.exit id) ⟨st.env,H'.del (st.nx+1),nx'⟩ (st.nx::ms)
  | _=>False
theorem vi{H:AHeap}{nm:Nat}{b0:Option Blk}:∀ m bl,(H.del nm).get m=some bl->AHeap.get ((nm,b0)::H) m=some bl:=fun m bl h=>by
 rw[dD]at h;by_cases e:m=nm
 ·rw[if_pos e]at h;cases h
 ·rw[if_neg e]at h;rw[ai _ _ e];exact h
theorem yi{g:Operand}{ps:Array Tmp}{assign body:Code}{f:FuncId}{fi ca l:List AV}(hg:Aw (st.ev G g)=some (f,fi,ca))(hf:jw P f)(hl:fi++[.yld (st.nx+1)]++ca=l)
  (hc:bq P G f l (Nr n st ps assign body) (st.nx+2) fun _ H' nx'=>Cn Q st ms H' nx'):kw none P G n b (.rangeFunc g ps assign body) st ms Q:=by
 intro X C a hR hX;obtain⟨A,B,e1,e2,e3,e4,e5⟩:=wD hg (nS hR.heap hR.env g);refine wpIn_rangeFunc fun fn _=>?_;obtain⟨hH1,hT1⟩:=Ai (fn:=fn) (ps:=ps) (assign:=assign) (body:=body) hR;generalize hC1:(C.alloc st.nx (.deferred (some []))).alloc (st.nx+1) (.loop { state:=.ready,pending:=none,fn:=fn,tmps:=a.tmps,params:=ps,assign:=assign,body:=body,defers:=C.w.heap.size })=C1 at hH1 hT1;have hU1:C1.U (st.nx+1):=by rw[<- hC1];exact .inr rfl
 have hU0:C1.U st.nx:=by rw[<- hC1];exact .inl (.inr rfl)
 have hb1:C1.β (st.nx+1)=some (C.w.heap.size+1):=by rw[<- hC1];simp[Ctx.alloc]
 have hb0:C1.β st.nx=some C.w.heap.size:=by
  rw[<- hC1];have:st.nx≠st.nx+1:=qad;simp[Ctx.alloc]
 have hw1:(C.w.alloc (.deferred (some []))).alloc (.loop { state:=.ready,pending:=none,fn:=fn,tmps:=a.tmps,params:=ps,assign:=assign,body:=body,defers:=C.w.heap.size })=C1.w:=by rw[<- hC1];rfl
 have hn1:∀ m,C1.U m->m<st.nx+2:=fun m hm=>by
  rw[<- hC1]at hm;rcases hm with(h|h)|h
  ·have:=hR.names m h;omega
  ·exact qad
  ·exact qad
 have hcall:=hc C1 (A ++ #[.func (.yield (C.w.heap.size+1)) #[] #[]]++B) hH1 hn1 (by rw[<- hl];simp[e2,e3];omega) (by
  rw[<- hl];refine iB (by simp[e2]) (iB e2 (fun i d h=>(e4 i d h).later hT1 hR.heap) fun i d h=>?_) (fun i d h=>(e5 i d h).later hT1 hR.heap)
  match i,h with
  | 0,h=>simp at h;subst h;exact .yld _ _ hU1 hb1
  | i+1,h=>simp at h)
 refine⟨C.w.heap.size+1,[{ target:=.collected C.w.heap.size,args:=#[] }],C1.w,{ target:=.fn (.func f) B,args:=A ++ #[.func (.yield (C.w.heap.size+1)) #[] #[]] },C1.w,f,A ++ #[.func (.yield (C.w.heap.size+1)) #[] #[]]++B,C1.w,?_,?_,fun _ _=>trivial,?_,(fun h=>by cases h),?_⟩
 ·rw[<- hw1];exact run_enterLoop_outer fn a.tmps ps assign body
 ·have hm:Array.map a.eval #[Operand.const (Value.func (Fn.yield (C.w.heap.size+1)) #[] #[])] = #[Value.func (Fn.yield (C.w.heap.size+1)) #[] #[]]:=by
   rw[List.map_toArray];rfl
  simp only[resolve,rangeCall,e1,Deferred.ofValue,hm,Sem.run_pure]
 ·simp[invoke,mQ hf]
 ·refine(vH hcall).mono ?_;rintro e w' ⟨x,v,H',nx',C2,rfl,rfl,⟨env2,n2,ps2,as2,body2,s2,p2,d2,hg2,hs2,hQ⟩,hx,hH2,hU2,hT2⟩;obtain⟨k,rc,q1,q2,q3,q4,_,_,_,_,_,hH3,hT3⟩:=GH (s':=.exhausted) (p':=p2) hH2 hg2;have hk:k=C.w.heap.size+1:=by have:=(hT2.names _ hU1).2;rw[q1,hb1]at this;cases this;rfl
  subst hk;have hrec:({ rc with state:=.exhausted,pending:=p2 }:Loop)={ rc with state:=.exhausted }:=by subst q4;rfl
  rw[hrec]at hH3 hT3;refine⟨_,_,run_endLoop q2 (by rw[q3];exact hs2),?_⟩;have hT:Tr C.U C st.heap (C2.put (C.w.heap.size+1) (.loop { rc with state:=.exhausted })) (H'.del (st.nx+1)) :=
   ((hT1.trans (hT2.weaken fun m hm=>(hT1.names m hm).1)).trans (hT3.weaken fun m hm=>(hT2.names m ((hT1.names m hm).1)).1)).anti vi
  have hRel:Rel G n ⟨st.env,H'.del (st.nx+1),nx'⟩ (st.nx::ms) (C2.put (C.w.heap.size+1) (.loop { rc with state:=.exhausted })) { a with defers:=[{ target:=.collected C.w.heap.size,args:=#[] }]++a.defers }:=by
   refine⟨hH3.anti vi,⟨hR.env.size,fun t=>(hR.env.env t).later hT hR.heap⟩,hU2,fun m hm=>?_,?_⟩
   ·rcases jJ.1 hm with q|q
    ·subst q;exact(hT2.names _ hU0).1
    ·exact(hT.names m (hR.marks m q)).1
   ·simp only[nB,yf,uV];rw[eo hT hR.marks,<- hR.defers];have:kW (C2.put (C.w.heap.size+1) (.loop { rc with state:=.exhausted })) st.nx={ target:=.collected C.w.heap.size,args:=#[] }:=by
     have:=(hT2.names _ hU0).2;simp only[kW,Ctx.put,this,hb0,Hw]
    rw[this]
  have hTX:=hT.weaken (Y:=X) fun m hm=>(hX m hm).1;have key:∀ j:Option Code,(match j with
    | none=>Q .normal ⟨st.env,H'.del (st.nx+1),nx'⟩ (st.nx::ms)
    | some .ret=>Q .ret ⟨st.env,H'.del (st.nx+1),nx'⟩ (st.nx::ms)
    | some (.exit id)=>Q (.exit id) ⟨st.env,H'.del (st.nx+1),nx'⟩ (st.nx::ms)
    | _=>False)->(match j with
    | none=>uc G X n C st.heap Q .normal { a with defers:=[{ target:=.collected C.w.heap.size,args:=#[] }]++a.defers } (C2.put (C.w.heap.size+1) (.loop { rc with state:=.exhausted })).w
    | some c=>c.wpIn (Fr none) 0 P (uc G X n C st.heap Q) { a with defers:=[{ target:=.collected C.w.heap.size,args:=#[] }]++a.defers } (C2.put (C.w.heap.size+1) (.loop { rc with state:=.exhausted })).w):=by
   intro j hj
   match j,hj with
   | none,hQ=>exact⟨_,_,_,rfl,hQ,hRel,hTX⟩
   | some .ret,hQ=>exact wpIn_ret ⟨_,_,_,rfl,hQ,hRel,hTX⟩
   | some (.exit id),hQ=>exact wpIn_exit ⟨_,_,_,rfl,hQ,hRel,hTX⟩
  have fin:=key p2 hQ;rw[<- q4]at fin;exact fin
def pb:List Nat->AHeap->Bool
 | [],_=>true
 | m::ms,H=>match H.get m with
  | some (.raw (.deferred (some [])))=>pb ms (H.del m)
  | _=>false
def gF:List Nat->AHeap->AHeap
 | [],H=>H
 | m::ms,H=>gF ms (H.del m)
theorem rz{fn:Func}{R:Ending->World->Prop}{tmps:Array Value}:∀(ms:List Nat) (H:AHeap) (C:Ctx),P0 G C H->pb ms H=true ->
  (∀ C',P0 G C' (gF ms H)->Tr C.U C H C' (gF ms H)->C'.U=C.U->∃ x,(results fn tmps).run P C'.w = .ok x C'.w/\R (.returned x) C'.w) ->
  LeavesInM (Fr none) 0 P fn tmps R (ms.map (kW C)) .returning C.w
 | [],H,C,hH,_,h=>by
  obtain⟨x,h1,h2⟩:=h C hH (Tr.refl fun _ h=>h) rfl;exact⟨x,h1,h2⟩
 | m::ms,H,C,hH,hm,h=>by
  unfold pb at hm;split at hm
  ·rename_i hg;obtain⟨hU,k,hb,hh,_,_⟩:=hH.blk m _ hg;obtain⟨h1,h2⟩:=zg (o1:=.deferred none) (b':=.raw (.deferred none)) hH hh (fun _ _ _ h=>by cases h) hg hb fun ht=>⟨k,hb,dk hh,fun hro=>hH.ro_apart hro _ _ hg hb,rfl⟩
   refine⟨by simp,.inl ⟨k,(C.put k (.deferred none)).w,?_,run_takeDeferred hh,?_⟩⟩
   ·simp[kW,hb]
   ·have h1':=h1.anti (H':=H.del m) vi;have h2':=h2.anti (H'':=H.del m) vi;exact rz ms (H.del m) (C.put k (.deferred none)) h1' hm fun C' g1 g2 g3=>h C' g1 (h2'.trans g2) g3
  ·cases hm
theorem lm{f:FuncId}{fn:Func}{c:Code}{args:List AV}{H:AHeap}{nx:Nat}{K:AV->AHeap->Nat->Prop}(hf:P.funcs[f]?=some fn)(hb:fn.body=some c)(hn:args.length<=fn.ntmps)
  (h:kw none P G fn.ntmps nx c { env:=yl 0 args,heap:=H,nx:=nx } [] fun e st' ms'=>(e = .normal\/e = .ret)/\pb ms' st'.heap=true /\ ∃ v,Q2 P G ⟨st'.env,gF ms' st'.heap,st'.nx⟩ fn.results v/\K v (gF ms' st'.heap) st'.nx):bq P G f args H nx K:=by
 intro C vs hH hU hs hr;refine yH (callsIn_of_wp_marks hf hb trivial ?_);have hR:Rel G fn.ntmps { env:=yl 0 args,heap:=H,nx:=nx } [] C { tmps:=vs++Array.replicate (fn.ntmps-vs.size) undef,defers:=[] }:=by
  refine⟨hH,⟨by simp;omega,fun t=>?_⟩,hU,(fun m hm=>by cases hm),rfl⟩;rw[AK,if_pos (dW _)];cases hg:args[t-0]? with
  | none=>exact .top _
  | some v =>
   simp only[Wb]at hg;have hlt:=(nt.1 hg).1;rw[nV,if_pos qad];exact hr t v hg
 refine wpIn_mono (h C.U C _ hR fun m hm=>⟨hm,hU m hm⟩) ?_;rintro e a' w' ⟨st',ms',C',rfl,⟨he,hm,v,hv,hK⟩,hR',hT⟩;have key:LeavesInM (Fr none) 0 P fn a'.tmps (fun e w'=>∃ x v H' nx' C',e = .returned x/\C'.w=w'/\K v H' nx'/\O9 C' v x/\P0 G C' H'/\(∀ m,C'.U m->m<nx')/\Tr C.U C H C' H') a'.defers .returning C'.w:=by
  rw[hR'.defers];refine rz ms' st'.heap C' hR'.heap hm fun C2 g1 g2 g3=>?_;have hE:P9 C2 ⟨st'.env,gF ms' st'.heap,st'.nx⟩ fn.ntmps a':=jX hR'.heap g2 hR'.env rfl;obtain⟨x,h1,h2⟩:=Er g1 hE hv;exact⟨x,h1,x,v,_,_,C2,rfl,rfl,hK,h2,g1,(fun m hm=>hR'.names m (by rw[<- g3];exact hm)),hT.trans (g2.weaken fun m hm=>(hT.names m hm).1)⟩
 rcases he with rfl|rfl
 ·exact key
 ·exact key
theorem HC{F:Fence}{n:Nat}{c:Code}{Q:Exit->Act->World->Prop}{a:Act}{w:World}(h:c.wpIn F n P (fun e a w=>match e with | .goto _=>False|e=>Q e a w) a w):(Code.scope c).wpIn F n P Q a w:=by
 intro b k cs hro hb hr;have h0:(lone (b.atR a (.code (.scope c)::k)) cs w).fenced P F:=fenced_calm hb hr rfl;have s1:step P (lone (b.atR a (.code (.scope c)::k)) cs w) = .next (lone (b.atR a (.code c :: .inScope c::k)) cs w):=step_lone_go (by simp[stepG,stepG.exec,Frame.atR]);have s2:∀ a w,step P (lone (b.atR a (.inScope c::k)) cs w) = .next (lone (b.atR a k) cs w):=fun a w=>step_lone_go (by simp[stepG,stepG.exec,Frame.atR]);obtain⟨e,a₁,w₁,hq,harr⟩:=h b (.inScope c::k) cs hro hb hr;cases e with
 | normal=>exact⟨.normal,a₁,w₁,hq,.head h0 s1 (StepsIn.trans harr (.one (fenced_calm hb hr rfl) (s2 _ _)))⟩
 | exit id=>exact⟨.exit id,a₁,w₁,hq,fun k' hk=>.head h0 s1 (harr.1 k' (by simp[exitTo,hk])),fun hr' hk=>let ⟨k₁,h1,h2⟩:=harr.2 hr' (by simp[exitTo,hk]);⟨k₁,h1,.head h0 s1 h2⟩⟩
 | goto l=>exact hq.elim
 | ret=>exact⟨_,a₁,w₁,hq,.of_steps (.one h0 s1) harr⟩
 | panic ch=>exact⟨_,a₁,w₁,hq,.of_steps (.one h0 s1) harr⟩
 | outgrown=>exact⟨_,a₁,w₁,hq,.of_steps (.one h0 s1) harr⟩
def C9(Q:Exit->St->List Nat->Prop):Exit->St->List Nat->Prop
 | .goto _,_,_=>False
 | e,s,m=>Q e s m
theorem sM{c:Code}(h:kw r P G n b c st ms (C9 Q)):kw r P G n b (.scope c) st ms Q:=by
 intro X C a hR hX;refine HC (wpIn_mono (h X C a hR hX) ?_);rintro e a' w' ⟨st',ms',C',rfl,h2,h3,h4⟩;cases e with
 | goto l=>exact h2.elim
 | _=>exact⟨st',ms',C',rfl,h2,h3,h4⟩
theorem sL{l:Nat}(h:Q .normal st ms):kw r P G n b (.label l) st ms Q :=
 fun _ C _ hR hX=>wpIn_label ⟨st,ms,C,rfl,h,hR,Tr.refl fun m hm=>(hX m hm).1⟩
end Go.AL
namespace Go.AL
open Go
variable{G:Nat->Option (List D)}{P:Program}{o:Oper}
variable{M:Om}{hd:M.W->Prop}{T:Tab}
variable{r:Option Nat}{n b:Nat}{ms:List Nat}
theorem ET{st:St}{k:AV->M.W}(ok:P4 M hd)(h:hd (zC M T G st o k)):∀ c,o.op ≠ .defer c:=by
 intro c hc;unfold zC at h;rw[hc]at h;exact ok.h_bad h
theorem BJ{st:St}{lo:Nat}{k:AV->AHeap->Nat->M.W}(ok:P4 M hd)(h:hd (Hk M T G st lo o k)):∀ c,o.op ≠ .defer c:=by
 intro c hc;unfold Hk at h;rw[hc]at h;exact ok.h_bad h
theorem Ur{st:St}{k:AV->AHeap->Nat->M.W}(ok:P4 M hd)(h:hd (Qw M T G st o k)):∀ c,o.op ≠ .defer c:=by
 intro c hc;unfold Qw at h;rw[hc]at h;exact ok.h_bad h
structure P7 (M:Om) where
 fn:FuncId->List AV->AHeap->Nat->(AV->AHeap->Nat->M.W)->M.W
 rd:Nat->List AV->AHeap->Nat->(AV->AHeap->Nat->M.W)->M.W
abbrev fT(M:Om):=FuncId->List D->(AV->AHeap->Nat->M.W)->M.W
structure CallOk (P:Program) (G:Nat->Option (List D)) (M:Om) (hd:M.W->Prop) (Call:P7 M):Prop where
 fn:∀ f l H nx k,hd (Call.fn f l H nx k)->jw P f/\bq P G f l H nx fun v H' nx'=>hd (k v H' nx')
 rd:∀ nm l H nx k,hd (Call.rd nm l H nx k)->ARound P G nm l H nx fun v H' nx'=>hd (k v H' nx')
def zI(P:Program)(G:Nat->Option (List D))(M:Om)(hd:M.W->Prop)(DCall:fT M):Prop :=
 ∀ f ds k,hd (DCall f ds k)->∃ v N n,jw P f/\bq P G f (ds.map .d) [] 0 (fun v' N' n'=>v'=v/\N'=N/\n'=n)/\hd (k v N n)
def Ud{W:Type}(d:Option Tmp)(v:AV)(e:List (Nat×AV))(h:AHeap)(nx:Nat)(k:St->W):W:=match d with
 | some t=>k ⟨(t,v)::e,h,nx⟩
 | none=>k ⟨e,h,nx⟩
theorem oy{W:Type}(d:Option Tmp)(v:AV)(e:List (Nat×AV))(h:AHeap)(nx:Nat)(k:St->W):Ud d v e h nx k=k (St.put ⟨e,h,nx⟩ d v):=by cases d<;>rfl
def UI{W:Type}(N h:AHeap)(k:AHeap->W):W:=match N with
 | []=>k h
 | [p]=>k (p::h)
 | N=>k (N++h)
theorem LS{W:Type}(N h:AHeap)(k:AHeap->W):UI N h k=k (N++h):=by
 match N with
 | []=>rfl
 | [p]=>rfl
 | p::q::N=>rfl
def HN{W:Type}(n m:Nat)(k:Nat->W):W:=match m with
 | 0=>k n
 | m=>match n+m with
  | 0=>k 0
  | q+1=>k (q+1)
theorem Co{W:Type}(n m:Nat)(k:Nat->W):HN n m k=k (n+m):=by
 unfold HN;split
 ·rfl
 ·split
  ·rename_i h;rw[h]
  ·rename_i h;rw[h]
def Fg(M:Om)(T:Tab)(G:Nat->Option (List D))(st:St)(o:Oper)(k:St->M.W):M.W:=match st with
 | ⟨e,h,nx⟩=>zC M T G ⟨e,h,nx⟩ o fun v=>Ud o.dst v e h nx k
def Ff(M:Om)(T:Tab)(G:Nat->Option (List D))(st:St)(o:Oper)(k:St->M.W):M.W:=match st with
 | ⟨e,h,nx⟩=>Hk M T G ⟨e,h,nx⟩ nx o fun v N n=>UI N h fun h'=>HN nx n fun nx'=>Ud o.dst v e h' nx' k
def Ca(M:Om)(T:Tab)(G:Nat->Option (List D))(st:St)(o:Oper)(k:St->M.W):M.W:=match st with
 | ⟨e,h,nx⟩=>Qw M T G ⟨e,h,nx⟩ o fun v H' n=>M.hp H' fun H'=>HN nx n fun nx'=>Ud o.dst v e H' nx' k
def Wi(M:Om)(G:Nat->Option (List D))(Call:P7 M)(st:St)(o:Oper)(g:Operand)(args:List Operand)(k:St->M.W):M.W:=match st with
 | ⟨e,h,nx⟩=>match Aw (St.ev G ⟨e,h,nx⟩ g) with
  | some (f,fi,ca)=>dZ (fi++args.map (St.ev G ⟨e,h,nx⟩)++ca) fun l=>Call.fn f l h nx fun v H' nx'=>v.force fun v=>Ud o.dst v e H' nx' k
  | none=>match St.ev G ⟨e,h,nx⟩ g with
   | .yld nm=>dZ (args.map (St.ev G ⟨e,h,nx⟩)) fun l=>Call.rd nm l h nx fun v H' nx'=>v.force fun v=>Ud o.dst v e H' nx' k
   | _=>M.bad
def E2(M:Om)(T:Tab)(G:Nat->Option (List D))(st:St)(o:Oper)(t:Nat)(x:Operand)(k:St->M.W):M.W:=match T.get t with
 | some ⟨_,_,_,_,.sl _⟩=>match st with
  | ⟨e,h,nx⟩=>match St.ev G ⟨e,h,nx⟩ x with
   | .d (.sl es _)=>M.unk (es.length≠0) fun b=>Ud o.dst (.d (.bool b)) e h nx k
   | .sl _ _ _ len _ _=>M.unk (len≠0) fun b=>Ud o.dst (.d (.bool b)) e h nx k
   | _=>M.bad
 | _=>M.bad
def Ga:Operand->Bool
 | .const (.slice none 0 0)=>true
 | _=>false
theorem KA{x:Operand}(h:Ga x=true):x = .const (.slice none 0 0):=by
 unfold Ga at h;split at h
 ·rfl
 ·cases h
def xop(M:Om)(T:Tab)(G:Nat->Option (List D))(Call:P7 M)(st:St)(o:Oper)(k:St->M.W):M.W:=match o.op with
 | .store _ _ _=>Ca M T G st o k
 | .box _ _=>Ff M T G st o k
 | .alloc _=>Ff M T G st o k
 | .makeSlice _ _ _=>Ff M T G st o k
 | .buildSlice _ _ _=>Ff M T G st o k
 | .call ⟨.value g,args,_⟩=>Wi M G Call st o g args.toList k
 | .call ⟨.builtin .append,⟨x::_⟩,_⟩=>match st.ev G x with
  | .d _=>Ff M T G st o k
  | _=>Ca M T G st o k
 | .call ⟨.builtin .copy,_,_⟩=>Ca M T G st o k
 | .call ⟨.builtin .clear,_,_⟩=>Ca M T G st o k
 | .makeMap _ _=>Ff M T G st o k
 | .mapUpdate _ _ _ _=>Ca M T G st o k
 | .insert _ _ _ _=>Ca M T G st o k
 | .slice t _ none none none=>match T.get t with
  | some ⟨_,_,_,_,.arr _ _⟩=>Ca M T G st o k
  | _=>Fg M T G st o k
 | .binOp .eql t x y _=>match Ga y with
  | true=>E2 M T G st o t x k
  | false=>Fg M T G st o k
 | _=>Fg M T G st o k
variable{st:St}{k:St->M.W}{Call:P7 M}{DCall:fT M}
theorem HD(ok:P4 M hd)(hT:TabOk P T)(hdst:eO o.dst n=true)(h:hd (Ff M T G st o k)):nF r P G n b o st ms fun st'=>hd (k st'):=by
 obtain⟨e,hh,nx⟩:=st;unfold Ff at h;simp only[LS,Co,oy]at h;obtain⟨v,N,m,h1,h2,h3⟩:=qq ok hT h;exact gm (BJ ok h) (h3 hh Ext.refl) hdst h1
theorem HF(ok:P4 M hd)(hT:TabOk P T)(hdst:eO o.dst n=true)(h:hd (Ca M T G st o k)):nF r P G n b o st ms fun st'=>hd (k st'):=by
 obtain⟨e,hh,nx⟩:=st;unfold Ca at h;have hnd:=Ur ok h;obtain⟨v,N,m,h1,h2⟩:=Hs ok hT h;obtain⟨y,h3,h4⟩:=ok.h_hp h1;simp only[Co,oy]at h4;exact gm hnd (h2.anti h3) hdst h4
theorem oG(ok:P4 M hd)(hT:TabOk P T)(hdst:eO o.dst n=true)(h:hd (Fg M T G st o k)):nF r P G n b o st ms fun st'=>hd (k st'):=by
 obtain⟨e,hh,nx⟩:=st;unfold Fg at h;simp only[oy]at h;obtain⟨v,h1,h2⟩:=si ok hT h;exact aL (ET ok h) (h2 _ Ext.refl) hdst h1
theorem DJ{v:Bool->AV}{K:St->Prop}(hnd:∀ c,o.op ≠ .defer c)(hdst:eO o.dst n=true)
  (h:∀(C:Ctx) (a:Act),P0 G C st.heap->Opd G C st a o->∃(t:Bool) (x:Value),(execOp a.eval o).run P C.w = .ok (.value x) C.w/\O9 C (v t) x/\K (st.put o.dst (v t))):nF r P G n b o st ms K:=by
 intro X C a next Q hR hX hn
 refine⟨iM r,?_⟩;obtain⟨t,x,h1,h2,h3⟩:=h C a hR.heap (fun x _=>nS hR.heap hR.env x);rw[Oper.semAt_eq _ _ _ hnd,h1];refine hn _ C _ h3 ⟨?_,ly hR.env hdst h2,?_,hR.marks,?_⟩ ?_
 ·cases o.dst<;>exact hR.heap
 ·intro m hm;have:=hR.names m hm;cases o.dst<;>exact this
 ·rw[<- hR.defers];cases o.dst<;>rfl
 ·have:=Tr.refl (X:=X) (C:=C) (H:=st.heap) fun m hm=>(hX m hm).1;cases o.dst<;>exact this
theorem sa{a:Act}{C:Ctx}{t t' e:TypeId}{x:Operand}{ad:Option Addr}{m c:Nat}(ho:o.op = .binOp .eql t x (.const (.slice none 0 0)) t')(hu:P.underlying t=some (.slice e))(hx:a.eval x = .slice ad m c) :
  (execOp a.eval o).run P C.w = .ok (.value (.bool ad.isNone)) C.w:=by
 have h0:a.eval (.const (.slice none 0 0)) = .slice none 0 0:=rfl;have h1:=run_equal_slice_nil C.w t e ad m c hu;simp only[execOp,ho,hx,h0];simp[eqGuard,binOp,h1]
theorem HG(ok:P4 M hd)(hT:TabOk P T)(hdst:eO o.dst n=true){t t':TypeId}{x:Operand}(ho:o.op = .binOp .eql t x (.const (.slice none 0 0)) t')(h:hd (E2 M T G st o t x k)):nF r P G n b o st ms fun st'=>hd (k st'):=by
 have hnd:∀ c,o.op ≠ .defer c:=fun c hc=>by rw[ho]at hc;cases hc
 have hmem:x∈o.op.operands:=fI;obtain⟨se,sh,sn⟩:=st;unfold E2 at h;split at h
 ·rename_i e hg;have hu:P.underlying t=some (.slice e):=(hT.get hg).2;simp only[oy]at h;split at h
  ·rename_i es tg hx;refine DJ (v:=fun t=>.d (.bool t)) hnd hdst fun C a hH hop=>?_;have hd0:=bZ (hx ▸ hop x hmem);generalize hxv:a.eval x=xv at hd0;cases hd0 with
   | sl0 _ ad c ht=>exact⟨_,_,sa ho hu hxv,fh _,ok.h_unk h _ fun hne=>absurd rfl hne⟩
   | sl _ _ b' o' c sz vs hro hc ht hsz hm hr=>exact⟨_,_,sa ho hu hxv,fh _,ok.h_unk h _ fun _=>rfl⟩
  ·rename_i nm sz lo len room tg hx;refine DJ (v:=fun t=>.d (.bool t)) hnd hdst fun C a hH hop=>?_;rcases fS (hx ▸ hop x hmem) with⟨k',c,cs,e',fz,_,_,_,_,_,_,_,hxv⟩|⟨_,hl,_,ad,hxv⟩
   ·exact⟨_,_,sa ho hu hxv,fh _,ok.h_unk h _ fun _=>rfl⟩
   ·subst hl;exact⟨_,_,sa ho hu hxv,fh _,ok.h_unk h _ fun hne=>absurd rfl hne⟩
  ·exact bX
 ·exact bX
theorem Lu(ok:P4 M hd)(hT:TabOk P T)(hC:CallOk P G M hd Call)(hdst:eO o.dst n=true)(h:hd (xop M T G Call st o k)):nF r P G n b o st ms fun st'=>hd (k st'):=by
 unfold xop at h;split at h
 ·exact A8
 ·exact H4
 ·exact H4
 ·exact H4
 ·exact H4
 ·rename_i g args tys ho;obtain⟨e,hh,nx⟩:=st;unfold Wi at h;simp only at h;split at h
  ·rename_i f fi ca hf;rw[bI]at h;obtain⟨h1,h2⟩:=hC.fn _ _ _ _ _ h;refine lK ho hf h1 rfl hdst ?_;simp only[AV.force_eq,oy]at h2;exact h2
  ·split at h
   ·rename_i nm hy;rw[bI]at h;have h2:=hC.rd _ _ _ _ _ h;refine Gs ho hy rfl hdst ?_;simp only[AV.force_eq,oy]at h2;exact h2
   ·exact bX
 ·split at h
  ·exact H4
  ·exact A8
 ·exact A8
 ·exact A8
 ·exact H4
 ·exact A8
 ·exact A8
 ·split at h
  ·exact A8
  ·exact oG ok hT hdst h
 ·rename_i t x y t' ho;split at h
  ·rename_i hy;rw[KA hy]at ho;exact HG ok hT hdst ho h
  ·exact oG ok hT hdst h
 ·exact oG ok hT hdst h
abbrev XO(M:Om):=St->(St->M.W)->M.W
def QM(M:Om)(T:Tab)(G:Nat->Option (List D))(Call:P7 M)(ops:Array Oper)(o:Oper)(next:XO M):XO M:=fun st k=>match kF ops st.env o with
 | some true=>xop M T G Call st o fun st'=>next st' k
 | some false=>match st with
  | ⟨e,h,nx⟩=>Ud o.dst (.d (.tup [])) e h nx fun st'=>next st' k
 | none=>M.bad
noncomputable def Lv(M:Om)(T:Tab)(G:Nat->Option (List D))(Call:P7 M)(ops:Array Oper)(l:List Oper):XO M :=
 List.rec (motive:=fun _=>XO M) (fun st k=>k st) (fun o _ ih=>QM M T G Call ops o ih) l
theorem kv(ok:P4 M hd)(hT:TabOk P T)(hC:CallOk P G M hd Call){ops:Array Oper}:∀(rest:List Oper) (st:St),(∀ o,o∈rest->eO o.dst n=true)->hd (Lv M T G Call ops rest st k) ->
  vF r P G n b ops ms (fun st'=>hd (k st')) rest st
 | [],st,_,h=>h
 | o::rest,st,hdst,h=>by
  have hrest:∀ o,o∈rest->eO o.dst n=true:=fun o ho=>hdst o (eJ _ ho);have hd0:=hdst o aR;change hd (QM M T G Call ops o (Lv M T G Call ops rest) st k) at h;unfold QM at h;simp only[vF,Ft];have opw:hd (xop M T G Call st o fun st'=>Lv M T G Call ops rest st' k)->nF r P G n b o st ms (vF r P G n b ops ms (fun st'=>hd (k st')) rest):=fun h=>by
   have:=Lu (r:=r) (b:=b) (ms:=ms) ok hT hC hd0 h;intro X C a next Q hR hX hn
   exact this X C a next Q hR hX fun st' C' a' h1 h2 h3=>hn st' C' a' (kv ok hT hC rest st' hrest h1) h2 h3
  have eqv:∀ j,mu ops { env:=st.env,heap:=[],nx:=0 } j=mu ops st j:=fun j=>rfl;unfold kF at h;split
  ·rename_i hg;rw[hg]at h;exact opw h
  ·rename_i j w hg;rw[hg]at h;simp only[eqv]at h;have equ:mt ops { env:=st.env,heap:=[],nx:=0 } j=mt ops st j:=rfl;rw[equ]at h;cases hv:mu ops st j with
   | none =>
    rw[hv]at h;simp only at h;cases hu:mt ops st j with
    | true =>
     rw[hu]at h;simp only[oy]at h;exact .inr ⟨rfl,hd0,kv ok hT hC rest _ hrest h⟩
    | false=>rw[hu]at h;exact(ok.h_bad h).elim
   | some t =>
    rw[hv]at h;refine .inl ⟨t,rfl,fun e=>?_,fun e=>⟨hd0,?_⟩⟩
    ·have:(t==w)=true:=by simp[e]
     simp only[this]at h;exact opw h
    ·have:(t==w)=false:=by simp[e]
     simp only[this,oy]at h;exact kv ok hT hC rest _ hrest h
mutual
def AV.nms:AV->List Nat->List Nat
 | .d _,l=>l
 | .top,l=>l
 | .ptr nm _ _ _,l=>nm::l
 | .sl nm _ _ _ _ _,l=>nm::l
 | .map nm,l=>nm::l
 | .yld nm,l=>nm::l
 | .fn _ a c,l=>AV.nmss a (AV.nmss c l)
 | .agg a,l=>AV.nmss a l
 | .tup a,l=>AV.nmss a l
termination_by structural x=>x
def AV.nmss:List AV->List Nat->List Nat
 | [],l=>l
 | v::r,l=>v.nms (AV.nmss r l)
termination_by structural x=>x
end
def AV.nmS(v:AV)(l:List Nat):List Nat:=match v with
 | .d _=>l
 | .top=>l
 | .ptr nm _ _ _=>nm::l
 | .sl nm _ _ _ _ _=>nm::l
 | .map nm=>nm::l
 | .yld nm=>nm::l
 | v=>v.nms l
def kX:List AV->List Nat->List Nat
 | [],l=>l
 | v::r,l=>v.nmS (kX r l)
def fL(n:Nat):List Nat->Bool
 | []=>false
 | m::l=>match Nat.beq m n with
  | true=>true
  | false=>fL n l
theorem CQ{n:Nat}:∀{l:List Nat},n∈l->fL n l=true
 | [],h=>by cases h
 | m::l,h=>by
  unfold fL;split
  ·rfl
  ·rename_i e;rcases jJ.1 h with q|q
   ·subst q;simp at e
   ·exact CQ q
def wx(nm:Nat):List HE->Nat->Option (Nat×Blk)
 | [],_=>none
 | he::effs,j=>match wx nm effs (j+1) with
  | some p=>some p
  | none=>match he.W with
   | some (n,bl)=>match Nat.beq n nm with
    | true=>some (j,bl)
    | false=>none
   | none=>none
def yY(ops:Array Oper)(i nm:Nat):List HE->Nat->Option Blk
 | [],_=>none
 | he::effs,j=>match he.N with
  | []=>yY ops i nm effs (j+1)
  | _::_=>match he.N.get nm with
   | some bl=>match dN ops (min 3 ops.size) j i with
    | true=>some bl
    | false=>none
   | none=>yY ops i nm effs (j+1)
def Kt(ops:Array Oper)(i:Nat)(effs:List HE)(H0:AHeap)(nm:Nat):Option Blk:=match wx nm effs 0 with
 | some (j,bl)=>match dN ops (min 3 ops.size) j i with
  | true=>some bl
  | false=>none
 | none=>match H0.get nm with
  | some bl=>some bl
  | none=>yY ops i nm effs 0
theorem qh{nm:Nat}:∀{effs:List HE} {j0:Nat},wx nm effs j0=none->∀(j:Nat) (e:HE) (q:Nat×Blk),effs[j]?=some e->e.W=some q->q.1≠nm
 | [],_,_,j,e,q,h,_=>by simp at h
 | he::effs,j0,h,j,e,q,hj,hq=>by
  unfold wx at h;split at h
  ·cases h
  ·rename_i hn;cases j with
   | succ j=>exact qh hn j e q H9 hq
   | zero =>
    simp at hj;subst hj;intro e2;rw[hq]at h;obtain⟨n,b⟩:=q;simp only at e2 h;subst e2;simp at h
theorem wy{nm:Nat}{bl:Blk}:∀{effs:List HE} {j0 j:Nat},wx nm effs j0=some (j,bl)->∃(d:Nat) (e:HE),j=j0+d/\effs[d]?=some e/\e.W=some (nm,bl) /\ ∀(d':Nat) (e':HE) (q:Nat×Blk),d<d'->effs[d']?=some e'->e'.W=some q->q.1≠nm
 | [],_,_,h=>by cases h
 | he::effs,j0,j,h=>by
  unfold wx at h;split at h
  ·rename_i p hp;cases h;obtain⟨d,e,h1,h2,h3,h4⟩:=wy hp;refine⟨d+1,e,by omega,by simpa using h2,h3,fun d' e' q a1 a2 a3=>?_⟩;cases d' with
   | zero=>omega
   | succ d'=>exact h4 d' e' q qad qfq a3
  ·rename_i hn;split at h
   ·rename_i n b hW;split at h
    ·rename_i hb;cases h;refine⟨0,he,rfl,rfl,by rw[hW,waf hb],fun d' e' q a1 a2 a3=>?_⟩;cases d' with
     | zero=>omega
     | succ d'=>exact qh hn d' e' q qfq a3
    ·cases h
   ·cases h
theorem ww{ops:Array Oper}{i nm:Nat}{bl:Blk}:∀{effs:List HE} {j0:Nat},yY ops i nm effs j0=some bl->∃(d:Nat) (e:HE),dN ops (min 3 ops.size) (j0+d) i=true/\effs[d]?=some e/\e.N.get nm=some bl
 | [],_,h=>by cases h
 | he::effs,j0,h=>by
  unfold yY at h;have next:yY ops i nm effs (j0+1)=some bl->∃(d:Nat) (e:HE),dN ops (min 3 ops.size) (j0+d) i=true/\(he::effs)[d]?=some e/\e.N.get nm=some bl:=fun h=>by
   obtain⟨d,e,h1,h2,h3⟩:=ww h;exact⟨d+1,e,by rw[show j0+(d+1)=j0+1+d by omega];exact h1,by simpa using h2,h3⟩
  split at h
  ·exact next h
  ·split at h
   ·rename_i bl' hg;split at h
    ·rename_i hr;cases h;exact⟨0,he,hr,rfl,hg⟩
    ·cases h
   ·exact next h
def uv(g:Nat->Option Blk):Nat->List Nat->List Nat->List Nat
 | 0,_,seen=>seen
 | _+1,[],seen=>seen
 | q+1,n::todo,seen=>match fL n seen with
  | true=>uv g q todo seen
  | false=>match g n with
   | some (.arr _ els)=>uv g q (els.foldr kX todo) (n::seen)
   | some (.lp env _ _ _ _ _ _ dnm)=>uv g q (dnm::kX (env.map (·.2)) todo) (n::seen)
   | _=>uv g q todo (n::seen)
def Pw(G:Nat->Option (List D))(env:List (Nat×AV))(g:Nat->Option Blk)(o:Oper):List Nat:=match o.op with
 | .load _ x=>(sD G env x).nmS []
 | .store _ x _=>(sD G env x).nmS []
 | .call ⟨.value f,args,_⟩=>uv g 300 ((sD G env f).nmS (kX (args.toList.map (sD G env)) [])) []
 | .call ⟨.builtin .append,args,_⟩=>kX (args.toList.map (sD G env)) []
 | .lookup _ x _ _=>(sD G env x).nmS []
 | _=>[]
def xj(g:Nat->Option Blk):List Nat->AHeap
 | []=>[]
 | n::l=>match g n with
  | some bl=>(n,some bl)::xj g l
  | none=>xj g l
theorem jL{g:Nat->Option Blk}{nm:Nat}{bl:Blk}:∀{l:List Nat},(xj g l).get nm=some bl->g nm=some bl/\nm∈l
 | [],h=>by cases h
 | n::l,h=>by
  unfold xj at h;split at h
  ·rename_i b hb;by_cases e:nm=n
   ·subst e;rw[ao]at h;cases h;exact⟨hb,by simp⟩
   ·rw[ai _ _ e]at h;exact⟨(jL h).1,eJ _ (jL h).2⟩
  ·exact⟨(jL h).1,eJ _ (jL h).2⟩
def vw(ops:Array Oper)(i nm:Nat):List HE->Nat->Bool
 | [],_=>true
 | he::effs,j=>(match he.W with
   | some (n,_)=>match Nat.beq n nm with
    | true=>dN ops (min 3 ops.size) j i
    | false=>true
   | none=>true)&&(match fL nm he.rd with
   | true=>dN ops (min 3 ops.size) j i
   | false=>true)&&vw ops i nm effs (j+1)
theorem uA{ops:Array Oper}:∀(f j i:Nat),dN ops f j i=true->dN ops (f+1) j i=true
 | 0,j,i,h=>by simp[dN]at h
 | f+1,j,i,h=>by
  unfold dN at h;unfold dN;split at h
  ·refine sK (fun n hn=>?_) h;split at hn
   ·rfl
   ·exact uA f j n hn
  ·exact h
theorem xw{ops:Array Oper}{f j i:Nat}:∀ d,dN ops f j i=true->dN ops (f+d) j i=true
 | 0,h=>h
 | d+1,h=>uA _ _ _ (xw d h)
theorem mJ{ops:Array Oper}{j i:Nat}(h:dN ops (min 3 ops.size) j i=true):dN ops ops.size j i=true:=by
 have:=xw (ops.size-min 3 ops.size) h;rw[show min 3 ops.size+(ops.size-min 3 ops.size)=ops.size by omega]at this;exact this
theorem Ku{ops:Array Oper}{i nm:Nat}{effs:List HE}{H0:AHeap}{bl:Blk}(h:Kt ops i effs H0 nm=some bl) :
  ((H0.get nm=some bl \/ ∃(j:Nat) (e:HE),dN ops ops.size j i=true/\effs[j]?=some e/\e.N.get nm=some bl) /\ ∀(j:Nat) (e:HE) (q:Nat×Blk),effs[j]?=some e->e.W=some q->q.1≠nm) ∨
   ∃(j:Nat) (e:HE),dN ops ops.size j i=true/\effs[j]?=some e/\e.W=some (nm,bl) /\ ∀(j':Nat) (e':HE) (q:Nat×Blk),j<j'->effs[j']?=some e'->e'.W=some q->q.1≠nm:=by
 unfold Kt at h;split at h
 ·rename_i j b hf;split at h
  ·rename_i hr;cases h;obtain⟨d,e,h1,h2,h3,h4⟩:=wy hf;rw[jj]at h1;subst h1;exact .inr ⟨j,e,mJ hr,h2,h3,h4⟩
  ·cases h
 ·rename_i hf;refine .inl ⟨?_,qh hf⟩;split at h
  ·rename_i b hg;cases h;exact .inl hg
  ·obtain⟨d,e,h1,h2,h3⟩:=ww h;rw[jj]at h1;exact .inr ⟨d,e,mJ h1,h2,h3⟩
theorem rE{ops:Array Oper}{i nm:Nat}:∀{effs:List HE} {j0:Nat},vw ops i nm effs j0=true->∀(j:Nat) (e:HE),effs[j]?=some e->(∀ q':Nat×Blk,e.W=some q'->q'.1=nm->dN ops ops.size (j0+j) i=true)/\(nm∈e.rd->dN ops ops.size (j0+j) i=true)
 | [],_,_,j,e,h=>by simp at h
 | he::effs,j0,h,j,e,hj=>by
  simp only[vw,li]at h;cases j with
  | zero =>
   simp at hj;subst hj;refine⟨fun q hq e=>?_,fun hm=>?_⟩
   ·have:=h.1.1;rw[hq]at this;obtain⟨n,b⟩:=q;simp only at this e;subst e;have hb:Nat.beq n n=true:=aR;rw[hb]at this;exact mJ this
   ·have:=h.1.2;rw[CQ hm]at this;exact mJ this
  | succ j =>
   have:=rE h.2 j e H9;rw[show j0+(j+1)=j0+1+j by omega];exact this
def AHeap.all(V:AHeap):List (Nat×Blk):=V.filterMap fun p=>(V.get p.1).map fun bl=>(p.1,bl)
theorem HO{V:AHeap}{p:Nat×Blk}(h:p∈V.all):V.get p.1=some p.2:=by
 simp only[AHeap.all,List.mem_filterMap]at h;obtain⟨q,h1,h2⟩:=h;simp only[tT]at h2;obtain⟨bl,h3,h4⟩:=h2;subst h4;exact h3
theorem Sj{V:AHeap}{nm:Nat}{bl:Blk}(h:V.get nm=some bl):(nm,bl)∈V.all:=by
 simp only[AHeap.all,List.mem_filterMap];exact⟨_,get_mem h,by simp[h]⟩
def fb{α β:Type}(f:α->Option β):List α->Option (List β)
 | []=>some []
 | a::l=>match f a with
  | some b=>match fb f l with
   | some m=>some (b::m)
   | none=>none
  | none=>none
theorem cE{α β:Type}{f:α->Option β}:∀{l:List α} {m:List β},fb f l=some m->l.length=m.length /\ ∀(i:Nat) (a:α) (b:β),l[i]?=some a->m[i]?=some b->f a=some b
 | [],m,h=>by cases h;exact⟨rfl,fun i a b h=>by simp at h⟩
 | a::l,m,h=>by
  unfold fb at h;split at h
  ·rename_i b hb;split at h
   ·rename_i m' hm;cases h;obtain⟨h1,h2⟩:=cE hm;refine⟨by simp[h1],fun i x y hx hy=>?_⟩;cases i with
    | zero=>simp at hx hy;subst hx hy;exact hb
    | succ i=>exact h2 i x y (by simpa using hx) (by simpa using hy)
   ·cases h
  ·cases h
def eY(H:AHeap):Nat->List Nat->AV->Option D
 | 0,_,_=>none
 | q+1,vis,v=>match v with
  | .d x=>some x
  | .sl nm sz lo len room t=>match H.get nm with
   | some (.arr sz' els)=>match fb (fb (eY H q vis)) els with
    | some es=>match Nat.ble (lo+len) els.length,Nat.beq sz' sz with
     | true,true=>some (.sl ((es.drop lo).take len) (t&&decide (room=len)))
     | _,_=>none
    | none=>none
   | _=>none
  | .ptr nm sz idx off=>match fL nm vis with
   | true=>some .any
   | false=>match H.get nm with
    | some (.arr sz' els)=>match els[idx]? with
     | some el=>match fb (eY H q (nm::vis)) el,Nat.beq sz' sz with
      | some dl,true=>some (.rop dl off)
      | _,_=>none
     | none=>none
    | _=>none
  | .agg l=>match fb (eY H q vis) l with
   | some ds=>some (.agg ds)
   | none=>none
  | .tup l=>match fb (eY H q vis) l with
   | some ds=>some (.tup ds)
   | none=>none
  | .fn f a c=>match fb (eY H q vis) a,fb (eY H q vis) c with
   | some a',some c'=>some (.fn f a' c')
   | _,_=>none
  | _=>none
theorem ff{H:AHeap}:∀(q:Nat) (vis:List Nat) (v:AV) (d:D),eY H q vis v=some d->AsD H v d
 | 0,vis,v,d,h=>by cases h
 | q+1,vis,v,d,h=>by
  have ih:=ff (H:=H) q;have lst:∀{vis:List Nat} {l:List AV} {ds:List D},fb (eY H q vis) l=some ds->∀(j:Nat) (v:AV) (d:D),l[j]?=some v->ds[j]?=some d->AsD H v d:=fun h j v d h1 h2=>ih _ v d ((cE h).2 j v d h1 h2);unfold eY at h;split at h
  ·cases h;exact .d _
  ·rename_i nm sz lo len room t;split at h
   ·rename_i sz' els hg;split at h
    ·rename_i es hes;split at h
     ·rename_i e1 e2;cases h;have e2:=waf e2;subst e2;obtain⟨m1,m2⟩:=cE hes;exact .sl nm _ lo len room t els es hg m1.symm (fun i el dl a1 a2=>(cE (m2 i el dl a1 a2)).1) (fun i j el dl v d a1 a2 a3 a4=>lst (m2 i el dl a1 a2) j v d a3 a4) (nA e1)
     ·cases h
    ·cases h
   ·cases h
  ·rename_i nm sz idx off;split at h
   ·cases h;exact .any _
   split at h
   ·rename_i sz' els hg;split at h
    ·rename_i el hel;split at h
     ·rename_i dl hdl e2;cases h;have e2:=waf e2;subst e2;exact .ptr nm _ idx off els el dl hg hel (cE hdl).1 (lst hdl)
     ·cases h
    ·cases h
   ·cases h
  ·split at h
   ·rename_i hds;cases h;exact .agg _ _ (cE hds).1 (lst hds)
   ·cases h
  ·split at h
   ·rename_i hds;cases h;exact .tup _ _ (cE hds).1 (lst hds)
   ·cases h
  ·split at h
   ·rename_i ha hc;cases h;exact .fn _ _ _ _ _ (cE ha).1 (cE hc).1 (lst ha) (lst hc)
   ·cases h
  ·cases h
theorem AsD.ext{H H2:AHeap}(hE:Ext H H2){v:AV}{d:D}(h:AsD H v d):AsD H2 v d:=by
 induction h with
 | d x=>exact .d x
 | any v=>exact .any v
 | sl nm sz lo len room t els es hg hl hel _ hf ih=>exact .sl nm sz lo len room t els es (hE _ _ hg) hl hel ih hf
 | ptr nm sz idx off els el dl hg he hl _ ih=>exact .ptr nm _ idx off els el dl (hE _ _ hg) he hl ih
 | agg l ds hl _ ih=>exact .agg l ds hl ih
 | tup l ds hl _ ih=>exact .tup l ds hl ih
 | fn f a c a' c' hl hl' _ _ ih1 ih2=>exact .fn f a c a' c' hl hl' ih1 ih2
def AHeap.flatB:AHeap->Bool
 | []=>true
 | (_,some bl)::r=>bl.flat&&AHeap.flatB r
 | (_,none)::r=>AHeap.flatB r
def AHeap.fl:AHeap->AHeap
 | []=>[]
 | (k,some bl)::r=>match bl.flat with
  | true=>(k,some bl)::AHeap.fl r
  | false=>(k,none)::AHeap.fl r
 | (k,none)::r=>(k,none)::AHeap.fl r
def FO(v:AV)(N:AHeap):AHeap:=match v with
 | .d _=>[]
 | _=>N.fl
theorem Aq:∀{N:AHeap} {m:Nat} {bl:Blk},N.fl.get m=some bl->bl.flat=true/\N.get m=some bl
 | [],m,bl,h=>by cases h
 | (k,some b0)::r,m,bl,h=>by
  unfold AHeap.fl at h;by_cases e:m=k
  ·subst e;split at h
   ·rename_i hf;rw[ao]at h;cases h;exact⟨hf,ao _ _ _⟩
   ·rw[ao]at h;cases h
  ·rw[ai _ _ e];split at h
   ·rw[ai _ _ e]at h;exact Aq h
   ·rw[ai _ _ e]at h;exact Aq h
 | (k,none)::r,m,bl,h=>by
  unfold AHeap.fl at h;by_cases e:m=k
  ·subst e;rw[ao]at h;cases h
  ·rw[ai _ _ e]at h⊢;exact Aq h
theorem CV{v:AV}{N:AHeap}{m:Nat}{bl:Blk}(h:(FO v N).get m=some bl):bl.flat=true/\N.get m=some bl:=by
 unfold FO at h;split at h
 ·cases h
 ·exact Aq h
theorem qC{f:FuncId}{args:List AV}{H H1 H2:AHeap}{nx n1:Nat}{v:AV}(h:bq P G f args H nx fun v' H' n'=>v'=v/\H'=H1/\n'=n1)(hs:∀ nm bl,H2.get nm=some bl->H1.get nm=some bl) :
  bq P G f args H nx fun v' H' n'=>v'=v/\H'=H2/\n'=n1:=by
 intro C vs hH hU hl hr;refine(h C vs hH hU hl hr).mono ?_;rintro e w' ⟨x,v',H',n',C',h1,h2,⟨rfl,rfl,rfl⟩,h4,h5,h6,h7⟩;exact⟨x,v',H2,n',C',h1,h2,⟨rfl,rfl,rfl⟩,h4,h5.anti hs,h6,h7.anti hs⟩
def AHeap.below:AHeap->Nat->Bool
 | [],_=>true
 | (k,_)::r,n=>Nat.blt k n&&AHeap.below r n
theorem ot{lo n:Nat}:∀{N:AHeap},N.below n=true->∀ p,p∈N.shift lo->lo<=p.1/\p.1<lo+n
 | [],_,p,hp=>by cases hp
 | (k,b)::r,h,p,hp=>by
  simp only[AHeap.below,li]at h;simp only[AHeap.shift,jJ]at hp;rcases hp with rfl|hp
  ·have:k<n:=by simpa using h.1
   simp;omega
  ·exact ot h.2 p hp
def QL(M:Om)(G:Nat->Option (List D))(DCall:fT M)(env:List (Nat×AV))(V:AHeap)(rd:List Nat)(lo:Nat)(g:Operand)(args:List Operand)(k:HE->M.W):M.W :=
 match Aw (sD G env g) with
 | some (f,fi,ca)=>dZ (fi++args.map (sD G env)++ca) fun l=>match mh l with
  | some ds=>DCall f ds fun v N n=>match N.below n with
   | true=>(v.ren (· + lo)).force fun v=>match N with
    | []=>k ⟨v,[],none,rd,lo+n⟩
    | _::_=>M.shh (N.shift lo) fun N=>k ⟨v,N,none,rd,lo+n⟩
   | false=>M.bad
  | none=>M.look (fb (eY V 9 []) l) fun ds=>DCall f ds fun v N n=>match (FO v N).below n,v.flat with
   | true,true=>(v.ren (· + lo)).force fun v'=>match FO v N with
    | []=>k ⟨v',[],none,rd,lo+n⟩
    | _::_=>M.shh ((FO v N).shift lo) fun N=>k ⟨v',N,none,rd,lo+n⟩
   | _,_=>M.bad
 | none=>M.bad
def E5(M:Om)(T:Tab)(G:Nat->Option (List D))(env:List (Nat×AV))(V:AHeap)(rd:List Nat)(lo:Nat)(o:Oper)(k:HE->M.W):M.W :=
 zC M T G { env:=env,heap:=V,nx:=0 } o fun v=>k ⟨v,[],none,rd,lo⟩
def ya(M:Om)(T:Tab)(G:Nat->Option (List D))(env:List (Nat×AV))(V:AHeap)(rd:List Nat)(lo:Nat)(o:Oper)(k:HE->M.W):M.W :=
 Hk M T G { env:=env,heap:=V,nx:=0 } lo o fun v N n=>k ⟨v,N,none,rd,lo+n⟩
def JX(M:Om)(T:Tab)(G:Nat->Option (List D))(env:List (Nat×AV))(V:AHeap)(rd:List Nat)(lo t:Nat)(x y:Operand)(okS:Nat->Bool)(k:HE->M.W):M.W:=match T.get t,sD G env x with
 | some ty,.ptr nm sz idx off=>match V.get nm with
  | some (.arr sz' els)=>match Nat.beq sz' sz,(sD G env y).known,Nat.beq (sD G env y).cells.length ty.S,(sD G env y).cells.all AV.scalar,Nat.ble (off+ty.S) sz with
   | true,true,true,true,true=>M.chk (okS nm=true/\Nat.blt nm lo=true) (dZ (sD G env y).cells fun cs=>M.look els[idx]? fun el=>dP (bU el off cs) fun el'=>M.shl (els.set idx el') fun els'=>k ⟨.top,[],some (nm,.arr sz els'),rd,lo⟩)
   | _,_,_,_,_=>M.bad
  | _=>M.bad
 | _,_=>M.bad
def E6(M:Om)(T:Tab)(G:Nat->Option (List D))(DCall:fT M)(env:List (Nat×AV))(V:AHeap)(rd:List Nat)(lo:Nat)(okS:Nat->Bool)(o:Oper)(k:HE->M.W):M.W:=match o.op with
 | .box _ _=>ya M T G env V rd lo o k
 | .alloc _=>ya M T G env V rd lo o k
 | .makeSlice _ _ _=>ya M T G env V rd lo o k
 | .buildSlice _ _ _=>ya M T G env V rd lo o k
 | .call ⟨.value g,args,_⟩=>QL M G DCall env V rd lo g args.toList k
 | .call ⟨.builtin .append,_,_⟩=>ya M T G env V rd lo o k
 | .makeMap _ _=>ya M T G env V rd lo o k
 | .store t x y=>JX M T G env V rd lo t x y okS k
 | _=>E5 M T G env V rd lo o k
abbrev XH(M:Om):=Nat->List (Nat×AV)->List HE->Nat->(List (Nat×AV)->List HE->Nat->M.W)->M.W
def HI(M:Om)(T:Tab)(G:Nat->Option (List D))(DCall:fT M)(ops:Array Oper)(H0:AHeap)(o:Oper)(next:XH M):XH M:=fun i env effs lo k=>match kF ops env o with
 | some true=>dP (Pw G env (Kt ops i effs H0) o) fun rd=>dP (xj (Kt ops i effs H0) rd) fun V=>E6 M T G DCall env V rd lo (fun nm=>vw ops i nm effs 0) o fun he=>match he with
   | ⟨v,N,W,rd,hi⟩=>dP (effs++[⟨v,N,W,rd,hi⟩]) fun effs=>match o.dst with
    | some t=>next (i+1) ((t,v)::env) effs hi k
    | none=>next (i+1) env effs hi k
 | some false=>dP (effs++[⟨.d (.tup []),[],none,[],lo⟩]) fun effs=>match o.dst with
   | some t=>next (i+1) ((t,.d (.tup []))::env) effs lo k
   | none=>next (i+1) env effs lo k
 | none=>M.bad
noncomputable def uD(M:Om)(T:Tab)(G:Nat->Option (List D))(DCall:fT M)(ops:Array Oper)(H0:AHeap)(l:List Oper):XH M :=
 List.rec (motive:=fun _=>XH M) (fun _ env effs lo k=>k env effs lo) (fun o _ ih=>HI M T G DCall ops H0 o ih) l
theorem HJ(ok:P4 M hd)(hT:TabOk P T)(hD:zI P G M hd DCall){env:List (Nat×AV)}{V:AHeap}{rd:List Nat}{lo:Nat}{okS:Nat->Bool}{k:HE->M.W}(h:hd (E6 M T G DCall env V rd lo okS o k)) :
  ∃ he,hd (k he)/\lo<=he.hi/\(∀ p,p∈he.N->lo<=p.1/\p.1<he.hi)/\he.rd=rd/\(∀ q,he.W=some q->q.1<lo/\okS q.1=true)/\vG r P G o (sD G env) V.all he.v he.N he.W lo he.hi:=by
 have ext:∀ H2:AHeap,(∀ p,p∈V.all->H2.get p.1=some p.2)->Ext V H2:=fun H2 h nm bl hg=>h _ (Sj hg);have add:hd (ya M T G env V rd lo o k)->∃ he,hd (k he)/\lo<=he.hi/\(∀ p,p∈he.N->lo<=p.1/\p.1<he.hi)/\he.rd=rd/\(∀ q,he.W=some q->q.1<lo/\okS q.1=true)/\vG r P G o (sD G env) V.all he.v he.N he.W lo he.hi:=fun h=>by
  obtain⟨v,N,n,h1,h2,h3⟩:=qq ok hT h;exact⟨⟨v,N,none,rd,lo+n⟩,h1,Nat.le_add_right _ _,h2,rfl,(fun q hq=>by cases hq),qZ (BJ ok h) fun H2 hn=>h3 H2 (ext H2 hn)⟩
 unfold E6 at h;split at h
 ·exact add h
 ·exact add h
 ·exact add h
 ·exact add h
 ·rename_i g args tys ho;unfold QL at h;split at h
  ·rename_i f fi ca hf;rw[bI]at h;split at h
   ·rename_i ds hds;have hl:=fu _ _ hds;obtain⟨v,N,n,h1,h2,h3⟩:=hD _ _ _ h;split at h3
    ·rename_i hb;rw[AV.force_eq]at h3;have h4:hd (k ⟨v.ren (· + lo),N.shift lo,none,rd,lo+n⟩):=by
      split at h3
      ·exact h3
      ·exact ok.h_shh h3
     exact⟨_,h4,Nat.le_add_right _ _,ot hb,rfl,(fun q hq=>by cases hq),CU ho hf h1 rfl h2 (by rw[hl];simp) (fun H2 hn i v d a1 a2=>by
      rw[hl]at a1;simp only[mV,a2,LP,tU]at a1;subst a1;exact .d d) (.inl hl)⟩
    ·exact(ok.h_bad h3).elim
   ·obtain⟨ds,hds,h⟩:=ok.h_look h;obtain⟨v,N,n,h1,h2,h3⟩:=hD _ _ _ h;obtain⟨m1,m2⟩:=cE hds;split at h3
    ·rename_i hb hv;rw[AV.force_eq]at h3;have h4:hd (k ⟨v.ren (· + lo),(FO v N).shift lo,none,rd,lo+n⟩):=by
      split at h3
      ·rename_i e;rw[e];exact h3
      ·exact ok.h_shh h3
     exact⟨_,h4,Nat.le_add_right _ _,ot hb,rfl,(fun q hq=>by cases hq),CU ho hf h1 rfl (qC h2 fun nm bl hg=>(CV hg).2) m1 (fun H2 hn i v d a1 a2=>(ff _ _ _ _ (m2 i v d a1 a2)).ext (ext H2 hn)) (.inr ⟨hv,fun m bl hg=>(CV hg).1⟩)⟩
    ·exact(ok.h_bad h3).elim
  ·exact bX
 ·exact add h
 ·exact add h
 ·rename_i t x y ho;unfold JX at h;split at h
  ·rename_i ty nm sz idx off hg hx;split at h
   ·rename_i sz' els hh;split at h
    ·rename_i e1 e2 e3 e4 e5;have e1:=waf e1;subst e1;obtain⟨⟨s1,s2⟩,h⟩:=ok.h_chk h;rw[bI]at h;obtain⟨el,h1,h2⟩:=ok.h_look h;rw[cR]at h2;have h2:=ok.h_shl h2;refine⟨_,h2,cF _,(fun p hp=>by cases hp),rfl,fun q hq=>?_,qZ (fun c hc=>by rw[ho]at hc;cases hc) fun H2 hn=>?_⟩
     ·cases hq;exact⟨by simpa using s2,s1⟩
     ·exact(mU (st:={ env:=env,heap:=H2,nx:=0 }) ho (hT.get hg).1 hx rfl (ext H2 hn _ _ hh) h1 e2 (waf e3) e4 (nA e5)).names fun m hm=>hm.elim
    ·exact bX
   ·exact bX
  ·exact bX
 ·obtain⟨v,h1,h2⟩:=si ok hT h;exact⟨⟨v,[],none,rd,lo⟩,h1,cF _,(fun p hp=>by cases hp),rfl,(fun q hq=>by cases hq),Ny (ET ok h) fun H2 hn=>h2 H2 (ext H2 hn)⟩
theorem jh(ok:P4 M hd)(hT:TabOk P T)(hD:zI P G M hd DCall){ops:Array Oper}{H0:AHeap}{k:List (Nat×AV)->List HE->Nat->M.W}{K:List (Nat×AV)->List HE->Nat->Prop}(hk:∀ env effs nx,hd (k env effs nx)->K env effs nx) :
  ∀(rest:List Oper) (i:Nat) (env:List (Nat×AV)) (effs:List HE) (lo:Nat),hd (uD M T G DCall ops H0 rest i env effs lo k)->ua r P G ops H0 K rest i env effs lo
 | [],i,env,effs,lo,h=>hk _ _ _ h
 | o::rest,i,env,effs,lo,h=>by
  change hd (HI M T G DCall ops H0 o (uD M T G DCall ops H0 rest) i env effs lo k) at h;unfold HI at h;split at h
  ·rename_i hg;simp only[cR]at h;obtain⟨he,h1,h2,h3,h5,h6,h4⟩:=HJ (r:=r) ok hT hD h;obtain⟨v,N,W,rd,hi⟩:=he;have h1:hd (uD M T G DCall ops H0 rest (i+1) (yU o.dst v env) (effs++[⟨v,N,W,rd,hi⟩]) hi k):=by
    simp only at h1;cases e:o.dst with
    | none=>rw[e]at h1;exact h1
    | some t=>rw[e]at h1;exact h1
   refine⟨⟨v,N,W,rd,hi⟩,.go ⟨v,N,W,rd,hi⟩ _ hg h2 h3 (fun p hp=>?_) (fun p hp=>?_) (fun q hq=>?_) h4,jh ok hT hD hk rest _ _ _ _ h1⟩
   ·exact Ku (jL (HO hp)).1
   ·rw[h5];exact(jL (HO hp)).2
   ·obtain⟨a1,a2⟩:=h6 q hq;refine⟨a1,fun j e hj=>?_⟩;have:=rE a2 j e hj;rw[jj]at this;exact this
  ·rename_i hg;simp only[cR]at h;have h1:hd (uD M T G DCall ops H0 rest (i+1) (yU o.dst (.d (.tup [])) env) (effs++[⟨.d (.tup []),[],none,[],lo⟩]) lo k):=by
    cases e:o.dst with
    | none=>rw[e]at h;exact h
    | some t=>rw[e]at h;exact h
   exact⟨_,.no hg,jh ok hT hD hk rest _ _ _ _ h1⟩
  ·exact bX
end Go.AL
namespace Go.AL
open Go
variable{G:Nat->Option (List D)}{P:Program}
variable{M:Om}{hd:M.W->Prop}{T:Tab}
variable{r:Option Nat}{n b:Nat}{ms:List Nat}{st:St}
def YD(o:Oper):Bool:=match o.op with
 | .store _ _ _=>false
 | .assign _=>false
 | .call ⟨.builtin .append,_,_⟩=>false
 | .call ⟨.builtin .copy,_,_⟩=>false
 | .call ⟨.builtin .clear,_,_⟩=>false
 | .mapUpdate _ _ _ _=>false
 | .insert _ _ _ _=>false
 | _=>true
def textOnly(o:Oper):Bool:=o.after.toList.any fun e=>match e.ground with
 | .textOnly _=>true
 | _=>false
def wM:List Oper->Nat->Nat
 | [],m=>m
 | o::l,m=>match YD o||textOnly o with
  | true=>wM l (m+1)
  | false=>m
def wm(n:Nat):List Oper->Bool
 | []=>true
 | o::l=>eO o.dst n&&wm n l
theorem qc{n:Nat}:∀{l:List Oper},wm n l=true->∀ o,o∈l->eO o.dst n=true
 | [],_,o,h=>by cases h
 | a::l,h,o,ho=>by
  simp only[wm,li]at h;rcases jJ.1 ho with e|e
  ·rw[e];exact h.1
  ·exact qc h.2 o e
def bf(n:Nat):Code->Bool
 | .region _ ops false=>wm n ops.toList
 | .region _ ops true=>wm n ops.toList&&zf ops (wM ops.toList 0) n
 | .seq c d=>bf n c&&bf n d
 | .cond _ c d=>bf n c&&bf n d
 | .block _ c=>bf n c
 | .loop c=>bf n c
 | .rangeFunc _ _ c d=>bf n c&&bf n d
 | .scope c=>bf n c
 | _=>true
abbrev nD(M:Om):=Code->St->(Exit->St->M.W)->M.W
def pK{W:Type}(e:Exit)(st:St)(N:St->W)(k:Exit->St->W):W:=match e with
 | .normal=>N st
 | e=>k e st
def sP{W:Type}(id:Nat)(e:Exit)(st:St)(k:Exit->St->W):W:=match e with
 | .exit i=>match Nat.beq i id with
  | true=>k .normal st
  | false=>k (.exit i) st
 | e=>k e st
def Ha{M:Om}(e:Exit)(st:St)(k:Exit->St->M.W):M.W:=match e with
 | .goto _=>M.bad
 | e=>k e st
abbrev XC(M:Om):=St->(Exit->St->M.W)->M.W
def sr(M:Om)(G:Nat->Option (List D))(c:Operand)(st:St)(x y:M.W):M.W:=match st.ev G c with
 | .d (.bool true)=>x
 | .d (.bool false)=>y
 | _=>M.bad
noncomputable def su(M:Om)(T:Tab)(G:Nat->Option (List D))(Call:P7 M)(DCall:fT M)(ops:Array Oper)(draw:Bool):XC M:=match draw with
 | false=>fun st k=>Lv M T G Call ops ops.toList st (k .normal)
 | true=>fun st k=>match st with
  | ⟨e,h,nx⟩=>uD M T G DCall ops h (ops.toList.take (wM ops.toList 0)) 0 e [] nx fun env effs nx=>M.hp (dS effs h) fun h' =>
   Lv M T G Call ops (ops.toList.drop (wM ops.toList 0)) ⟨env,h',nx⟩ (k .normal)
noncomputable def oH(M:Om)(T:Tab)(G:Nat->Option (List D))(Call:P7 M)(DCall:fT M)(Loop:nD M)(c:Code):XC M :=
 @Code.rec (fun _=>XC M)
  (fun st k=>k .normal st)
  (fun _ ops draw=>su M T G Call DCall ops draw)
  (fun _ _ ihc ihd st k=>ihc st fun e st'=>pK e st' (fun st'=>ihd st' k) k)
  (fun c _ _ ihx ihy st k=>sr M G c st (ihx st k) (ihy st k))
  (fun id _ ih st k=>ih st fun e st'=>sP id e st' k)
  (fun c _ st k=>Loop c st k)
  (fun _ _ _ _ _ _ _ _=>M.bad)
  (fun id st k=>k (.exit id) st)
  (fun _ ih st k=>ih st fun e st'=>Ha e st' k)
  (fun _ st k=>k .normal st)
  (fun _ _ _=>M.bad)
  (fun st k=>k .ret st)
  (fun _ _ _=>M.bad) c
def sI(P:Program)(G:Nat->Option (List D))(M:Om)(hd:M.W->Prop)(r:Option Nat)(n b:Nat)(ms:List Nat)(Loop:nD M):Prop :=
 ∀ c st k,bf n c=true->hd (Loop c st k)->kw r P G n b (.loop c) st ms fun e st' ms'=>ms'=ms/\hd (k e st')
variable{Call:P7 M}{DCall:fT M}{Loop:nD M}
structure XOk (P:Program) (G:Nat->Option (List D)) (M:Om) (hd:M.W->Prop) (T:Tab) (Call:P7 M) (DCall:fT M):Prop where
 ok:P4 M hd
 tab:TabOk P T
 call:CallOk P G M hd Call
 dcall:zI P G M hd DCall
 mixed:P.follows .mixedOrders=true
theorem bJ(hx:XOk P G M hd T Call DCall)(hl:sI P G M hd r n b ms Loop):∀(c:Code) (st:St) (k:Exit->St->M.W),bf n c=true->hd (oH M T G Call DCall Loop c st k) ->
  kw r P G n b c st ms fun e st' ms'=>ms'=ms/\hd (k e st')
 | .skip,st,k,_,h=>vR ⟨rfl,h⟩
 | .ret,st,k,_,h=>qN ⟨rfl,h⟩
 | .exit id,st,k,_,h=>vP ⟨rfl,h⟩
 | .seq c d,st,k,hc,h=>by
  simp only[bf,li]at hc;refine jx (bd (bJ hx hl c st _ hc.1 h) ?_);rintro e s m ⟨hm,h⟩;rw[hm];cases e with
  | normal=>exact bJ hx hl d s k hc.2 h
  | _=>exact⟨rfl,h⟩
 | .cond c x y,st,k,hc,h=>by
  simp only[bf,li]at hc;change hd (sr M G c st (oH M T G Call DCall Loop x st k) (oH M T G Call DCall Loop y st k)) at h;unfold sr at h;split at h
  ·rename_i hv;exact iP hv (fun _=>bJ hx hl x st k hc.1 h) (fun e=>by cases e)
  ·rename_i hv;exact iP hv (fun e=>by cases e) (fun _=>bJ hx hl y st k hc.2 h)
  ·exact TN
 | .block id c,st,k,hc,h=>by
  refine oM (bd (bJ hx hl c st _ hc h) ?_);rintro e s m ⟨hm,h⟩;rw[hm];cases e with
  | exit i =>
   simp only[sQ];simp only[sP]at h;split at h
   ·exact qd4
   ·exact qd4
  | _=>exact⟨rfl,h⟩
 | .region id ops false,st,k,hc,h=>by
  refine vQ ?_;have:=kv (r:=r) (b:=b) (ms:=ms) hx.ok hx.tab hx.call ops.toList st (qc hc) h;simpa using this
 | .region id ops true,st,k,hc,h=>by
  simp only[bf,li]at hc;obtain⟨e,hh,nx⟩:=st;change hd (uD M T G DCall ops hh (ops.toList.take (wM ops.toList 0)) 0 e [] nx fun env effs nx=>M.hp (dS effs hh) fun h'=>Lv M T G Call ops (ops.toList.drop (wM ops.toList 0)) ⟨env,h',nx⟩ (k .normal)) at h;refine CB (wM ops.toList 0) hx.mixed hc.2 (jh hx.ok hx.tab hx.dcall (fun env effs nx h=>?_) _ _ _ _ _ h);obtain⟨y,hy,h⟩:=hx.ok.h_hp h;refine⟨y,hy,?_⟩;have:=kv (r:=r) (b:=b) (ms:=ms) hx.ok hx.tab hx.call _ _ (fun o ho=>qc hc.1 o (wds ho)) h;simpa using this
 | .loop c,st,k,hc,h=>hl c st k hc h
 | .rangeFunc ..,st,k,_,h=>(hx.ok.h_bad h).elim
 | .scope c,st,k,hc,h=>by
  refine sM (bd (bJ hx hl c st _ hc h) ?_);rintro e s m ⟨hm,h⟩;rw[hm];cases e with
  | goto l=>exact(hx.ok.h_bad h).elim
  | _=>exact⟨rfl,h⟩
 | .label _,st,k,_,h=>sL ⟨rfl,h⟩
 | .goto _,st,k,_,h=>(hx.ok.h_bad h).elim
 | .refuse _,st,k,_,h=>(hx.ok.h_bad h).elim
def GM(M:Om)(st:St)(ms:List Nat)(H':AHeap)(nx':Nat)(k:Exit->St->List Nat->M.W):M.W:=match st with
 | ⟨env,_,nx⟩=>match H'.get (nx+1) with
  | some (.lp _ _ _ _ _ s p _)=>match s with
   | .busy=>M.bad
   | _=>match p with
    | none=>dP (H'.del (nx+1)) fun h=>k .normal ⟨env,h,nx'⟩ (nx::ms)
    | some .ret=>dP (H'.del (nx+1)) fun h=>k .ret ⟨env,h,nx'⟩ (nx::ms)
    | some (.exit id)=>dP (H'.del (nx+1)) fun h=>k (.exit id) ⟨env,h,nx'⟩ (nx::ms)
    | _=>M.bad
  | _=>M.bad
theorem KM(ok:P4 M hd){H':AHeap}{nx':Nat}{k:Exit->St->List Nat->M.W}(h:hd (GM M st ms H' nx' k)):Cn (fun e s m=>hd (k e s m)) st ms H' nx':=by
 obtain⟨env,hh,nx⟩:=st;unfold GM at h;simp only[cR]at h;split at h
 ·rename_i env2 n2 ps as body s p d hg;have hs:s ≠ .busy:=fun e=>by subst e;exact ok.h_bad h
  refine⟨env2,n2,ps,as,body,s,p,d,hg,hs,?_⟩;cases s with
  | busy=>exact absurd rfl hs
  | ready=>simp only at h;split at h<;>first|exact h|exact(ok.h_bad h).elim
  | done=>simp only at h;split at h<;>first|exact h|exact(ok.h_bad h).elim
  | exhausted=>simp only at h;split at h<;>first|exact h|exact(ok.h_bad h).elim
 ·exact bX
abbrev XC1(M:Om):=St->List Nat->(Exit->St->List Nat->M.W)->M.W
def HM(M:Om)(G:Nat->Option (List D))(Call:P7 M)(n:Nat)(g:Operand)(ps:Array Tmp)(assign body:Code):XC1 M:=fun st ms k=>match st with
  | ⟨env,h,nx⟩=>match Aw (St.ev G ⟨env,h,nx⟩ g) with
   | some (f,fi,ca)=>dZ (fi++[.yld (nx+1)]++ca) fun l=>Call.fn f l (Nr n ⟨env,h,nx⟩ ps assign body) (nx+2) fun _ H' nx'=>GM M ⟨env,h,nx⟩ ms H' nx' k
   | none=>M.bad
noncomputable def Cb(M:Om)(T:Tab)(G:Nat->Option (List D))(Call:P7 M)(DCall:fT M)(Loop:List Nat->nD M)(n:Nat)(c:Code):XC1 M :=
 @Code.rec (fun _=>XC1 M)
  (fun st ms k=>k .normal st ms)
  (fun _ ops draw st ms k=>su M T G Call DCall ops draw st fun e s=>k e s ms)
  (fun _ _ ihc ihd st ms k=>ihc st ms fun e st' ms'=>pK e st' (fun st'=>ihd st' ms' k) fun e s=>k e s ms')
  (fun c _ _ ihx ihy st ms k=>sr M G c st (ihx st ms k) (ihy st ms k))
  (fun id _ ih st ms k=>ih st ms fun e st' ms'=>sP id e st' fun e s=>k e s ms')
  (fun c _ st ms k=>Loop ms c st fun e s=>k e s ms)
  (fun g ps assign body _ _=>HM M G Call n g ps assign body)
  (fun id st ms k=>k (.exit id) st ms)
  (fun _ ih st ms k=>ih st ms fun e st' ms'=>Ha e st' fun e s=>k e s ms')
  (fun _ st ms k=>k .normal st ms)
  (fun _ _ _ _=>M.bad)
  (fun st ms k=>k .ret st ms)
  (fun _ _ _ _=>M.bad) c
theorem eM{Loop:List Nat->nD M}(hx:XOk P G M hd T Call DCall)(hl:∀ ms,sI P G M hd none n b ms (Loop ms)):∀(c:Code) (st:St) (ms:List Nat) (k:Exit->St->List Nat->M.W),bf n c=true ->
  hd (Cb M T G Call DCall Loop n c st ms k)->kw none P G n b c st ms fun e st' ms'=>hd (k e st' ms')
 | .seq c d,st,ms,k,hc,h=>by
  simp only[bf,li]at hc;refine jx (bd (eM hx hl c st ms _ hc.1 h) ?_);intro e s m h;cases e with
  | normal=>exact eM hx hl d s m k hc.2 h
  | _=>exact h
 | .cond c x y,st,ms,k,hc,h=>by
  simp only[bf,li]at hc;change hd (sr M G c st (Cb M T G Call DCall Loop n x st ms k) (Cb M T G Call DCall Loop n y st ms k)) at h;unfold sr at h;split at h
  ·rename_i hv;exact iP hv (fun _=>eM hx hl x st ms k hc.1 h) (fun e=>by cases e)
  ·rename_i hv;exact iP hv (fun e=>by cases e) (fun _=>eM hx hl y st ms k hc.2 h)
  ·exact TN
 | .block id c,st,ms,k,hc,h=>by
  refine oM (bd (eM hx hl c st ms _ hc h) ?_);intro e s m h;cases e with
  | exit i =>
   simp only[sQ];simp only[sP]at h;split at h
   ·rename_i q;simp only[q];exact h
   ·rename_i q;simp only[q];exact h
  | _=>exact h
 | .rangeFunc g ps assign body,st,ms,k,hc,h=>by
  obtain⟨env,hh,nx⟩:=st;change hd (HM M G Call n g ps assign body ⟨env,hh,nx⟩ ms k) at h;unfold HM at h;simp only at h;split at h
  ·rename_i f fi ca hg;rw[bI]at h;obtain⟨h1,h2⟩:=hx.call.fn _ _ _ _ _ h;refine yi hg h1 rfl ?_;intro C vs a1 a2 a3 a4;refine(h2 C vs a1 a2 a3 a4).mono ?_;rintro e w' ⟨y,v,H',n',C',q1,q2,q3,q4⟩;exact⟨y,v,H',n',C',q1,q2,KM hx.ok q3,q4⟩
  ·exact TN
 | .skip,st,ms,k,_,h=>vR h
 | .ret,st,ms,k,_,h=>qN h
 | .exit id,st,ms,k,_,h=>vP h
 | .region id ops bb,st,ms,k,hc,h=>bd (bJ hx (hl ms) (.region id ops bb) st _ hc h) fun e s m ⟨hm,h⟩=>by rw[hm];exact h
 | .loop c,st,ms,k,hc,h=>bd (hl ms c st _ hc h) fun e s m ⟨hm,h⟩=>by rw[hm];exact h
 | .scope c,st,ms,k,hc,h=>by
  refine sM (bd (eM hx hl c st ms _ hc h) ?_);intro e s m h;cases e with
  | goto l=>exact(hx.ok.h_bad h).elim
  | _=>exact h
 | .label _,st,ms,k,_,h=>sL h
 | .goto _,st,ms,k,_,h=>(hx.ok.h_bad h).elim
 | .refuse _,st,ms,k,_,h=>(hx.ok.h_bad h).elim
def zL(n:Nat):List Nat->Bool
 | []=>true
 | p::l=>match Nat.blt p n with
  | true=>zL n l
  | false=>false
theorem vL{n:Nat}:∀{l:List Nat},zL n l=true->∀ p,p∈l->p<n
 | [],_,p,h=>by cases h
 | q::l,h,p,hp=>by
  unfold zL at h;split at h
  ·rename_i e;rcases jJ.1 hp with x|x
   ·subst x;simpa using e
   ·exact vL h p x
  ·cases h
def GZ(M:Om)(nm:Nat)(k:AV->AHeap->Nat->M.W)(e:Exit)(s:St):M.W:=match s with
 | ⟨_,h,nx⟩=>match h.get nm with
  | some (.lp env n ps assign body _ _ d)=>match e with
   | .normal=>dP (h.put nm (.lp env n ps assign body .ready none d)) fun h=>k (.d (.bool true)) h nx
   | .ret=>dP (h.put nm (.lp env n ps assign body .done (some .ret) d)) fun h=>k (.d (.bool false)) h nx
   | .exit id=>dP (h.put nm (.lp env n ps assign body .done (some (.exit id)) d)) fun h=>k (.d (.bool false)) h nx
   | _=>M.bad
  | _=>M.bad
theorem KQ(ok:P4 M hd){nm:Nat}{k:AV->AHeap->Nat->M.W}{e:Exit}{s:St}{m:List Nat}(hm:m=[])(h:hd (GZ M nm k e s)):RoundEnd nm (fun v H' nx'=>hd (k v H' nx')) e s m:=by
 obtain⟨env,hh,nx⟩:=s;unfold GZ at h;simp only[cR]at h;split at h
 ·rename_i env2 n2 ps as body s2 p2 d hg;refine⟨hm,env2,n2,ps,as,body,s2,p2,d,hg,?_⟩;split at h
  ·exact h
  ·exact h
  ·exact h
  ·exact bX
 ·exact bX
noncomputable def Ce(M:Om)(T:Tab)(G:Nat->Option (List D))(Call:P7 M)(DCall:fT M)(Loop:Nat->nD M)(nm:Nat)(args:List AV)(H:AHeap)(nx:Nat)(k:AV->AHeap->Nat->M.W):M.W:=match H.get nm with
 | some (.lp env n ps assign body .ready none _)=>match Nat.beq ps.size args.length,zL n ps.toList,bf n assign,bf n body with
  | true,true,true,true=>dP (zr ps.toList args env) fun env'=>oH M T G Call DCall (Loop n) assign ⟨env',H,nx⟩ fun e s=>match e with
   | .normal=>match s with
    | ⟨env1,h1,nx1⟩=>match h1.get nm with
     | some (.lp env2 n2 ps2 as2 body2 .ready p2 d2)=>dP (h1.put nm (.lp env2 n2 ps2 as2 body2 .busy p2 d2)) fun h2=>oH M T G Call DCall (Loop n) body ⟨env1,h2,nx1⟩ (GZ M nm k)
     | _=>M.bad
   | _=>M.bad
  | _,_,_,_=>M.bad
 | _=>M.bad
theorem sx{Loop:Nat->nD M}(hx:XOk P G M hd T Call DCall){nm:Nat}{args:List AV}{H:AHeap}{nx:Nat}{k:AV->AHeap->Nat->M.W}(hl:∀ r n,sI P G M hd r n nx [] (Loop n))
  (h:hd (Ce M T G Call DCall Loop nm args H nx k)):ARound P G nm args H nx fun v H' nx'=>hd (k v H' nx'):=by
 unfold Ce at h;split at h
 ·rename_i env n ps assign body dnm hg;split at h
  ·rename_i e1 e2 e3 e4;simp only[cR]at h;refine⟨env,n,ps,assign,body,dnm,hg,waf e1,vL e2,fun r=>?_⟩;refine bd (bJ hx (hl r n) assign _ _ e3 h) ?_;rintro e s m ⟨hm,h⟩;split at h
   ·obtain⟨env1,h1,nx1⟩:=s;simp only at h;split at h
    ·rename_i env2 n2 ps2 as2 body2 p2 d2 hg2;refine⟨rfl,hm,env2,n2,ps2,as2,body2,p2,d2,hg2,?_⟩;refine bd (bJ hx (hl r n) body _ _ e4 h) ?_;rintro e s m ⟨hm,h⟩;exact KQ hx.ok hm h
    ·exact TN
   ·exact TN
  ·exact TN
 ·exact TN
def uW(M:Om)(T:Tab)(st:St)(rv:ResultVar)(k:AV->M.W):M.W:=match rv with
 | .tmp t=>(lk st.env t).force k
 | .cell a t=>match T.get t with
  | none=>M.bad
  | some ty=>match J8 ty.k.ag ty.S with
   | false=>M.bad
   | true=>match lk st.env a with
    | .ptr nm sz idx off=>match st.heap.get nm with
     | some (.arr sz' els)=>match Nat.beq sz' sz with
      | true=>M.look els[idx]? fun el=>match Nat.beq ((el.drop off).take ty.S).length ty.S with
       | true=>qf ty.k.ag ((el.drop off).take ty.S) k
       | false=>M.bad
      | false=>M.bad
     | _=>M.bad
    | _=>M.bad
theorem dV(ok:P4 M hd)(hT:TabOk P T){rv:ResultVar}{k:AV->M.W}(h:hd (uW M T st rv k)):∃ v,P6 P G st rv v/\hd (k v):=by
 unfold uW at h;split at h
 ·rw[AV.force_eq]at h;exact⟨_,.tmp _,h⟩
 ·split at h
  ·exact bX
  rename_i ty hg;split at h
  ·exact bX
  rename_i hS;split at h
  ·rename_i nm sz idx off hx;split at h
   ·rename_i sz' els hh;split at h
    ·rename_i e;have e:=waf e;subst e;obtain⟨el,h1,h2⟩:=ok.h_look h;split at h2
     ·rename_i hl;rw[oW]at h2;exact⟨_,.cell _ _ _ _ _ _ _ _ _ _ _ _ _ (hT.get hg).tok (zK hS) hx hh h1 rfl (waf hl),h2⟩
     ·exact(ok.h_bad h2).elim
    ·exact bX
   ·exact bX
  ·exact bX
def sv(M:Om)(T:Tab)(st:St)(rs:List ResultVar)(k:AV->M.W):M.W:=match rs with
 | []=>k (.d (.tup []))
 | [a]=>uW M T st a k
 | [a,b]=>uW M T st a fun v=>uW M T st b fun u=>(rD [v,u]).shown k
 | [a,b,c]=>uW M T st a fun v=>uW M T st b fun u=>uW M T st c fun x=>(rD [v,u,x]).shown k
 | [a,b,c,d]=>uW M T st a fun v=>uW M T st b fun u=>uW M T st c fun x=>uW M T st d fun y=>(rD [v,u,x,y]).shown k
 | _=>M.bad
theorem oJ(ok:P4 M hd)(hT:TabOk P T){rs:Array ResultVar}{k:AV->M.W}(h:hd (sv M T st rs.toList k)):∃ v,Q2 P G st rs v/\hd (k v):=by
 obtain⟨l⟩:=rs;simp only at h;unfold sv at h;split at h
 ·exact⟨_,.zero,h⟩
 ·obtain⟨v,h1,h2⟩:=dV ok hT h;exact⟨_,.one _ _ h1,h2⟩
 ·obtain⟨v,h1,h⟩:=dV ok hT h;obtain⟨u,h2,h⟩:=dV ok hT h;rw[AV.shown_eq]at h;exact⟨_,.two _ _ _ _ h1 h2,h⟩
 ·obtain⟨v,h1,h⟩:=dV ok hT h;obtain⟨u,h2,h⟩:=dV ok hT h;obtain⟨x,h3,h⟩:=dV ok hT h;rw[AV.shown_eq]at h;exact⟨_,.three _ _ _ _ _ _ h1 h2 h3,h⟩
 ·obtain⟨v,h1,h⟩:=dV ok hT h;obtain⟨u,h2,h⟩:=dV ok hT h;obtain⟨x,h3,h⟩:=dV ok hT h;obtain⟨y,h4,h⟩:=dV ok hT h;rw[AV.shown_eq]at h;exact⟨_,.four _ _ _ _ _ _ _ _ h1 h2 h3 h4,h⟩
 ·exact bX
def RN(M:Om)(T:Tab)(rs:List ResultVar)(k:AV->AHeap->Nat->M.W)(st:St)(ms:List Nat):M.W:=match st with
 | ⟨e,h,nx⟩=>match ms with
  | []=>sv M T ⟨e,h,nx⟩ rs fun v=>k v h nx
  | ms=>match pb ms h with
   | true=>dP (gF ms h) fun h=>sv M T ⟨e,h,nx⟩ rs fun v=>k v h nx
   | false=>M.bad
def endK(M:Om)(T:Tab)(rs:List ResultVar)(k:AV->AHeap->Nat->M.W)(e:Exit)(st:St)(ms:List Nat):M.W:=match e with
 | .normal=>RN M T rs k st ms
 | .ret=>RN M T rs k st ms
 | _=>M.bad
theorem vn(ok:P4 M hd)(hT:TabOk P T){rs:Array ResultVar}{k:AV->AHeap->Nat->M.W}(h:hd (RN M T rs.toList k st ms)) :
  pb ms st.heap=true /\ ∃ v,Q2 P G ⟨st.env,gF ms st.heap,st.nx⟩ rs v/\hd (k v (gF ms st.heap) st.nx):=by
 obtain⟨env,hh,nx⟩:=st;unfold RN at h;simp only[cR]at h;split at h
 ·obtain⟨v,h1,h2⟩:=oJ (P:=P) (G:=G) ok hT h;exact⟨rfl,v,h1,h2⟩
 ·split at h
  ·rename_i hm;obtain⟨v,h1,h2⟩:=oJ (P:=P) (G:=G) ok hT h;exact⟨hm,v,h1,h2⟩
  ·exact bX
def aq (fn : Func) : Bool := !(fn.name == "runtime.NumGoroutine") && match fn.body with
 | some c=>bf fn.ntmps c
 | none=>false
noncomputable def E4(M:Om)(T:Tab)(G:Nat->Option (List D))(Call:P7 M)(DCall:fT M)(Loop:List Nat->nD M)(fn:Func)(args:List AV)(H:AHeap)(nx:Nat)(k:AV->AHeap->Nat->M.W):M.W:=match fn.body with
 | some c=>match Nat.ble args.length fn.ntmps with
  | true=>dP (yl 0 args) fun e=>Cb M T G Call DCall Loop fn.ntmps c ⟨e,H,nx⟩ [] (endK M T fn.results.toList k)
  | false=>M.bad
 | none=>M.bad
theorem tW{Loop:List Nat->nD M}(hx:XOk P G M hd T Call DCall){f:FuncId}{fn:Func}{args:List AV}{H:AHeap}{nx:Nat}{k:AV->AHeap->Nat->M.W}(hl:∀ ms,sI P G M hd none fn.ntmps nx ms (Loop ms))(hf:P.funcs[f]?=some fn)(hc:aq fn=true)
  (h:hd (E4 M T G Call DCall Loop fn args H nx k)):bq P G f args H nx fun v H' nx'=>hd (k v H' nx'):=by
 unfold E4 at h;split at h
 ·rename_i c hb;split at h
  ·rename_i hn;simp only[aq,hb,li]at hc;simp only[cR]at h;refine lm hf hb (nA hn) (bd (eM hx hl c _ _ _ hc.2 h) ?_);intro e s m h;cases e with
   | normal=>exact⟨.inl rfl,vn hx.ok hx.tab h⟩
   | ret=>exact⟨.inr rfl,vn hx.ok hx.tab h⟩
   | _=>exact(hx.ok.h_bad h).elim
  ·exact TN
 ·exact TN
theorem bg{f:FuncId}{fn:Func}(hf:P.funcs[f]?=some fn)(hc:aq fn=true):jw P f:=by
 simp only[aq,li,web]at hc;refine⟨fn,hf,hc.1,?_⟩;cases hb:fn.body with
 | none=>rw[hb]at hc;simp at hc
 | some c=>rfl
end Go.AL
namespace Go.AL
open Go
variable{P:Program}
def IE(P:Program)(f:Field):Option (Nat×Nat×Bool):=match P.info? f.type,P.underlying f.type with
 | some ti,some d=>match ti.zero with
  | some zv=>match Nat.beq zv.cells.size ti.size,Nat.blt 0 ti.size with
   | true,true=>some (f.offset,ti.size,qD d)
   | _,_=>none
  | none=>none
 | _,_=>none
def Oe(P:Program)(kt:Nat):Option (Bool×Nat):=match P.underlying kt with
 | some (.int _)=>some (false,1)
 | some (.struct l)=>match flatB P kt l.toList.length with
  | true=>some (true,l.toList.length)
  | false=>none
 | _=>none
theorem Og{kt S:Nat}{ag:Bool}(h:Oe P kt=some (ag,S)):Q1 P kt ag S:=by
 unfold Oe at h;split at h
 ·rename_i hu;cases h;exact KB hu
 ·rename_i l hu;split at h
  ·rename_i hf;cases h;exact Gc hf ⟨l,hu⟩
  ·cases h
 ·cases h
def Ou(P:Program)(t:Nat):Option Ty:=match P.info? t,P.underlying t with
 | some ti,some d=>match ti.zero with
  | some zv=>match Nat.beq zv.cells.size ti.size with
   | true=>match d with
    | .int k=>some ⟨false,ti.size,ti.bytes,fU zv,.int k⟩
    | .bool=>some ⟨false,ti.size,ti.bytes,fU zv,.bool⟩
    | .slice e=>some ⟨false,ti.size,ti.bytes,fU zv,.sl e⟩
    | .array n e=>some ⟨flatB P t ti.size,ti.size,ti.bytes,fU zv,.arr n e⟩
    | .struct l=>match fb (IE P) l.toList with
     | some fs=>some ⟨flatB P t ti.size,ti.size,ti.bytes,fU zv,.st fs⟩
     | none=>none
    | .map kt et=>match Oe P kt with
     | some (ag,S)=>some ⟨false,ti.size,ti.bytes,fU zv,.map kt et ag S⟩
     | none=>none
    | _=>some ⟨false,ti.size,ti.bytes,fU zv,.oth⟩
   | false=>none
  | none=>none
 | _,_=>none
theorem CY{f:Field}{off S:Nat}{ag:Bool}(h:IE P f=some (off,S,ag)):f.offset=off/\0<S /\ ∃ B z,TOk P f.type ag S B z:=by
 unfold IE at h;split at h
 ·rename_i ti d hi hu;split at h
  ·rename_i zv hz;split at h
   ·rename_i e1 e2;simp only[tU,Cl]at h;obtain⟨rfl,rfl,rfl⟩:=h;exact⟨rfl,by simpa using e2,ti.bytes,fU zv,⟨ti,hi,rfl,rfl,zv,hz,waf e1,fun w RO=>mn w RO zv⟩,d,hu,rfl⟩
   ·cases h
  ·cases h
 ·cases h
theorem xz(w:World):∀(l:List Field) (fs:List (Nat×Nat×Bool)),fb (IE P) l=some fs ->
  (l.mapM fun f=>Prod.mk f.offset <$> sizeOf f.type).run P w = .ok (fs.map fun x=>(x.1,x.2.1)) w
 | [],fs,h=>by cases h;simp
 | f::l,fs,h=>by
  unfold fb at h;split at h
  ·rename_i b hb;split at h
   ·rename_i m hm;cases h;obtain⟨off,S,ag⟩:=b;obtain⟨q1,q2,B,z,q3⟩:=CY hb;have hs:=EOk.size (w:=w) q3.1;have ih:=xz w l m hm;simp[List.mapM_cons,hs,ih,q1]
   ·cases h
  ·cases h
theorem Tj{t:Nat}{ty:Ty}(h:Ou P t=some ty)(he:ty.eq=true):nC P t ty.S:=by
 unfold Ou at h;split at h
 ·split at h
  ·split at h
   ·split at h
    ·cases h;cases he
    ·cases h;cases he
    ·cases h;cases he
    ·cases h;exact wz he
    ·split at h
     ·cases h;exact wz he
     ·cases h
    ·split at h
     ·cases h;cases he
     ·cases h
    ·cases h;cases he
   ·cases h
  ·cases h
 ·cases h
theorem Ow{t:Nat}{ty:Ty}(h:Ou P t=some ty):TyOk P t ty:=by
 unfold Ou at h;split at h
 ·rename_i ti d hi hu;split at h
  ·rename_i zv hz;split at h
   ·rename_i e1;have e1:=waf e1;have hE:EOk P t ti.size ti.bytes (fU zv):=⟨ti,hi,rfl,rfl,zv,hz,e1,fun w RO=>mn w RO zv⟩
    split at h
    ·cases h;exact⟨hE,hu⟩
    ·cases h;exact⟨hE,hu⟩
    ·cases h;exact⟨hE,hu⟩
    ·cases h;exact⟨hE,hu⟩
    ·rename_i l;split at h
     ·rename_i fs hfs;cases h;obtain⟨m1,m2⟩:=cE hfs;refine⟨hE,l,hu,fun i off S ag hf=>?_,fun w=>?_⟩
      ·have hlt:i<l.toList.length:=by rw[m1];exact(nt.1 hf).1
       have hg:l.toList[i]?=some l.toList[i]:=ew hlt;obtain⟨q1,q2,B,z,q3⟩:=CY (m2 i _ _ hg hf);exact⟨l.toList[i],B,z,by simp,q1,q2,q3⟩
      ·have hl:=xz w l.toList fs hfs;rw[Array.mapM_eq_mapM_toList];simp[hl]
     ·cases h
    ·split at h
     ·rename_i kt et _ ag S hk;cases h;exact⟨hE,hu,Og hk⟩
     ·cases h
    ·cases h;rename_i n1 n2 n3 n4 n5 n6;refine⟨hE,d,hu,?_⟩;cases d<;>simp_all[qD]
   ·cases h
  ·cases h
 ·cases h
theorem aF{t:Nat}{ty:Ty}(h:Ou P t=some ty):TyOk P t ty/\(ty.eq=true->nC P t ty.S):=⟨Ow h,Tj h⟩
end Go.AL
namespace Go.AL
open Go
variable{G:Nat->Option (List D)}{P:Program}{T:Tab}
structure Ex where
 call:FuncId->List AV->AHeap->Nat->Option (AV×AHeap×Nat)
 loop:Nat->Code->St->Option (Exit×St)
 rd:Nat->List AV->AHeap->Nat->Option (AV×AHeap×Nat)
def mo(R:Type)(x:Ex):P7 (DI R) :=
 ⟨fun f l H nx k=>match x.call f l H nx with
  | some (v,H',nx')=>k v H' nx'
  | none=>none,
 fun nm l H nx k=>match x.rd nm l H nx with
  | some (v,H',nx')=>k v H' nx'
  | none=>none⟩
def iE(R:Type)(x:Ex):fT (DI R):=fun f ds k=>match x.call f (ds.map .d) [] 0 with
 | some (v,H',nx')=>k v H' nx'
 | none=>none
def qe(R:Type)(x:Ex)(b:Nat):nD (DI R):=fun c st k=>match x.loop b c st with
 | some (e,st')=>k e st'
 | none=>none
def mark(H:AHeap):Nat->List Nat->List Nat->List Nat
 | 0,_,seen=>seen
 | _+1,[],seen=>seen
 | q+1,n::todo,seen=>match fL n seen with
  | true=>mark H q todo seen
  | false=>match H.get n with
   | some (.arr _ els)=>mark H q (els.foldr kX todo) (n::seen)
   | some (.lp env _ _ _ _ _ _ dnm)=>mark H q (dnm::kX (env.map (·.2)) todo) (n::seen)
   | _=>mark H q todo (n::seen)
def kV(b:Nat)(seen:List Nat):AHeap->AHeap
 | []=>[]
 | (n,bl)::H=>match Nat.blt n b with
  | true=>(n,bl)::kV b seen H
  | false=>match fL n seen with
   | true=>(n,bl)::kV b seen H
   | false=>kV b seen H
def ZE{α:Type}:Nat->List α->Bool
 | 0,_=>true
 | _+1,[]=>false
 | n+1,_::l=>ZE n l
def gc(b:Nat)(roots:List AV)(H:AHeap):AHeap:=match ZE 40 H with
 | true=>kV b (mark H 2000 (kX roots []) []) H
 | false=>H
theorem wQ(b:Nat)(seen:List Nat)(nm:Nat)(hs:(Nat.blt nm b||fL nm seen)=true):∀(H:AHeap),(kV b seen H).get nm=H.get nm
 | []=>rfl
 | (n,bl)::H=>by
  have ih:=wQ b seen nm hs H;have here:AHeap.get ((n,bl)::kV b seen H) nm=AHeap.get ((n,bl)::H) nm:=by
   by_cases e:nm=n
   ·subst e;rw[ao,ao]
   ·rw[ai _ _ e,ai _ _ e,ih]
  unfold kV;split
  ·exact here
  ·rename_i h1;split
   ·exact here
   ·rename_i h2;have e:nm≠n:=fun e=>by subst e;rw[h1,h2]at hs;cases hs
    rw[ai _ _ e,ih]
theorem wR(b:Nat)(seen:List Nat)(nm:Nat)(hs:(Nat.blt nm b||fL nm seen)=false):∀(H:AHeap),(kV b seen H).get nm=none
 | []=>rfl
 | (n,bl)::H=>by
  have ih:=wR b seen nm hs H;simp only[wdt]at hs;unfold kV;split
  ·rename_i h1;have e:nm≠n:=fun e=>by subst e;rw[h1]at hs;cases hs.1
   rw[ai _ _ e,ih]
  ·split
   ·rename_i h2;have e:nm≠n:=fun e=>by subst e;rw[h2]at hs;cases hs.2
    rw[ai _ _ e,ih]
   ·exact ih
theorem NS{b:Nat}{roots:List AV}{H:AHeap}:∀ nm bl,(gc b roots H).get nm=some bl->H.get nm=some bl:=by
 intro nm bl h;unfold gc at h;split at h
 ·cases hs:Nat.blt nm b||fL nm (mark H 2000 (kX roots []) []) with
  | true=>rw[wQ _ _ _ hs]at h;exact h
  | false=>rw[wR _ _ _ hs]at h;cases h
 ·exact h
def wl:List Nat->List (Nat×AV)->List (Nat×AV)
 | _,[]=>[]
 | seen,(t,v)::l=>match fL t seen with
  | true=>wl seen l
  | false=>(t,v)::wl (t::seen) l
theorem sY(m:Nat):∀(l:List (Nat×AV)) (seen:List Nat),fL m seen=false->lk (wl seen l) m=lk l m
 | [],seen,_=>rfl
 | (t,v)::l,seen,h=>by
  unfold wl;split
  ·rename_i ht;have e:m≠t:=fun e=>by subst e;rw[h]at ht;cases ht
   rw[aV _ _ e,sY m l seen h]
  ·by_cases e:m=t
   ·subst e;rw[ba,ba]
   ·rw[aV _ _ e,aV _ _ e];refine sY m l (t::seen) ?_;have:Nat.beq t m=false:=by cases q:Nat.beq t m with
     | true=>exact absurd (waf q).symm e
     | false=>rfl
    simp[fL,this,h]
def xO(b:Nat)(st:St):St:=match ZE 120 st.env with
 | true=>{ env:=wl [] st.env,heap:=gc b (st.env.map (·.2)) st.heap,nx:=st.nx }
 | false=>{ env:=st.env,heap:=gc b (st.env.map (·.2)) st.heap,nx:=st.nx }
theorem EL{b b':Nat}{ms:List Nat}{st:St}:Sub G b' ms st (xO b st):=by
 intro n C a hR;have h1:∀ nm bl,(xO b st).heap.get nm=some bl->st.heap.get nm=some bl:=by
  intro nm bl h;unfold xO at h;split at h<;>exact NS nm bl h
 have h2:∀ t,lk (xO b st).env t=lk st.env t:=by
  intro t;unfold xO;split
  ·exact sY t st.env [] rfl
  ·rfl
 have h3:(xO b st).nx=st.nx:=by unfold xO;split<;>rfl
 exact⟨C,rfl,⟨hR.heap.anti h1,⟨hR.env.size,fun t=>by rw[h2];exact hR.env.env t⟩,fun m hm=>by rw[h3];exact hR.names m hm,hR.marks,hR.defers⟩,fun X hX=>(Tr.refl fun m hm=>(hX m hm).1).anti h1⟩
theorem gH:∀(L:List Nat) {C:Ctx} {H:AHeap},P0 G C H->∃ C':Ctx,C'.w=C.w/\C'.U=C.U/\C'.β=C.β/\P0 G C' (gF L H)/\Tr C.U C H C' (gF L H)/\(∀ k,C.RO k->C'.RO k) /\ ∀ nm b k,nm∈L->H.get nm=some b->C.β nm=some k->C'.RO k
 | [],C,H,hH=>⟨C,rfl,rfl,rfl,hH,Tr.refl fun _ h=>h,fun _ h=>h,fun nm b k h=>by cases h⟩
 | m::L,C,H,hH=>by
  have one:∃ C1:Ctx,C1.w=C.w/\C1.U=C.U/\C1.β=C.β/\P0 G C1 (H.del m)/\Tr C.U C H C1 (H.del m)/\(∀ k,C.RO k->C1.RO k) /\ ∀ b k,H.get m=some b->C.β m=some k->C1.RO k:=by
   cases hg:H.get m with
   | none=>exact⟨C,rfl,rfl,rfl,hH.anti fun n b h=>qdb,(Tr.refl fun _ h=>h).anti fun n b h=>qdb,fun _ h=>h,fun b k h=>by cases h⟩
   | some b0 =>
    cases hb:C.β m with
    | none=>exact⟨C,rfl,rfl,rfl,hH.anti fun n b h=>qdb,(Tr.refl fun _ h=>h).anti fun n b h=>qdb,fun _ h=>h,fun b k _ h=>by cases h⟩
    | some kk =>
     obtain⟨h1,h2⟩:=uo hH hg hb;exact⟨{ C with RO:=fun j=>C.RO j\/j=kk },rfl,rfl,rfl,h1,h2,fun _ h=>.inl h,fun b k _ h=>.inr (by cases h;rfl)⟩
  obtain⟨C1,w1,u1,b1,g1,t1,r1,q1⟩:=one;obtain⟨C2,w2,u2,b2,g2,t2,r2,q2⟩:=gH L g1;refine⟨C2,w2.trans w1,u2.trans u1,b2.trans b1,g2,t1.trans (t2.weaken fun n hn=>by rw[u1];exact hn),fun k h=>r2 k (r1 k h),fun nm b k hm hg hb=>?_⟩;rcases jJ.1 hm with e|e
  ·subst e;exact r2 k (q1 b k hg hb)
  ·by_cases en:nm=m
   ·subst en;exact r2 k (q1 b k hg hb)
   ·exact q2 nm b k e (by rw[dD,if_neg en];exact hg) (by rw[b1];exact hb)
theorem jP{f:FuncId}{args:List AV}{ds:List D}{H HL:AHeap}{L:List Nat}{nx:Nat}{K:AV->AHeap->Nat->Prop}(h:bq P G f (ds.map .d) (gF L H) nx K)(hl:args.length=ds.length)
  (hHL:∀ nm b,HL.get nm=some b->nm∈L/\H.get nm=some b) (ha:∀(i:Nat) (v:AV) (d:D),args[i]?=some v->ds[i]?=some d->AsD HL v d):bq P G f args H nx K:=by
 intro C vs hH hU hs hr;obtain⟨C',w',u',b',g,t,r,q⟩:=gH L hH;have hHL':P0 G C HL:=hH.anti fun nm b hg=>(hHL nm b hg).2;rw[<- w'];refine(h C' vs g (fun m hm=>hU m (by rw[<- u'];exact hm)) (by simpa using hs.trans hl) (fun i v hi=>?_)).mono ?_
 ·simp only[mV,tT]at hi;obtain⟨d,hd,rfl⟩:=hi;obtain⟨u,hu⟩:=dw hl hd;have:=jR hHL' (RO:=C'.RO) r (fun nm b k hg hb=>q nm b k (hHL nm b hg).1 (hHL nm b hg).2 hb) (ha i u d hu hd) _ (hr i u hu);exact .d _ _ (by rw[w'];exact this)
 ·rintro e w2 ⟨x,v,H',nx',C2,h1,h2,h3,h4,h5,h6,h7⟩;exact⟨x,v,H',nx',C2,h1,h2,h3,h4,h5,h6,t.trans (h7.weaken fun m hm=>by rw[u'];exact hm)⟩
theorem yW{n:Nat}:∀{l:List Nat},fL n l=true->n∈l
 | [],h=>by cases h
 | m::l,h=>by
  unfold fL at h;split at h
  ·rename_i e;rw[waf e];simp
  ·exact eJ _ (yW h)
theorem jK{L:List Nat}{H:AHeap}:∀ nm b,(kV 0 L H).get nm=some b->nm∈L/\H.get nm=some b:=by
 intro nm b h;cases hs:Nat.blt nm 0||fL nm L with
 | true =>
  rw[wQ _ _ _ hs]at h;refine⟨?_,h⟩;have:Nat.blt nm 0=false:=rfl;rw[this,Bool.false_or]at hs;exact yW hs
 | false=>rw[wR _ _ _ hs]at h;cases h
abbrev Ov:=FuncId->List D->Option D
def Gu(O:Ov)(f:FuncId)(args:List AV)(H:AHeap)(nx:Nat)(k:Option (AV×AHeap×Nat)):Option (AV×AHeap×Nat):=match mh args with
 | some ds=>match O f ds with
  | some d=>some (.d d,H,nx)
  | none=>k
 | none=>match fb (eY (kV 0 (mark H 300 (kX args []) []) H) 9 []) args with
  | some ds=>match O f ds with
   | some d=>match d.flat with
    | true=>some (.d d,H,nx)
    | false=>some (.d d,gF (mark H 300 (kX args []) []) H,nx)
   | none=>k
  | none=>k
def OvOk(P:Program)(G:Nat->Option (List D))(O:Ov):Prop:=∀ f ds d,O f ds=some d->jw P f /\ ∀ H nx,bq P G f (ds.map .d) H nx fun v H' n=>v = .d d/\H'=H/\n=nx
theorem KF{O:Ov}(hO:OvOk P G O){f:FuncId}{args:List AV}{H:AHeap}{nx:Nat}{k:Option (AV×AHeap×Nat)}{v:AV}{H':AHeap}{nx':Nat}(h:Gu O f args H nx k=some (v,H',nx')) :
  (jw P f/\bq P G f args H nx fun v' H'' n''=>v'=v/\H''=H'/\n''=nx')\/k=some (v,H',nx'):=by
 unfold Gu at h;split at h
 ·rename_i ds hds;split at h
  ·rename_i d hd;simp only[tU,Cl]at h;obtain⟨rfl,rfl,rfl⟩:=h;obtain⟨g1,g2⟩:=hO f ds d hd;have:=fu _ _ hds;subst this;exact .inl ⟨g1,g2 _ _⟩
  ·exact .inr h
 ·split at h
  ·rename_i ds hds;split at h
   ·rename_i d hd;obtain⟨g1,g2⟩:=hO f ds d hd;obtain⟨m1,m2⟩:=cE hds;split at h
    ·rename_i hf;simp only[tU,Cl]at h;obtain⟨rfl,rfl,rfl⟩:=h;refine .inl ⟨g1,vK (g2 [] 0) m1 (fun i v d h1 h2=>(ff _ _ _ _ (m2 i v d h1 h2)).ext fun nm b hg=>(jK nm b hg).2) ?_⟩;rintro v N m ⟨rfl,rfl,rfl⟩;exact⟨hf,fun _ _ h=>(by cases h),rfl,rfl,rfl⟩
    ·simp only[tU,Cl]at h;obtain⟨rfl,rfl,rfl⟩:=h;exact .inl ⟨g1,jP (HL:=kV 0 (mark H 300 (kX args []) []) H) (g2 _ _) m1 jK fun i v d h1 h2=>ff _ _ _ _ (m2 i v d h1 h2)⟩
   ·exact .inr h
  ·exact .inr h
noncomputable def exec(F:FuncId->Option Func)(T:Tab)(G:Nat->Option (List D))(O:Ov):Nat->Ex
 | 0=>⟨fun _ _ _ _=>none,fun _ _ _=>none,fun _ _ _ _=>none⟩
 | q+1 =>
  ⟨fun f args H nx=>Gu O f args H nx <| match F f with
   | some fn=>match E4 (DI (AV×AHeap×Nat)) T G (mo _ (exec F T G O q)) (iE _ (exec F T G O q)) (fun _=>qe _ (exec F T G O q) nx) fn args H nx fun v H' nx'=>some (v,H',nx') with
    | some (v,H',nx')=>some (v,gc nx (v::args) H',nx')
    | none=>none
   | none=>none,
  fun b c st=>match oH (DI (Exit×St)) T G (mo _ (exec F T G O q)) (iE _ (exec F T G O q)) (qe _ (exec F T G O q) b) c st fun e st'=>some (e,st') with
   | some (.normal,st')=>(exec F T G O q).loop b c (xO b st')
   | some (e,st')=>some (e,st')
   | none=>none,
  fun nm args H nx=>Ce (DI (AV×AHeap×Nat)) T G (mo _ (exec F T G O q)) (iE _ (exec F T G O q)) (fun _=>qe _ (exec F T G O q) nx) nm args H nx fun v H' nx'=>some (v,H',nx')⟩
def J6(P:Program)(F:FuncId->Option Func):Prop:=∀ f fn,F f=some fn->P.funcs[f]?=some fn/\aq fn=true
structure ExOk (P:Program) (G:Nat->Option (List D)) (x:Ex):Prop where
 call:∀ f args H nx v H' nx',x.call f args H nx=some (v,H',nx')->jw P f/\bq P G f args H nx fun v' H'' n''=>v'=v/\H''=H'/\n''=nx'
 rd:∀ nm args H nx v H' nx',x.rd nm args H nx=some (v,H',nx')->ARound P G nm args H nx fun v' H'' n''=>v'=v/\H''=H'/\n''=nx'
 loop:∀ r n b ms b' c st e st',bf n c=true->x.loop b' c st=some (e,st')->kw r P G n b (.loop c) st ms fun e' s m=>m=ms/\e'=e/\s=st'
theorem tX{x:Ex}{R:Type}(res:R)(hx:ExOk P G x)(hT:TabOk P T)(hm:P.follows .mixedOrders=true):XOk P G (DI R) (fun w=>w=some res) T (mo R x) (iE R x) where
 ok:=OH res
 tab:=hT
 mixed:=hm
 call:=by
  constructor
  ·intro f l H nx k h;unfold mo at h;simp only at h;split at h
   ·rename_i v H' nx' hc;obtain⟨h1,h2⟩:=hx.call _ _ _ _ _ _ _ hc;refine⟨h1,fun C vs a1 a2 a3 a4=>(h2 C vs a1 a2 a3 a4).mono ?_⟩;rintro e w' ⟨y,v',H'',n',C',q1,q2,⟨rfl,rfl,rfl⟩,q4⟩;exact⟨y,_,_,_,C',q1,q2,h,q4⟩
   ·cases h
  ·intro nm l H nx k h;unfold mo at h;simp only at h;split at h
   ·rename_i v H' nx' hc;refine ARound.mono (hx.rd _ _ _ _ _ _ _ hc) ?_;rintro v' H'' n' ⟨rfl,rfl,rfl⟩;exact h
   ·cases h
 dcall f ds k h:=by
  unfold iE at h;split at h
  ·rename_i v H' nx' hc;obtain⟨h1,h2⟩:=hx.call _ _ _ _ _ _ _ hc;exact⟨v,H',nx',h1,h2,h⟩
  ·cases h
theorem lH{x:Ex}{R:Type}{res:R}{r:Option Nat}{n b b':Nat}{ms:List Nat}(hx:ExOk P G x):sI P G (DI R) (fun w=>w=some res) r n b ms (qe R x b'):=by
 intro c st k hc h;unfold qe at h;split at h
 ·rename_i e st' hl;refine bd (hx.loop r n b ms b' c st e st' hc hl) ?_;rintro e' s m ⟨rfl,rfl,rfl⟩;exact⟨rfl,h⟩
 ·cases h
theorem Kp{F:FuncId->Option Func}{O:Ov}(hF:J6 P F)(hT:TabOk P T)(hm:P.follows .mixedOrders=true)(f:FuncId)(args:List AV)(H:AHeap)(nx:Nat)(v:AV)(H':AHeap)(nx':Nat)(q:Nat)(hx:ExOk P G (exec F T G O q))
  (h:(match F f with
   | some fn=>match E4 (DI (AV×AHeap×Nat)) T G (mo _ (exec F T G O q)) (iE _ (exec F T G O q)) (fun _=>qe _ (exec F T G O q) nx) fn args H nx fun v H' nx'=>some (v,H',nx') with
    | some (v,H',nx')=>some (v,gc nx (v::args) H',nx')
    | none=>none
   | none=>none)=some (v,H',nx')):jw P f/\bq P G f args H nx fun v' H'' n''=>v'=v/\H''=H'/\n''=nx':=by
 split at h
 ·rename_i fn hf;obtain⟨h1,h2⟩:=hF f fn hf;split at h
  ·rename_i v' H1 n1 hr;simp only[tU,Cl]at h;obtain⟨rfl,rfl,rfl⟩:=h;refine⟨bg h1 h2,qC (H1:=H1) ?_ NS⟩;have:=tW (tX (v',H1,n1) hx hT hm) (fun ms=>lH (r:=none) (n:=fn.ntmps) (b:=nx) (ms:=ms) hx) h1 h2 hr;intro C vs a1 a2 a3 a4;refine(this C vs a1 a2 a3 a4).mono ?_;rintro e w' ⟨y,v2,H2,n2,C',q1,q2,q3,q4⟩;have q3:some (v2,H2,n2)=some (v',H1,n1):=q3;simp only[tU,Cl]at q3;exact⟨y,v2,H2,n2,C',q1,q2,q3,q4⟩
  ·cases h
 ·cases h
theorem Iz{F:FuncId->Option Func}{O:Ov}(hF:J6 P F)(hO:OvOk P G O)(hT:TabOk P T)(hm:P.follows .mixedOrders=true):∀ q,ExOk P G (exec F T G O q):=by
 intro q
 induction q using Nat.strongRecOn with
 | _ q ih =>
  constructor
  ·intro f args H nx v H' nx' h;cases q with
   | zero=>cases h
   | succ q =>
    have hx:=ih q (Ck q);simp only[exec]at h;rcases KF hO h with q|h
    ·exact q
    ·exact Kp hF hT hm f args H nx v H' nx' q hx h
  ·intro nm args H nx v H' nx' h;cases q with
   | zero=>cases h
   | succ q =>
    have hx:=ih q (Ck q);simp only[exec]at h;refine ARound.mono (sx (tX (v,H',nx') hx hT hm) (fun r n=>lH (r:=r) (n:=n) (b:=nx) (ms:=[]) hx) h) ?_;intro v2 H2 n2 q3;have q3:some (v2,H2,n2)=some (v,H',nx'):=q3;simp only[tU,Cl]at q3;exact q3
  ·intro r n b ms b' c st e st' hc h;refine nJ (σ:={ p:Nat×St // p.1<=q/\(exec F T G O p.1).loop b' c p.2=some (e,st') }) (fun p=>p.1.2) (fun p=>p.1.1) ⟨(q,st),cF q,h⟩ Sub.refl ?_;rintro⟨⟨q1,s⟩,hq1,h1⟩;cases q1 with
   | zero=>cases h1
   | succ q1 =>
    have hq2:q1+1<=q:=hq1;have hx:=ih q1 qad;have h2:(exec F T G O (q1+1)).loop b' c s=some (e,st'):=h1;simp only[exec]at h2;split at h2
    ·rename_i s1 hr;refine bd (bJ (tX (Exit.normal,s1) hx hT hm) (lH (r:=r) (n:=n) (b:=b) (ms:=ms) hx) c s _ hc hr) ?_;rintro e2 s2 m2 ⟨hm2,h3⟩;have h3:some (e2,s2)=some (Exit.normal,s1):=h3;simp only[tU,Cl]at h3;obtain⟨rfl,rfl⟩:=h3;exact⟨hm2,⟨(q1,xO b' s2),by simp only;omega,h2⟩,EL,Ck q1⟩
    ·rename_i e1 s1 hne hr;simp only[tU,Cl]at h2;refine bd (bJ (tX (e1,s1) hx hT hm) (lH (r:=r) (n:=n) (b:=b) (ms:=ms) hx) c s _ hc hr) ?_;rintro e2 s2 m2 ⟨hm2,h3⟩;have h3:some (e2,s2)=some (e1,s1):=h3;simp only[tU,Cl]at h3;have he:e2=e:=h3.1.trans h2.1;have hs:s2=st':=h3.2.trans h2.2;cases e2 with
     | normal=>exact(hne h3.1.symm).elim
     | _=>exact⟨hm2,he,hs⟩
    ·cases h2
end Go.AL
namespace Go.AL
open Go
variable{P:Program}{G:Nat->Option (List D)}{T:Tab}
inductive P2 (P:Program) (G:Nat->Option (List D)) (n b:Nat) (ms:List Nat) (c:Code) (st:St) (k:Exit->St->Prop):Prop
 | mk (h:∀ r,kw r P G n b (.loop c) st ms fun e st' ms'=>ms'=ms/\k e st')
inductive RoundVC (P:Program) (G:Nat->Option (List D)) (nm:Nat) (l:List AV) (H:AHeap) (nx:Nat) (k:AV->AHeap->Nat->Prop):Prop
 | mk (h:ARound P G nm l H nx k)
inductive P3 (P:Program) (G:Nat->Option (List D)) (f:FuncId) (l:List AV) (H:AHeap) (nx:Nat) (k:AV->AHeap->Nat->Prop):Prop
 | mk (h1:jw P f) (h2:bq P G f l H nx k)
inductive Q3 (P:Program) (G:Nat->Option (List D)) (f:FuncId) (ds:List D) (k:AV->AHeap->Nat->Prop):Prop
 | mk (v:AV) (N:AHeap) (n:Nat) (h1:jw P f) (h2:bq P G f (ds.map .d) [] 0 fun v' N' n'=>v'=v/\N'=N/\n'=n) (hk:k v N n)
def Lx(P:Program)(G:Nat->Option (List D)):P7 np:=⟨fun f l H nx k=>P3 P G f l H nx k,fun nm l H nx k=>RoundVC P G nm l H nx k⟩
def Ly(P:Program)(G:Nat->Option (List D)):fT np:=fun f ds k=>Q3 P G f ds k
def QS(P:Program)(G:Nat->Option (List D))(n b:Nat)(ms:List Nat):nD np:=fun c st k=>P2 P G n b ms c st k
structure POk (P:Program) (T:Tab):Prop where
 tab:TabOk P T
 mixed:P.follows .mixedOrders=true
theorem Wj(hp:POk P T):XOk P G np (fun p=>p) T (Lx P G) (Ly P G):=⟨Gr,hp.tab,⟨fun _ _ _ _ _ h=>(by cases h with|mk h1 h2=>exact⟨h1,h2⟩),fun _ _ _ _ _ h=>(by cases h with|mk h=>exact h)⟩,fun _ _ _ h=>(by cases h with|mk v N n h1 h2 hk=>exact⟨v,N,n,h1,h2,hk⟩),hp.mixed⟩
theorem mz{r:Option Nat}{n b:Nat}{ms:List Nat}:sI P G np (fun p=>p) r n b ms (QS P G n b ms):=fun _ _ _ _ h=>by cases h with|mk h=>exact h r
inductive Fin (p:Prop):Prop
 | mk (h:p)
theorem fin{p:Prop}(h:p):Fin p:=⟨h⟩
theorem Qq{p:Prop}(h:Fin p):p:=by cases h;assumption
theorem cu{f:FuncId}{args:List AV}{H:AHeap}{nx:Nat}{K K':AV->AHeap->Nat->Prop}(h:bq P G f args H nx K)(hk:∀ v H' n,K v H' n->K' v H' n):bq P G f args H nx K':=by
 intro C vs a1 a2 a3 a4;refine(h C vs a1 a2 a3 a4).mono ?_;rintro e w' ⟨y,v,H',n',C',q1,q2,q3,q4⟩;exact⟨y,v,H',n',C',q1,q2,hk _ _ _ q3,q4⟩
theorem bi(hp:POk P T){f:FuncId}{fn:Func}{args:List AV}{H:AHeap}{nx:Nat}{K:AV->AHeap->Nat->Prop}(hf:P.funcs[f]?=some fn)(hc:aq fn=true)
  (h:E4 np T G (Lx P G) (Ly P G) (QS P G fn.ntmps nx) fn args H nx fun v H' n=>Fin (K v H' n)):bq P G f args H nx K :=
 cu (tW (hd:=fun p:np.W=>p) (Wj hp) (fun _=>mz) hf hc h) fun _ _ _ h=>Qq h
structure PC (P:Program) (G:Nat->Option (List D)) (f:FuncId) (ds:List D) (d:D):Prop where
 fn:jw P f
 call:bq P G f (ds.map .d) [] 0 fun v N k=>v = .d d/\N=[]/\k=0
theorem OX{f:FuncId}{ds:List D}{d:D}(hf:jw P f)(h:bq P G f (ds.map .d) [] 0 fun v _ _=>v = .d d):PC P G f ds d:=by
 refine⟨hf,?_⟩;intro C vs hH hU hs hr;refine(h C vs hH hU hs hr).mono ?_;rintro e w' ⟨x,v,H',n',C',rfl,rfl,rfl,hv,hH',hU',hT⟩;have hvd:=bZ hv;refine⟨x,.d d,[],0,{ C' with U:=fun _=>False },rfl,rfl,⟨rfl,rfl,rfl⟩,.d _ _ hvd,⟨fun nm b h=>(by cases h),fun nm nm' b b' k h=>(by cases h),hH'.ro,hH'.glob⟩,fun m hm=>hm.elim,?_⟩;have h0:∀ m,C.U m->False:=fun m hm=>by have:=hU m hm;omega
 exact{ os:=hT.os,tape:=hT.tape,output:=hT.output,size:=hT.size,shape:=hT.shape,frame:=hT.frame,names:=fun m hm=>(h0 m hm).elim,ros:=hT.ros,img:=fun nm b k h=>(by cases h),rob:=hT.rob }
theorem ae(hp:POk P T){f:FuncId}{fn:Func}{ds:List D}{d:D}(hf:P.funcs[f]?=some fn)(hc:aq fn=true)
  (h:E4 np T G (Lx P G) (Ly P G) (QS P G fn.ntmps 0) fn (ds.map .d) [] 0 fun v _ _=>Fin (v = .d d)):PC P G f ds d :=
 OX (bg hf hc) (bi hp hf hc h)
theorem aa{f:FuncId}{ds:List D}{d:D}{H:AHeap}{nx:Nat}{k:AV->AHeap->Nat->Prop}(h:PC P G f ds d)(hk:k (.d d) H nx):P3 P G f (ds.map .d) H nx k:=by
 refine⟨h.fn,fc h.call ?_⟩;rintro v N m ⟨rfl,rfl,rfl⟩;exact hk
theorem ab{f:FuncId}{ds:List D}{d:D}{k:AV->AHeap->Nat->Prop}(h:PC P G f ds d)(hk:k (.d d) [] 0):Q3 P G f ds k:=⟨.d d,[],0,h.fn,h.call,hk⟩
inductive Again (G:Nat->Option (List D)) (b:Nat) (ms:List Nat) {σ:Type} (I:σ->St) (μ:σ->Nat) (s:σ) (st:St):Prop
 | mk (t:σ) (hs:Sub G b ms st (I t)) (hlt:μ t<μ s)
theorem gJ(hp:POk P T){n b:Nat}{ms:List Nat}{c:Code}{st:St}{k:Exit->St->Prop}{σ:Type}(I:σ->St)(μ:σ->Nat)(s0:σ)(h0:Sub G b ms st (I s0))(hc:bf n c=true)
  (round:∀ s,oH np T G (Lx P G) (Ly P G) (QS P G n b ms) c (I s) fun e st'=>pK e st' (Again G b ms I μ s) k):P2 P G n b ms c st k:=by
 refine⟨fun r=>nJ (Q:=fun e st' ms'=>ms'=ms/\k e st') I μ s0 h0 fun s=>bd (bJ (hd:=fun p:np.W=>p) (Wj hp) mz c (I s) _ hc (round s)) ?_⟩;rintro e s' m' ⟨hm,h⟩;cases e with
 | normal=>obtain⟨t,h1,h2⟩:=h;exact⟨hm,t,h1,h2⟩
 | _=>exact⟨hm,h⟩
theorem aB(hp:POk P T){f:FuncId}{fn:Func}{args:List AV}{H:AHeap}{nx:Nat}{k:AV->AHeap->Nat->Prop}(hf:P.funcs[f]?=some fn)(hc:aq fn=true)
  (h:E4 np T G (Lx P G) (Ly P G) (QS P G fn.ntmps nx) fn args H nx k):P3 P G f args H nx k :=
 ⟨bg hf hc,tW (hd:=fun p:np.W=>p) (Wj hp) (fun _=>mz) hf hc h⟩
theorem cv(hp:POk P T){nm:Nat}{args:List AV}{H:AHeap}{nx:Nat}{k:AV->AHeap->Nat->Prop}
  (h:Ce np T G (Lx P G) (Ly P G) (fun n=>QS P G n nx []) nm args H nx k):RoundVC P G nm args H nx k :=
 ⟨sx (hd:=fun p:np.W=>p) (Wj hp) (fun _ _=>mz) h⟩
theorem ah{b:Nat}{ms:List Nat}{st st':St}(hbn:b<=st'.nx)(henv:AllP (fun p:Nat×AV=>lk st.env p.1=p.2/\p.2.bel st'.nx=true) st'.env)
  (hheap:AllP (fun p:Nat×Option Blk=>p.1<st'.nx /\ ∃ bl,p.2=some bl/\st.heap.get p.1=some bl/\bl.Below st'.nx) st'.heap) (hms:AllP (fun m=>m<st'.nx) ms):Sub G b ms st st':=PW hbn henv hheap hms
theorem ay{k sz:Nat}{el:List AV}(h:AV.bels k el=true):Blk.Below k (.arr sz [el]):=fun e he=>by cases mb.1 he;exact h
theorem di{a b:Nat}(h:Nat.blt a b=true):a<b:=uz
end Go.AL
namespace Go.AL
open Go
variable{P:Program}{G:Nat->Option (List D)}{T:Tab}
theorem bk{f:FuncId}{args:List AV}{H:AHeap}{nx:Nat}{K K':AV->AHeap->Nat->Prop}(h:bq P G f args H nx K)
  (hs:∀ v H' n,K v H' n->∃ v' N' k',Sub G nx [] ⟨[(0,v)],H',n⟩ ⟨[(0,v')],N',k'⟩/\K' v' N' k'):bq P G f args H nx K':=by
 intro C vs hH hU hl hr;refine(h C vs hH hU hl hr).mono ?_;rintro e w' ⟨x,v,H',n,C',rfl,rfl,hK,hv,hH',hU',hT⟩;obtain⟨v',N',k',hS,hK'⟩:=hs v H' n hK;have hRel:Rel G 1 ⟨[(0,v)],H',n⟩ [] C' { tmps:=#[x],defers:=[] }:=by
  refine⟨hH',⟨rfl,fun t=>?_⟩,hU',(fun m hm=>by cases hm),rfl⟩;cases t with
  | zero=>exact hv
  | succ t=>exact .top _
 obtain⟨C'',e1,r1,t1⟩:=hS 1 C' _ hRel;refine⟨x,v',N',k',C'',rfl,e1,hK',r1.env.env 0,r1.heap,r1.names,hT.trans (t1 C.U fun m hm=>⟨(hT.names m hm).1,hU m hm⟩)⟩
end Go.AL
namespace Go.AL
open Go
variable{P:Program}{G:Nat->Option (List D)}{T:Tab}
theorem de{f:FuncId}{ds:List D}{d:D}(hf:jw P f)(h:bq P G f (ds.map .d) [] 0 fun v H _=>AsD H v d):PC P G f ds d:=by
 refine⟨hf,?_⟩;intro C vs hH hU hs hr;refine(h C vs hH hU hs hr).mono ?_;rintro e w' ⟨x,v,H',n',C',rfl,rfl,hd,hv,hH',hU',hT⟩;have hvd:=jR hH' (RO:=fun k=>C'.RO k \/ ∃ nm b,H'.get nm=some b/\C'.β nm=some k) (fun k hk=>.inl hk) (fun nm b k hg hb=>.inr ⟨nm,b,hg,hb⟩) hd x hv;refine⟨x,.d d,[],0,{ U:=fun _=>False,β:=C'.β,RO:=fun k=>C'.RO k \/ ∃ nm b,H'.get nm=some b/\C'.β nm=some k,w:=C'.w },rfl,rfl,⟨rfl,rfl,rfl⟩,.d _ _ hvd,
  ⟨fun nm b h=>(by cases h),fun nm nm' b b' k h=>(by cases h),fun k hk=>?_,fun g ds hg=>(hH'.glob g ds hg).mono (fun _ _=>rfl) fun _ h=>.inl h⟩,fun m hm=>hm.elim,?_⟩
 ·exact qjm
 ·exact qia
noncomputable def C7(F:FuncId->Option Func)(T:Tab)(G:Nat->Option (List D))(O:Ov)(q:Nat)(f:FuncId)(ds:List D):Option D:=match (exec F T G O q).call f (ds.map .d) [] 0 with
 | some (v,H,_)=>eY H 20 [] v
 | none=>none
theorem OY{O:Ov}(h:∀ f ds d,O f ds=some d->PC P G f ds d):OvOk P G O:=fun f ds d hd=>⟨(h f ds d hd).fn,fun H nx=>fc (h f ds d hd).call fun v N k ⟨h1,h2,h3⟩=>by subst h1 h2 h3;exact⟨rfl,rfl,rfl⟩⟩
theorem OZ{F:FuncId->Option Func}{O:Ov}(hF:J6 P F)(hO:OvOk P G O)(hp:POk P T){q:Nat}{f:FuncId}{ds:List D}{d:D}(h:C7 F T G O q f ds=some d):PC P G f ds d:=by
 unfold C7 at h;split at h
 ·rename_i v H n hr;obtain⟨h1,h2⟩:=(Iz hF hO hp.tab hp.mixed q).call _ _ _ _ _ _ _ hr;refine de h1 (cu h2 ?_);rintro v' H' n' ⟨rfl,rfl,rfl⟩;exact ff _ _ _ _ h
 ·cases h
end Go.AL
namespace Go.AL
open Go
variable{G:Nat->Option (List D)}{P:Program}{st:St}
variable{r:Option Nat}{n b:Nat}{ms:List Nat}{Q:Exit->St->List Nat->Prop}{ops:Array Oper}
theorem Ki{m:Nat}{p q:Nat->Bool}{i k:Nat}(hi:i<m)(h1:p i=true)(h2:q i=false)(h3:∀ j,j≠i->q j=p j)(h:cnt m p<=k+1):cnt m q<=k:=by
 have:=Ab m i p q hi h1 h2 h3;omega
def edgeB(ops:Array Oper):Bool:=(List.range ops.size).all fun i=>match ops[i]? with
 | some o=>o.after.all fun e=>!Region.binds .any e||Nat.blt e.on i
 | none=>true
theorem qX(h:edgeB ops=true):∀(i:Nat) (o:Oper),ops[i]?=some o->∀ e∈o.after,Region.binds .any e=true->e.on<i:=by
 intro i o ho e he hb;have:=lh.1 h i (cJ.2 (BU.1 ho).1);rw[ho]at this;have:=Array.all_eq_true_iff_forall_mem.1 this e he;simpa[hb] using this
theorem vc{id:Nat}(hm:P.follows .mixedOrders=true)(hb:∀(i:Nat) (o:Oper),ops[i]?=some o->∀ e∈o.after,Region.binds .any e=true->e.on<i)(SR:(Nat->Bool)->St->Prop)(h0:SR (fun _=>false) st)
  (step:∀(L:Nat->Bool) (s:St) (i:Nat) (o:Oper),SR L s->L i=false->ops[i]?=some o->(∀ e∈o.after,Region.binds .any e=true->L e.on=true)->o.guard=none/\nF r P G n b o s ms (fun s'=>SR (fun j=>if j=i then true else L j) s'))
  (fin:∀(L:Nat->Bool) (s:St),SR L s->(∀ i,i<ops.size->L i=true)->Q .normal s ms):kw r P G n b (.region id ops true) st ms Q:=by
 intro X C a hR hX;refine wpIn_region_any hm ?_;have hd:C.drew.w={ C.w with drawn:=C.w.drawn+1 }:=rfl;rw[<- hd];have key:∀(fuel:Nat) (listed:Array Bool) (s:St) (C1:Ctx) (a1:Act),listed.size=ops.size->SR (fun j=>listed.getD j false) s->Rel G n s ms C1 a1->(∀ k,X k->C1.U k/\k<b)->Tr X C st.heap C1 s.heap ->
   cnt ops.size (fun j=>!listed.getD j false)<=fuel->wpAnyIn (Fr r) 0 P .any ops (uc G X n C st.heap Q) fuel listed a1 C1.w:=by
  intro fuel
  induction fuel with
  | zero =>
   intro listed s C1 a1 hsz hS hR1 hX1 hT1 hc;have hall:∀ i,i<ops.size->listed.getD i false=true:=fun i hi=>by
    have:=wh (Nat.le_zero.1 hc) i hi;simpa using this
   refine⟨?_,⟨s,ms,C1,rfl,fin _ s hS hall,hR1,hT1⟩⟩;rw[List.eq_nil_iff_forall_not_mem];intro i hi;obtain⟨h1,o,ho,_⟩:=mem_ready.1 hi;have:=hall i (BU.1 ho).1;rw[getD_both h1]at this;cases this
  | succ fuel ih =>
   intro listed s C1 a1 hsz hS hR1 hX1 hT1 hc;refine⟨fun hr=>?_,fun i hi=>?_⟩
   ·have hall:∀ i,i<ops.size->listed.getD i false=true:=by
     intro i
     induction i using Nat.strongRecOn with
     | _ i ihi =>
      intro hi;cases hl:listed.getD i false with
      | true=>rfl
      | false =>
       have ho:ops[i]?=some ops[i]:=wdy hi;have:i∈Region.ready .any ops listed:=mem_ready.2 ⟨getD_in qad hl,ops[i],ho,fun e he hbd=>ihi e.on (hb i _ ho e he hbd) (by have:=hb i _ ho e he hbd;omega)⟩;rw[hr]at this;cases this
    exact⟨s,ms,C1,rfl,fin _ s hS hall,hR1,hT1⟩
   ·obtain⟨h1,o,ho,hall⟩:=mem_ready.1 hi;have hlt:=(BU.1 ho).1;obtain⟨hg,hop⟩:=step _ s i o hS (getD_both h1) ho hall;unfold wpOpIn;simp only[ho];have hw:Region.wanted o (yielded ops a1.tmps)=true:=by simp[Region.wanted,hg]
    rw[if_pos hw];refine hop X C1 a1 _ _ hR1 hX1 fun s' C2 a2 g1 g2 g3=>ih (listed.setIfInBounds i true) s' C2 a2 (by simpa using hsz) ?_ g2 (xu hX1 g3) (hT1.trans g3) ?_
    ·have:(fun j=>(listed.setIfInBounds i true).getD j false)=fun j=>if j=i then true else listed.getD j false:=by
      funext j;by_cases e:j=i
      ·subst e;simp[hsz,hlt]
      ·rw[if_neg e,getD_set_ne false (Ne.symm e)]
     rw[this];exact g1
    ·refine Ki hlt (p:=fun j=>!listed.getD j false) ?_ ?_ ?_ hc
     ·simp[getD_both h1]
     ·simp[hsz,hlt]
     ·intro j hj;rw[getD_set_ne false (Ne.symm hj)]
 have hTr:=jH (C:=C) (H:=st.heap);refine key ops.size (Array.replicate ops.size false) st C.drew a aR ?_ ⟨iu hR.heap,jX hR.heap hTr hR.env rfl,hR.names,hR.marks,?_⟩ hX (hTr.weaken fun k hk'=>(hX k hk').1) ?_
 ·have:(fun j=>(Array.replicate ops.size false).getD j false)=fun _=>false:=by
   funext j;exact getD_replicate_false _ _
  rw[this];exact h0
 ·rw[hR.defers];exact(eo hTr hR.marks).symm
 ·have:∀ m (p:Nat->Bool),cnt m p<=m:=fun m p=>by
   unfold cnt;have:=wdp (p:=p) (l:=List.range m);simpa using this
  exact this _ _
end Go.AL
namespace Go.AL
open Go
variable{P:Program}{G:Nat->Option (List D)}{T:Tab}
theorem Bd{f:FuncId}{args:List AV}{ds:List D}{d:D}{H HL:AHeap}{L:List Nat}{nx:Nat}{k:AV->AHeap->Nat->Prop}(h:PC P G f ds d)(hl:args.length=ds.length)
  (hHL:∀ nm b,HL.get nm=some b->nm∈L/\H.get nm=some b) (ha:∀(i:Nat) (v:AV) (d:D),args[i]?=some v->ds[i]?=some d->AsD HL v d) (hk:k (.d d) (gF L H) nx):P3 P G f args H nx k:=by
 refine⟨h.fn,jP (HL:=HL) (L:=L) (fc h.call ?_) hl hHL ha⟩;rintro v N m ⟨rfl,rfl,rfl⟩;exact hk
theorem jd{f:FuncId}{args:List AV}{ds:List D}{d:D}{H:AHeap}{nx:Nat}{k:AV->AHeap->Nat->Prop}(h:PC P G f ds d)
  (hds:fb (eY (kV 0 (mark H 300 (kX args []) []) H) 9 []) args=some ds) (hk:k (.d d) (gF (mark H 300 (kX args []) []) H) nx):P3 P G f args H nx k :=
 Bd (HL:=kV 0 (mark H 300 (kX args []) []) H) h (cE hds).1 jK (fun i v d h1 h2=>ff _ _ _ _ ((cE hds).2 i v d h1 h2)) hk
theorem Bf{f:FuncId}{args:List AV}{ds:List D}{d:D}{H:AHeap}{nx:Nat}{k:AV->AHeap->Nat->Prop}(h:PC P G f ds d)(hl:args.length=ds.length)(ha:∀(i:Nat) (v:AV) (d:D),args[i]?=some v->ds[i]?=some d->AsD H v d)(hf:d.flat=true)
  (hk:k (.d d) H nx):P3 P G f args H nx k:=by
 refine⟨h.fn,vK h.call hl ha ?_⟩;rintro v N m ⟨rfl,rfl,rfl⟩;exact⟨hf,fun _ _ h=>(by cases h),hk⟩
theorem kh{f:FuncId}{args:List AV}{ds:List D}{d:D}{H:AHeap}{nx:Nat}{k:AV->AHeap->Nat->Prop}(h:PC P G f ds d)(hds:fb (eY H 9 []) args=some ds)(hf:d.flat=true)(hk:k (.d d) H nx):P3 P G f args H nx k :=
 Bf h (cE hds).1 (fun i v d h1 h2=>ff _ _ _ _ ((cE hds).2 i v d h1 h2)) hf hk
theorem cc{f:FuncId}{ds:List D}{b:Bool}{H:AHeap}{nx:Nat}{k:AV->AHeap->Nat->Prop}(h:PC P G f ds (.bool b))(hk:∀ t,b=t->k (.d (.bool t)) H nx):P3 P G f (ds.map .d) H nx k:=aa h (hk b rfl)
theorem od{f:FuncId}{ds:List D}{b:Bool}{k:AV->AHeap->Nat->Prop}(h:PC P G f ds (.bool b))(hk:∀ t,b=t->k (.d (.bool t)) [] 0):Q3 P G f ds k:=ab h (hk b rfl)
theorem Pb{f:FuncId}{ds:List D}{b:Bool}{e:D}{H:AHeap}{nx:Nat}{k:AV->AHeap->Nat->Prop}(h:PC P G f ds (.tup [.bool b,e]))(hk:∀ t,b=t->k (.d (.tup [.bool t,e])) H nx):P3 P G f (ds.map .d) H nx k:=aa h (hk b rfl)
theorem eV{f:FuncId}{args:List AV}{ds:List D}{b:Bool}{H:AHeap}{nx:Nat}{k:AV->AHeap->Nat->Prop}(h:PC P G f ds (.bool b))(hds:fb (eY H 9 []) args=some ds)(hk:∀ t,b=t->k (.d (.bool t)) H nx):P3 P G f args H nx k :=
 kh h hds rfl (hk b rfl)
def DW(d0 d:D):Prop:=∀(w:World) (RO:Nat->Prop) (x:Value),P1 w RO d0 x->P1 w RO d x
theorem DW.rfl(d:D):DW d d:=fun _ _ _ h=>h
theorem Vg(es:List (List D))(t:Bool):DW (.sl es t) (.sl es false):=by
 intro w RO x h;cases h with
 | sl0 _ a c ht=>exact .sl0 false a c (fun h=>by cases h)
 | sl _ _ b o c sz vs hro hc ht hsz hm hr=>exact .sl es false b o c sz vs hro hc (fun h=>by cases h) hsz hm hr
theorem mG{f:FuncId}{ds:List D}{d:D}(hf:jw P f)(h:bq P G f (ds.map .d) [] 0 fun v H _=>∃ d0,AsD H v d0/\DW d0 d):PC P G f ds d:=by
 have key:∀(C:Ctx) (vs:Array Value),True:=fun _ _=>trivial;refine⟨hf,?_⟩;intro C vs hH hU hs hr;refine(h C vs hH hU hs hr).mono ?_;rintro e w' ⟨x,v,H',n',C',rfl,rfl,⟨d0,hd,hw⟩,hv,hH',hU',hT⟩;have hvd:=hw _ _ _ (jR hH' (RO:=fun k=>C'.RO k \/ ∃ nm b,H'.get nm=some b/\C'.β nm=some k) (fun k hk=>.inl hk) (fun nm b k hg hb=>.inr ⟨nm,b,hg,hb⟩) hd x hv);refine⟨x,.d d,[],0,{ U:=fun _=>False,β:=C'.β,RO:=fun k=>C'.RO k \/ ∃ nm b,H'.get nm=some b/\C'.β nm=some k,w:=C'.w },Eq.refl _,Eq.refl _,⟨Eq.refl _,Eq.refl _,Eq.refl _⟩,.d _ _ hvd,
  ⟨fun nm b h=>(by cases h),fun nm nm' b b' k h=>(by cases h),fun k hk=>?_,fun g ds hg=>(hH'.glob g ds hg).mono (fun _ _=>Eq.refl _) fun _ h=>.inl h⟩,fun m hm=>hm.elim,?_⟩
 ·exact qjm
 ·exact qia
end Go.AL
namespace Go.AL
open Go
variable{P:Program}{G:Nat->Option (List D)}{T:Tab}
theorem fB{b S:Nat}{ms:List Nat}{e:List (Nat×AV)}{H:AHeap}{n t:Nat}(hb:b<=n)(ht:lk e t = .d (.sl [] true)):Sub G b ms ⟨e,H,n⟩ ⟨(t,.sl n S 0 0 0 false)::e,(n,some (.arr S []))::H,n+1⟩:=by
 intro k C a hR;have hn:¬ C.U n:=fun h=>by have:=hR.names n h;simp only at this;omega
 obtain⟨C',e1,h1,h2,h3,h4⟩:=gM (S:=S) hR.heap hn;refine⟨C',e1,⟨h1,⟨hR.env.size,fun m=>?_⟩,fun q hq=>?_,fun q hq=>(h2.names q (hR.marks q hq)).1,?_⟩,fun X hX=>h2.weaken fun q hq=>(hX q hq).1⟩
 ·by_cases hm:m=t
  ·subst hm;show O9 C' (lk ((m,_)::e) m) _;rw[ba];have:=hR.env.env m;have this:O9 C (lk e m) (a.tmps.getD m undef):=this;rw[ht]at this;have hd:=bZ this;generalize a.tmps.getD m undef=y at hd;cases hd with
   | sl0 _ ad c ht =>
    have:=ht rfl;subst this;exact .sl0 n S 0 false ad h4
   | sl _ _ b' o' c sz vs hro hc ht hsz hm' hr' =>
    have:=ht rfl;simp at this;subst this;exact .sl0 n S 0 false _ h4
  ·show O9 C' (lk ((t,_)::e) m) _;rw[aV _ _ hm];exact(hR.env.env m).later h2 hR.heap
 ·exact qiq
 ·exact qiy
theorem bB(k m:Nat)(bl:Option Blk)(H:AHeap):AHeap.get ((k,bl)::H) m=if m=k then bl else H.get m:=by
 by_cases h:m=k
 ·subst h;rw[if_pos rfl,ao]
 ·rw[if_neg h,ai _ _ h]
theorem nH{α β:Type}{f:β->Prop}{g:α->β}:∀{l:List α},(∀ a,a∈l->f (g a))->AllP f (l.map g)
 | [],_=>trivial
 | a::_,h=>⟨h a aR,nH fun b hb=>h b (by simp[hb])⟩
theorem zd{n m:Nat}{nm:Nat->Nat}{bl:Nat->Blk}(hinj:∀ i j,i<n->j<n->nm i=nm j->i=j)(hm:m<n):AHeap.get ((List.range n).map fun j=>(nm j,some (bl j))) (nm m)=some (bl m):=by
 have key:∀ l:List Nat,(∀ j,j∈l->j<n)->m∈l->AHeap.get (l.map fun j=>(nm j,some (bl j))) (nm m)=some (bl m):=by
  intro l
  induction l with
  | nil=>intro _ h;cases h
  | cons a l ih =>
   intro hl h;rw[nB,bB];by_cases e:nm m=nm a
   ·rw[if_pos e,hinj m a hm (hl a aR) e]
   ·rw[if_neg e];refine ih (fun j hj=>hl j (by simp[hj])) ?_;rcases jJ.1 h with q|q
    ·subst q;exact absurd rfl e
    ·exact q
 exact key _ (fun j hj=>cJ.1 hj) (cJ.2 hm)
theorem lV{α:Type}{n i:Nat}{f:Nat->α}{v:α}(_h:i<n):((List.range n).map f).set i v=(List.range n).map fun j=>if j=i then v else f j:=by
 apply Hx
 ·exact aR
 ·intro k h1 h2;rw[List.getElem_set];by_cases e:i=k
  ·subst e;simp
  ·rw[if_neg e];simp[Ne.symm e]
theorem dx{α:Type}{n i:Nat}{f:Nat->α}(h:i<n):((List.range n).map f)[i]?=some (f i):=GJ
end Go.AL
namespace Go.AL
open Go
theorem eK{n:Int}(h0:-9223372036854775808<=n)(h1:n<9223372036854775808):IntKind.i64.wrap n=n:=by
 rw[IntKind.wrap_i64];omega
theorem gj{a:Nat}(h:a<2^63):(BitVec.ofInt 64 (a:Int)).toNat=a:=by
 rw[BitVec.toNat_ofInt];omega
theorem Mk:IntKind.i64.bits=64:=rfl
theorem ka{a b:Nat}(ha:a<2^63)(hb:b<2^63):dI .i64 a b=((a &&& b:Nat):Int):=by
 unfold dI;show IntKind.i64.wrap ((BitVec.ofInt 64 a &&& BitVec.ofInt 64 b).toNat:Int)=_;rw[BitVec.toNat_and,gj ha,gj hb];have:a &&& b<=a:=Rc;exact eK qad qad
theorem jF{a b:Nat}(ha:a<2^63)(hb:b<2^63):Cg .i64 a b=((a ||| b:Nat):Int):=by
 unfold Cg;show IntKind.i64.wrap ((BitVec.ofInt 64 a ||| BitVec.ofInt 64 b).toNat:Int)=_;rw[BitVec.toNat_or,gj ha,gj hb];have:a ||| b<2^63:=Nat.or_lt_two_pow ha hb
 exact eK qad qad
theorem ke{a b:Nat}(ha:a<2^63)(hb:b<2^63):uK .i64 a b=((a^^^b:Nat):Int):=by
 unfold uK;show IntKind.i64.wrap ((BitVec.ofInt 64 a^^^BitVec.ofInt 64 b).toNat:Int)=_;rw[BitVec.toNat_xor,gj ha,gj hb];have:a^^^b<2^63:=pn ha hb;exact eK qad qad
theorem Od{a n:Nat}(hn:n<=64):iX .i64 a n=((a >>> n:Nat):Int):=by
 unfold iX;have:min ((n:Int).toNat) IntKind.i64.bits=n:=by rw[Mk,gx];omega
 rw[this,Int.fdiv_eq_ediv_of_nonneg _ (by exact_mod_cast dW _),LL]
 push_cast;rfl
theorem rx{a n:Nat}(hn:n<=64)(h:a*2^n<2^63):cU .i64 a n=((a <<< n:Nat):Int):=by
 unfold cU;have:min ((n:Int).toNat) IntKind.i64.bits=n:=by rw[Mk,gx];omega
 rw[this,wec];have e:(a:Int)*2^n=((a*2^n:Nat):Int):=by push_cast;rfl
 rw[e];exact eK qad qad
theorem cq{n:Nat}(hn:n<=62):cU .i64 1 n=((2^n:Nat):Int):=by
 have h:2^n<2^63:=Fq qaj qad;have:=rx (a:=1) (n:=n) qad (by rw[Nat.one_mul];exact h);rw[wec,Nat.one_mul]at this;exact this
theorem dX{a n:Nat}(hn:n<=64)(ha:a<2^63):dI .i64 (iX .i64 a n) 1=if a.testBit n then 1 else 0:=by
 rw[Od hn];have h1:a >>> n<2^63:=by
  rw[LL];exact JS (Nat.div_le_self _ _) ha
 have:=ka (a:=a >>> n) (b:=1) h1 qaj;rw[show((1:Nat):Int)=1 from rfl]at this;rw[this,Nat.and_one_is_mod];have e:a.testBit n=decide ((a >>> n)%2=1):=by
  rw[Uu,LL]
 rw[e];have:(a >>> n)%2=0\/(a >>> n)%2=1:=qad;rcases this with h|h<;>simp[h]
end Go.AL
namespace Go.AL
open Go
variable{P:Program}{G:Nat->Option (List D)}{T:Tab}
theorem ax(hp:POk P T){n b:Nat}{ms:List Nat}{c:Code}{st:St}{k:Exit->St->Prop}(I:Nat->St)(N:Nat)(Inv:Nat->Prop)(h0:Inv 0)(hs:Sub G b ms st (I 0))(hc:bf n c=true)
  (round:∀(i:Nat) (A:St->Prop),i<N->Inv i->(∀ st',Inv (i+1)->Sub G b ms st' (I (i+1))->A st')->oH np T G (Lx P G) (Ly P G) (QS P G n b ms) c (I i) fun e st'=>pK e st' A k)
  (last:∀(A:St->Prop),Inv N->oH np T G (Lx P G) (Ly P G) (QS P G n b ms) c (I N) fun e st'=>pK e st' A k):P2 P G n b ms c st k:=by
 refine gJ hp (σ:={ i:Nat // i<=N/\Inv i }) (fun s=>I s.1) (fun s=>N-s.1) ⟨0,dW _,h0⟩ hs hc ?_;rintro⟨i,hi,hI⟩;rcases wa1 i N with h|h
 ·refine round i _ h hI fun st' h1 h2=>.mk ⟨i+1,h,h1⟩ h2 (by show N-(i+1)<N-i;omega)
 ·have:i=N:=by omega
  subst this;exact last _ hI
def Fm:List (Nat×Nat)->Nat->Nat
 | [],m=>m
 | (a,b)::l,m=>match Nat.beq a m with
  | true=>b
  | false=>Fm l m
theorem aO{ms:List Nat}{st st':St}(ps:List (Nat×Nat))
  (henv:AllP (fun p:Nat×AV=>lk st.env p.1=p.2.ren (Fm ps)/\p.2.bel st'.nx=true) st'.env)
  (hheap:AllP (fun p:Nat×Option Blk=>p.1<st'.nx /\ ∃ bl,p.2=some bl/\st.heap.get (Fm ps p.1)=some (bl.ren (Fm ps))/\bl.Below st'.nx) st'.heap)
  (hinj:AllP (fun p:Nat×Option Blk=>AllP (fun q:Nat×Option Blk=>Fm ps p.1=Fm ps q.1->p.1=q.1) st'.heap) st'.heap)
  (hms:AllP (fun m=>m<st'.nx/\Fm ps m=m) ms):Sub G 0 ms st st' :=
 pj (Fm ps) (fun m h=>absurd h (Nat.not_lt_zero m)) (dW _) henv hheap hinj hms
theorem zu(ρ:Nat->Nat):∀ l:List D,AV.rens ρ (l.map AV.d)=l.map AV.d
 | []=>rfl
 | d::l=>by simp[AV.rens,AV.ren,zu ρ l]
def ap(sz:Nat)(l:List (List D)):Blk:=.arr sz (l.map fun el=>el.map AV.d)
theorem aE(ρ:Nat->Nat)(sz:Nat)(l:List (List D)):(ap sz l).ren ρ=ap sz l:=by
 unfold ap;simp only[Blk.ren,pU];congr 1;exact xX fun el _=>zu ρ el
theorem yP(k:Nat):∀ l:List D,AV.bels k (l.map AV.d)=true
 | []=>rfl
 | d::l=>by simp[AV.bels,AV.bel,yP k l]
theorem aj(k sz:Nat)(l:List (List D)):(ap sz l).Below k:=by
 intro el h;obtain⟨q,_,rfl⟩:=bm.1 h;exact yP k q
theorem au{k sz:Nat}{els:List (List AV)}(h:els.all (fun el=>AV.bels k el)=true):(Blk.arr sz els).Below k:=by
 intro el he;exact lh.1 h el he
theorem aw{h:AHeap}{nm nm' sz:Nat}{l:List (List D)}{ρ:Nat->Nat}(e:ρ nm=nm')(hg:h.get nm'=some (ap sz l)):h.get (ρ nm)=some ((ap sz l).ren ρ):=by
 rw[e,aE];exact hg
theorem ak{a b:Nat}(h:a+b<2^63):aD .i64 a b=((a+b:Nat):Int):=by
 unfold aD;rw[eK qad qad];push_cast;rfl
theorem iY{a b:Nat}(hb:b<=a)(h:a<2^63):cO .i64 a b=((a-b:Nat):Int):=by
 unfold cO;rw[eK qad qad];omega
theorem fk{a b:Nat}(h:a*b<2^63):fH .i64 a b=((a*b:Nat):Int):=by
 unfold fH;have e:(a:Int)*b=((a*b:Nat):Int):=by push_cast;rfl
 rw[e];exact eK qad qad
theorem UL(x n:Int):dI .i64 (iX .i64 x n) 1=0\/dI .i64 (iX .i64 x n) 1=1:=by
 unfold dI;generalize iX .i64 x n=y;have h:(BitVec.ofInt 64 y &&& BitVec.ofInt 64 1).toNat=0\/(BitVec.ofInt 64 y &&& BitVec.ofInt 64 1).toNat=1:=by
  rw[BitVec.toNat_and];have:(BitVec.ofInt 64 1).toNat=1:=rfl;rw[this,Nat.and_one_is_mod];omega
 show IntKind.i64.wrap ((BitVec.ofInt 64 y &&& BitVec.ofInt 64 1).toNat:Int)=0\/IntKind.i64.wrap ((BitVec.ofInt 64 y &&& BitVec.ofInt 64 1).toNat:Int)=1;rcases h with h|h<;>rw[h]
 ·exact .inl rfl
 ·exact .inr rfl
end Go.AL
namespace Go.AL
open Go
variable{P:Program}{G:Nat->Option (List D)}{T:Tab}
structure PO (P:Program) (G:Nat->Option (List D)) (f:FuncId) (ds:List D) (v:AV) (N:AHeap) (n:Nat):Prop where
 fn:jw P f
 call:bq P G f (ds.map .d) [] 0 fun v' N' n'=>v'=v/\N'=N/\n'=n
theorem aY{f:FuncId}{ds:List D}{v:AV}{N:AHeap}{n:Nat}{H:AHeap}{nx:Nat}{k:AV->AHeap->Nat->Prop}(h:PO P G f ds v N n)(hk:k (v.ren (· + nx)) (N.shift nx++H) (nx+n)):P3 P G f (ds.map .d) H nx k:=by
 refine⟨h.fn,fc h.call ?_⟩;rintro v' N' m ⟨rfl,rfl,rfl⟩;exact hk
theorem aZ{f:FuncId}{ds:List D}{v:AV}{N:AHeap}{n:Nat}{k:AV->AHeap->Nat->Prop}(h:PO P G f ds v N n)(hk:k v N n):Q3 P G f ds k:=⟨v,N,n,h.fn,h.call,hk⟩
theorem iv{C:Ctx}{H H':AHeap}(h:P0 G C H)(hs:∀ nm b,H'.get nm=some b->H.get nm=some b):P0 G C H' :=
 ⟨fun nm b hg=>h.blk nm b (hs nm b hg),fun nm nm' b b' k h1 h2=>h.inj nm nm' b b' k (hs _ _ h1) (hs _ _ h2),h.ro,h.glob⟩
theorem Qj{X:Nat->Prop}{C C':Ctx}{H H' H2:AHeap}(h:Tr X C H' C' H2)(hs:∀ nm b,H'.get nm=some b->H.get nm=some b):Tr X C H C' H2 :=
 {
  os:=h.os,tape:=h.tape,output:=h.output,size:=h.size,shape:=h.shape,frame:=fun k hk hn=>h.frame k hk fun nm b hg=>hn nm b (hs nm b hg),names:=h.names,ros:=h.ros,
  img:=fun nm b k h1 h2 h3=>by obtain⟨nm0,b0,q1,q2⟩:=h.img nm b k h1 h2 h3;exact⟨nm0,b0,hs _ _ q1,q2⟩,
  rob:=fun k h1 h2=>by
   rcases h.rob k h1 h2 with q|⟨nm0,b0,q1,q2⟩
   ·exact .inl q
   ·exact .inr ⟨nm0,b0,hs _ _ q1,q2⟩ }
theorem Fv{f:FuncId}{args:List AV}{H H':AHeap}{nx:Nat}{K:AV->AHeap->Nat->Prop}(h:bq P G f args H' nx K)(hs:∀ nm b,H'.get nm=some b->H.get nm=some b):bq P G f args H nx K:=by
 intro C vs hH hU hl hr;refine(h C vs (iv hH hs) hU hl hr).mono ?_;rintro e w' ⟨x,v,H2,n,C',q1,q2,q3,q4,q5,q6,q7⟩;exact⟨x,v,H2,n,C',q1,q2,q3,q4,q5,q6,Qj q7 hs⟩
theorem oS{C:Ctx}{H:AHeap}{nm:Nat}{b b':Blk}(h:P0 G C H)(hg:H.get nm=some b)(hb:iL C nm b'):P0 G C ((nm,some b')::H):=by
 have key:∀ m bl,AHeap.get ((nm,some b')::H) m=some bl->C.U m/\iL C m bl /\ ∃ bl0,H.get m=some bl0:=fun m bl hm=>by
  by_cases e:m=nm
  ·subst e;rw[ao]at hm;cases hm;exact⟨(h.blk _ _ hg).1,hb,_,hg⟩
  ·rw[ai _ _ e]at hm;exact⟨(h.blk m bl hm).1,(h.blk m bl hm).2,_,hm⟩
 refine⟨fun m bl hm=>⟨(key m bl hm).1,(key m bl hm).2.1⟩,fun m m' bl bl' k h1 h2 h3 h4=>?_,h.ro,h.glob⟩;obtain⟨_,_,b0,g0⟩:=key m bl h1;obtain⟨_,_,b1,g1⟩:=key m' bl' h2;exact h.inj m m' b0 b1 k g0 g1 h3 h4
theorem EF{b S:Nat}{ms:List Nat}{e:List (Nat×AV)}{H:AHeap}{n nm:Nat}(hb:b<=n)(hg:H.get nm=some (.arr 1 [[.d (.sl [] true)]])):Sub G b ms ⟨e,H,n⟩ ⟨e,(nm,some (.arr 1 [[.sl n S 0 0 0 false]]))::(n,some (.arr S []))::H,n+1⟩:=by
 intro k C a hR;have hn:¬ C.U n:=fun h=>by have:=hR.names n h;simp only at this;omega
 obtain⟨C',e1,h1,h2,h3,h4⟩:=gM (S:=S) hR.heap hn;have hnm:nm≠n:=fun e=>by subst e;exact hn (hR.heap.blk _ _ hg).1
 have hg':AHeap.get ((n,some (.arr S []))::H) nm=some (.arr 1 [[.d (.sl [] true)]]):=qex;have hb':iL C' nm (.arr 1 [[.sl n S 0 0 0 false]]):=by
  rcases (h1.blk _ _ hg').2 with⟨_,q⟩|⟨k',cs,ty,g1,g2,g3,g4,g5,g6⟩
  ·cases q
  ·refine .inr ⟨k',cs,ty,g1,g2,g3,g4,fun el hel=>?_,fun i j el v a1 a2=>?_⟩
   ·exact qe6
   ·match i,j,a1,a2 with
    | 0,0,a1,a2 =>
     simp at a1;subst a1;simp at a2;subst a2;obtain⟨x,x1,x2⟩:=g6 0 0 [.d (.sl [] true)] (.d (.sl [] true)) rfl rfl;refine⟨x,x1,?_⟩;have hd:=bZ x2;cases hd with
     | sl0 _ ad c ht =>
      have:=ht rfl;subst this;exact .sl0 n S 0 false ad h4
     | sl _ _ b' o' c sz vs hro hc ht hsz hm' hr' =>
      have:=ht rfl;simp at this;subst this;exact .sl0 n S 0 false _ h4
    | 0,j+1,a1,a2=>simp at a1;subst a1;simp at a2
    | i+1,_,a1,_=>simp at a1
 refine⟨C',e1,⟨oS h1 hg' hb',⟨hR.env.size,fun m=>?_⟩,fun q hq=>?_,fun q hq=>(h2.names q (hR.marks q hq)).1,?_⟩,fun X hX=>?_⟩
 ·exact qgy
 ·exact qiq
 ·exact qiy
 ·exact qh5
theorem aI{b:Nat}{ms:List Nat}{st st':St}(ps:List (Nat×Nat))(hρ:((List.range b).all fun m=>Nat.beq (Fm ps m) m)=true)(hbn:Nat.ble b st'.nx=true)
  (henv:AllP (fun p:Nat×AV=>lk st.env p.1=p.2.ren (Fm ps)/\p.2.bel st'.nx=true) st'.env)
  (hheap:AllP (fun p:Nat×Option Blk=>p.1<st'.nx /\ ∃ bl,p.2=some bl/\st.heap.get (Fm ps p.1)=some (bl.ren (Fm ps))/\bl.Below st'.nx) st'.heap)
  (hinj:AllP (fun p:Nat×Option Blk=>AllP (fun q:Nat×Option Blk=>Fm ps p.1=Fm ps q.1->p.1=q.1) st'.heap) st'.heap)
  (hms:AllP (fun m=>m<st'.nx/\Fm ps m=m) ms):Sub G b ms st st' :=
 pj (Fm ps) (fun m h=>waf (lh.1 hρ m (cJ.2 h))) (nA hbn) henv hheap hinj hms
end Go.AL
namespace Go.AL
open Go
variable{P:Program}{G:Nat->Option (List D)}{T:Tab}
theorem EE{bb:Nat}{ms:List Nat}{e:List (Nat×AV)}{H:AHeap}{n b nm sz N:Nat}{es:List (List D)}{a:D}{t:Bool}(hg:H.get nm=some (ap sz es))(hb:H.get b=some (.arr 2 [[.d a,.sl nm sz 0 N N t]]))(hN:N=es.length)(hne:b≠nm) :
  Sub G bb ms ⟨e,H,n⟩ ⟨e,(b,some (.arr 2 [[.d a,.d (.sl es t)]]))::gF [nm] H,n⟩:=by
 intro k C ac hR;obtain⟨C',w',u',b',g,tt,r,q⟩:=gH [nm] hR.heap;have hgb:AHeap.get (gF [nm] H) b=some (.arr 2 [[.d a,.sl nm sz 0 N N t]]):=by
  show(AHeap.del H nm).get b=_;rw[dD,if_neg hne];exact hb
 have hAs:AsD H (.sl nm sz 0 N N t) (.sl es t):=by
  subst hN;have:=dt (lo:=0) (len:=es.length) (room:=es.length) (t:=t) hg aR;simpa using this
 have hHL:P0 G C [(nm,some (ap sz es))]:=iv hR.heap fun m bl h=>by
  by_cases em:m=nm
  ·subst em;rw[ao]at h;rw[hg,<- h]
  ·exact qhd
 have hAs':AsD [(nm,some (ap sz es))] (.sl nm sz 0 N N t) (.sl es t):=by
  subst hN;have:=dt (H:=[(nm,some (ap sz es))]) (lo:=0) (len:=es.length) (room:=es.length) (t:=t) (ao nm _ []) aR;simpa using this
 have hcell:∀ x,O9 C (.sl nm sz 0 N N t) x->P1 C'.w C'.RO (.sl es t) x:=fun x hx=>by
  have:=jR hHL (RO:=C'.RO) r (fun m bl j h1 h2=>by
   by_cases em:m=nm
   ·subst em;exact q m _ j aR hg h2
   ·rw[ai _ _ em]at h1;cases h1) hAs' x hx
  rw[w'];exact this
 have hb':iL C' b (.arr 2 [[.d a,.d (.sl es t)]]):=by
  rcases (g.blk _ _ hgb).2 with⟨_,h⟩|⟨k',cs,ty,g1,g2,g3,g4,g5,g6⟩
  ·cases h
  ·refine .inr ⟨k',cs,ty,g1,g2,g3,g4,fun el hel=>?_,fun i j el v a1 a2=>?_⟩
   ·exact qe6
   ·match i,j,a1,a2 with
    | 0,0,a1,a2 =>
     simp at a1;subst a1;simp at a2;subst a2;exact g6 0 0 _ _ rfl rfl
    | 0,1,a1,a2 =>
     simp at a1;subst a1;simp at a2;subst a2;obtain⟨x,x1,x2⟩:=g6 0 1 _ _ rfl rfl;refine⟨x,x1,.d _ _ ?_⟩;have hgb2:=hR.heap.blk b _ hb;rcases hgb2.2 with⟨_,h⟩|⟨k2,cs2,ty2,f1,f2,f3,f4,f5,f6⟩
     ·cases h
     ·obtain⟨y,y1,y2⟩:=f6 0 1 _ _ rfl rfl;rw[b']at g1;rw[f1]at g1;cases g1;rw[w',f2]at g2;cases g2;rw[y1]at x1;cases x1;exact hcell _ y2
    | 0,j+2,a1,a2=>simp at a1;subst a1;simp at a2
    | i+1,_,a1,_=>simp at a1
 refine⟨C',w',⟨oS g hgb hb',⟨hR.env.size,fun m=>?_⟩,fun m hm=>?_,fun m hm=>?_,?_⟩,fun X hX=>?_⟩
 ·exact(hR.env.env m).later tt hR.heap
 ·rw[u']at hm;exact hR.names m hm
 ·rw[u'];exact hR.marks m hm
 ·rw[hR.defers];exact(eo tt hR.marks).symm
 ·have h5:=tt.weaken (Y:=X) fun m hm=>(hX m hm).1;refine{ os:=h5.os,tape:=h5.tape,output:=h5.output,size:=h5.size,shape:=h5.shape,frame:=h5.frame,names:=h5.names,ros:=h5.ros,img:=fun m bl k h1 h6 h7=>?_,rob:=h5.rob };by_cases em:m=b
  ·subst em;exact h5.img m _ k hgb h6 h7
  ·simp only at h1;rw[ai _ _ em]at h1;exact h5.img m bl k h1 h6 h7
end Go.AL
namespace Go.AL
open Go
variable{P:Program}{G:Nat->Option (List D)}{T:Tab}
theorem tI{b S:Nat}{ms:List Nat}{e:List (Nat×AV)}{H:AHeap}{n nm:Nat}{d0:D}(hb:b<=n)(hg:H.get nm=some (.arr 2 [[.d d0,.d (.sl [] true)]])):Sub G b ms ⟨e,H,n⟩ ⟨e,(nm,some (.arr 2 [[.d d0,.sl n S 0 0 0 false]]))::(n,some (.arr S []))::H,n+1⟩:=by
 intro k C a hR;have hn:¬ C.U n:=fun h=>by have:=hR.names n h;simp only at this;omega
 obtain⟨C',e1,h1,h2,h3,h4⟩:=gM (S:=S) hR.heap hn;have hnm:nm≠n:=fun e=>by subst e;exact hn (hR.heap.blk _ _ hg).1
 have hg':AHeap.get ((n,some (.arr S []))::H) nm=some (.arr 2 [[.d d0,.d (.sl [] true)]]):=qex;have hb':iL C' nm (.arr 2 [[.d d0,.sl n S 0 0 0 false]]):=by
  rcases (h1.blk _ _ hg').2 with⟨_,q⟩|⟨k',cs,ty,g1,g2,g3,g4,g5,g6⟩
  ·cases q
  ·refine .inr ⟨k',cs,ty,g1,g2,g3,g4,fun el hel=>?_,fun i j el v a1 a2=>?_⟩
   ·exact qe6
   ·match i,j,a1,a2 with
    | 0,0,a1,a2 =>
     simp at a1;subst a1;simp at a2;subst a2;exact g6 0 0 _ _ rfl rfl
    | 0,1,a1,a2 =>
     simp at a1;subst a1;simp at a2;subst a2;obtain⟨x,x1,x2⟩:=g6 0 1 _ (.d (.sl [] true)) rfl rfl;refine⟨x,x1,?_⟩;have hd:=bZ x2;cases hd with
     | sl0 _ ad c ht =>
      have:=ht rfl;subst this;exact .sl0 n S 0 false ad h4
     | sl _ _ b' o' c sz vs hro hc ht hsz hm' hr' =>
      have:=ht rfl;simp at this;subst this;exact .sl0 n S 0 false _ h4
    | 0,j+2,a1,a2=>simp at a1;subst a1;simp at a2
    | i+1,_,a1,_=>simp at a1
 refine⟨C',e1,⟨oS h1 hg' hb',⟨hR.env.size,fun m=>?_⟩,fun q hq=>?_,fun q hq=>(h2.names q (hR.marks q hq)).1,?_⟩,fun X hX=>?_⟩
 ·exact qgy
 ·exact qiq
 ·exact qiy
 ·exact qh5
end Go.AL
namespace Go.AL
open Go
variable{P:Program}{G:Nat->Option (List D)}{T:Tab}
theorem KX{b S:Nat}{ms:List Nat}{e:List (Nat×AV)}{H:AHeap}{n nm:Nat}{d0 d1:D}(hb:b<=n)(hg:H.get nm=some (.arr 3 [[.d d0,.d d1,.d (.sl [] true)]])):Sub G b ms ⟨e,H,n⟩ ⟨e,(nm,some (.arr 3 [[.d d0,.d d1,.sl n S 0 0 0 false]]))::(n,some (.arr S []))::H,n+1⟩:=by
 intro k C a hR;have hn:¬ C.U n:=fun h=>by have:=hR.names n h;simp only at this;omega
 obtain⟨C',e1,h1,h2,h3,h4⟩:=gM (S:=S) hR.heap hn;have hnm:nm≠n:=fun e=>by subst e;exact hn (hR.heap.blk _ _ hg).1
 have hg':AHeap.get ((n,some (.arr S []))::H) nm=some (.arr 3 [[.d d0,.d d1,.d (.sl [] true)]]):=qex;have hb':iL C' nm (.arr 3 [[.d d0,.d d1,.sl n S 0 0 0 false]]):=by
  rcases (h1.blk _ _ hg').2 with⟨_,q⟩|⟨k',cs,ty,g1,g2,g3,g4,g5,g6⟩
  ·cases q
  ·refine .inr ⟨k',cs,ty,g1,g2,g3,g4,fun el hel=>?_,fun i j el v a1 a2=>?_⟩
   ·exact qe6
   ·match i,j,a1,a2 with
    | 0,0,a1,a2 =>
     simp at a1;subst a1;simp at a2;subst a2;exact g6 0 0 _ _ rfl rfl
    | 0,1,a1,a2 =>
     simp at a1;subst a1;simp at a2;subst a2;exact g6 0 1 _ _ rfl rfl
    | 0,2,a1,a2 =>
     simp at a1;subst a1;simp at a2;subst a2;obtain⟨x,x1,x2⟩:=g6 0 2 _ (.d (.sl [] true)) rfl rfl;refine⟨x,x1,?_⟩;have hd:=bZ x2;cases hd with
     | sl0 _ ad c ht =>
      have:=ht rfl;subst this;exact .sl0 n S 0 false ad h4
     | sl _ _ b' o' c sz vs hro hc ht hsz hm' hr' =>
      have:=ht rfl;simp at this;subst this;exact .sl0 n S 0 false _ h4
    | 0,j+3,a1,a2=>simp at a1;subst a1;simp at a2
    | i+1,_,a1,_=>simp at a1
 refine⟨C',e1,⟨oS h1 hg' hb',⟨hR.env.size,fun m=>?_⟩,fun q hq=>?_,fun q hq=>(h2.names q (hR.marks q hq)).1,?_⟩,fun X hX=>?_⟩
 ·exact qgy
 ·exact qiq
 ·exact qiy
 ·exact qh5
end Go.AL
namespace Go.AL
open Go
variable{P:Program}{G:Nat->Option (List D)}{T:Tab}
theorem iO{f:FuncId}{args:List AV}{H0 H:AHeap}{n0 nx:Nat}{K0 K:AV->AHeap->Nat->Prop}(h:bq P G f args H0 n0 K0)(hn:nx<=n0)(hs:∀ nm b,H0.get nm=some b->H.get nm=some b)
  (hK:∀ v H1 n,K0 v H1 n->∃ H2,(∀ nm b,AHeap.get H2 nm=some b->H1.get nm=some b\/(H0.get nm=none/\H.get nm=some b))/\K v H2 n):bq P G f args H nx K:=by
 intro C vs hH hU hl hr;have hH0:P0 G C H0:=iv hH hs;refine(h C vs hH0 (fun m hm=>uU (hU m hm) hn) hl hr).mono ?_;rintro e w' ⟨x,v,H1,n,C',rfl,rfl,hk,hv,h1,hU',hT⟩;obtain⟨H2,h2,hk2⟩:=hK v H1 n hk;have apart:∀ nm b k,H0.get nm=none->H.get nm=some b->C.β nm=some k->∀ nm0 b0,H0.get nm0=some b0->C.β nm0≠some k:=by
  intro nm b k g1 g2 g3 nm0 b0 g4 g5;have:=hH.inj _ _ _ _ k g2 (hs _ _ g4) g3 g5;subst this;rw[g1]at g4;cases g4
 have rest:∀ nm b,H0.get nm=none->H.get nm=some b->C'.U nm/\C'.β nm=C.β nm/\iL C' nm b:=by
  intro nm b g1 g2;obtain⟨u1,u2⟩:=hH.blk nm b g2;obtain⟨n1,n2⟩:=hT.names nm u1;refine⟨n1,n2,eD hH0 hT u1 u2 fun k hk=>?_⟩;have hlt:=gD u2 hk;refine⟨hT.frame k hlt (apart nm b k g1 g2 hk),fun hro=>?_⟩;rcases hT.rob k hro hlt with q|⟨nm0,b0,q1,q2⟩
  ·exact hH.ro_apart q nm b g2 hk
  ·exact apart nm b k g1 g2 hk nm0 b0 q1 q2
 refine⟨x,v,H2,n,C',rfl,rfl,hk2,hv,⟨fun nm b hg=>?_,fun nm nm' b b' k g1 g2 g3 g4=>?_,h1.ro,h1.glob⟩,hU',?_⟩
 ·rcases h2 nm b hg with q|⟨q1,q2⟩
  ·exact h1.blk nm b q
  ·obtain⟨a1,_,a3⟩:=rest nm b q1 q2;exact⟨a1,a3⟩
 ·have mix:∀{nm nm':Nat} {b b':Blk},H1.get nm=some b->H0.get nm'=none->H.get nm'=some b'->C'.β nm=some k->C'.β nm'=some k->False:=by
   intro nm nm' b b' q1 q2 q3 q4 q5;obtain⟨_,a2,_⟩:=rest nm' b' q2 q3;rw[a2]at q5;have hlt:=gD (hH.blk nm' b' q3).2 q5;obtain⟨nm0,b0,c1,c2⟩:=hT.img nm b k q1 q4 hlt;exact apart nm' b' k q2 q3 q5 nm0 b0 c1 c2
  rcases h2 nm b g1 with q|⟨q1,q2⟩
  ·rcases h2 nm' b' g2 with r|⟨r1,r2⟩
   ·exact h1.inj _ _ _ _ k q r g3 g4
   ·exact(mix q r1 r2 g3 g4).elim
  ·rcases h2 nm' b' g2 with r|⟨r1,r2⟩
   ·exact(mix r q1 q2 g4 g3).elim
   ·rw[(rest nm b q1 q2).2.1]at g3;rw[(rest nm' b' r1 r2).2.1]at g4;exact hH.inj _ _ _ _ k q2 r2 g3 g4
 ·exact{
      os:=hT.os,tape:=hT.tape,output:=hT.output,size:=hT.size,shape:=hT.shape,
      frame:=fun k hk hn=>hT.frame k hk fun nm b hb=>hn nm b (hs nm b hb),names:=hT.names,ros:=hT.ros,
      img:=fun nm b k q1 q2 q3=>by
       rcases h2 nm b q1 with q|⟨r1,r2⟩
       ·obtain⟨nm0,b0,c1,c2⟩:=hT.img nm b k q q2 q3;exact⟨nm0,b0,hs _ _ c1,c2⟩
       ·rw[(rest nm b r1 r2).2.1]at q2;exact⟨nm,b,r2,q2⟩,
      rob:=fun k q1 q2=>by
       rcases hT.rob k q1 q2 with q|⟨nm0,b0,c1,c2⟩
       ·exact .inl q
       ·exact .inr ⟨nm0,b0,hs _ _ c1,c2⟩ }
end Go.AL
