import Derived.Test.YtehjjpbpdfnnfaaGreatDoorM00
import Derived.Test.YtehjjpbpdfnnfaaGreatDoorM02
import Derived.Laws.BitsLemmas
import Derived.Laws.Cover3
import Derived.RangeFuncRecord
namespace Go.AL
open Go
variable{G:Nat->Option (List D)}{P:Program}{st:St}{o:Oper}
variable{M:Om}{hd:M.W->Prop}{T:Tab}
def AHeap.del:AHeap->Nat->AHeap
 | [],_=>[]
 | (k,b)::r,n=>match Nat.beq k n with
  | true=>AHeap.del r n
  | false=>(k,b)::AHeap.del r n
def AHeap.put(H:AHeap)(nm:Nat)(b:Blk):AHeap:=(nm,some b)::AHeap.del H nm
theorem za8:∀(H:AHeap) (nm m:Nat),(H.del nm).get m=if m=nm then none else H.get m
 | [],nm,m=>by simp[AHeap.del,AHeap.get]
 | (k,b)::r,nm,m=>by
  unfold AHeap.del
  split
  ·rename_i e
   have e:=Nat.eq_of_beq_eq_true e
   subst e
   rw[za8 r k m]
   by_cases h:m=k
   ·exact qec
   ·rw[if_neg h,if_neg h,zad _ _ h]
  ·rename_i e
   have hne:k≠nm:=fun h=>by subst h;simp at e
   by_cases h:m=k
   ·subst h;rw[zaf,zaf,if_neg hne]
   ·rw[zad _ _ h,zad _ _ h,za8 r nm m]
theorem zgd(H:AHeap)(nm:Nat)(b:Blk)(m:Nat):(H.put nm b).get m=AHeap.get ((nm,some b)::H) m:=by
 unfold AHeap.put
 by_cases h:m=nm
 ·subst h;rw[zaf,zaf]
 ·rw[zad _ _ h,zad _ _ h,za8,if_neg h]
theorem StepOp.congr{v:AV}{H' H'':AHeap}{N:Nat->Prop}(h:StepOp G P st o v H' N)(he:∀ nm,H''.get nm=H'.get nm):StepOp G P st o v H'' N:=by
 intro C a hH hop hn
 obtain⟨C',r,h1,h2,h3,h4,h5⟩:=h C a hH hop hn
 exact⟨C',r,h1,h2,h3.anti fun nm bl h=>by rw[<- he];exact h,h4.anti fun nm bl h=>by rw[<- he];exact h,h5⟩
theorem StepOp.anti{v:AV}{H' H'':AHeap}{N:Nat->Prop}(h:StepOp G P st o v H' N)(he:∀ nm bl,H''.get nm=some bl->H'.get nm=some bl):StepOp G P st o v H'' N:=by
 intro C a hH hop hn
 obtain⟨C',r,h1,h2,h3,h4,h5⟩:=h C a hH hop hn
 exact⟨C',r,h1,h2,h3.anti he,h4.anti he,h5⟩
theorem StepOp.names{v:AV}{H':AHeap}{N N':Nat->Prop}(h:StepOp G P st o v H' N)(he:∀ nm,N nm->N' nm):StepOp G P st o v H' N':=by
 intro C a hH hop hn
 obtain⟨C',r,h1,h2,h3,h4,h5⟩:=h C a hH hop (fun m hm=>hn m (he m hm))
 exact⟨C',r,h1,h2,h3,h4,fun m hm=>(h5 m hm).imp id (he m)⟩
theorem Els.ext{H H2:AHeap}{S:Nat}{v:AV}{ys:List (List AV)}(h:Els H S v ys)(hE:Ext H H2):Els H2 S v ys:=by
 cases h with
 | sl nm lo' len room t els hh hf=>exact .sl nm lo' len room t els (hE _ _ hh) hf
 | d es t h=>exact .d es t h
def vEls(M:Om)(H:AHeap)(S:Nat)(v:AV)(k:List (List AV)->M.W):M.W:=match v with
 | .sl nm sz lo len _ _=>match H.get nm with
  | some (.arr sz' els)=>match Nat.beq sz S,Nat.beq sz' S with
   | true,true=>M.chk (lo+len<=els.length) (M.shl ((els.drop lo).take len) k)
   | _,_=>M.bad
  | _=>M.bad
 | .d (.sl es _)=>M.chk (∀ el,el∈es->el.length=S) (M.shl (es.map (·.map .d)) k)
 | _=>M.bad
theorem zje(ok:OmOk M hd){H H2:AHeap}{S:Nat}{v:AV}{k:List (List AV)->M.W}(h:hd (vEls M H S v k))(hE:Ext H H2):∃ ys,hd (k ys)/\Els H2 S v ys:=by
 unfold vEls at h
 split at h
 ·split at h
  ·rename_i sz' els hh
   split at h
   ·rename_i e1 e2
    have e1:=Nat.eq_of_beq_eq_true e1
    have e2:=Nat.eq_of_beq_eq_true e2
    subst e1 e2
    obtain⟨h1,h2⟩:=ok.h_chk h
    exact⟨_,ok.h_shl h2,.sl _ _ _ _ _ _ (hE _ _ hh) h1⟩
   ·exact qal
  ·exact qal
 ·obtain⟨h1,h2⟩:=ok.h_chk h
  exact⟨_,ok.h_shl h2,.d _ _ h1⟩
 ·exact qal
def chunk{α:Type}(S:Nat):Nat->List α->List (List α)
 | 0,_=>[]
 | n+1,l=>l.take S::chunk S n (l.drop S)
theorem zi1{α:Type}(S:Nat):∀(n:Nat) (l:List α),l.length=n*S->(chunk S n l).flatten=l/\(chunk S n l).length=n /\ ∀ el,el∈chunk S n l->el.length=S
 | 0,l,h=>by
  have:l=[]:=List.eq_nil_of_length_eq_zero qad
  subst this;simp[chunk]
 | n+1,l,h=>by
  have hS:S<=l.length:=by rw[h,Nat.succ_mul];omega
  obtain⟨h1,h2,h3⟩:=zi1 S n (l.drop S) (by simp[h,Nat.succ_mul])
  refine⟨by simp[chunk,h1],by simp[chunk,h2],fun el hel=>?_⟩
  simp only[chunk,List.mem_cons]at hel
  rcases hel with rfl|hel
  ·exact qbo
  ·exact h3 el hel
def vAdd(M:Om)(T:Tab)(G:Nat->Option (List D))(st:St)(lo:Nat)(o:Oper)(k:AV->AHeap->Nat->M.W):M.W:=match o.op with
 | .box t x=>match T.get t,(st.ev G x).known with
  | some ⟨_,S,_,_,_⟩,true=>forceL (st.ev G x).cells fun c=>match Nat.beq c.length S with
   | true=>k (.ptr lo S 0 0) [(lo,some (.arr S [c]))] 1
   | false=>M.bad
  | _,_=>M.bad
 | .alloc t=>match T.get t with
  | some ⟨_,S,_,z,_⟩=>match (AV.d z).known with
   | true=>forceL (AV.d z).cells fun c=>match Nat.beq c.length S with
    | true=>k (.ptr lo S 0 0) [(lo,some (.arr S [c]))] 1
    | false=>M.bad
   | false=>M.bad
  | none=>M.bad
 | .makeSlice t x y=>match T.get t,st.ev G x,st.ev G y with
  | some ⟨_,_,_,_,.sl e⟩,.d (.int _ i),.d (.int _ j)=>match T.get e with
   | some ty=>match (AV.d ty.z).known with
    | true=>forceL (AV.d ty.z).cells fun c=>M.chk (0<=i/\i=j/\ty.B*i.toNat<=281474976710656/\0<ty.B/\0<ty.S) (M.shl (List.replicate i.toNat c) fun els=>k (.sl lo ty.S 0 i.toNat i.toNat true) [(lo,some (.arr ty.S els))] 1)
    | false=>M.bad
   | none=>M.bad
  | _,_,_=>M.bad
 | .buildSlice t len ps=>match T.get t with
  | some ⟨_,_,_,_,.sl e⟩=>match T.get e with
   | some ty=>match (AV.d ty.z).known,fillA ((List.range len).map fun i=>(i*ty.S,ty.S)) (List.replicate len (AV.d ty.z).cells).flatten (ps.toList.map fun p=>(p.1,st.ev G p.2)) with
    | true,some fl=>forceL fl fun fl=>match Nat.beq fl.length (len*ty.S),Nat.ble (len*ty.S) 16777216 with
     | true,true=>M.shl (chunk ty.S len fl) fun els=>k (.sl lo ty.S 0 len len true) [(lo,some (.arr ty.S els))] 1
     | _,_=>M.bad
    | _,_=>M.bad
   | none=>M.bad
  | _=>M.bad
 | .call { callee:=.builtin .append,args:=⟨[x,y]⟩,argTypes:=⟨[t,t2]⟩ }=>match T.get t,T.get t2 with
  | some ⟨_,_,_,_,.sl e⟩,some ⟨_,_,_,_,.sl _⟩=>match T.get e with
   | some ty=>match st.ev G x with
    | .d (.sl es tg)=>match tg with
     | true=>vEls M st.heap ty.S (st.ev G y) fun ys=>M.chk ((∀ el,el∈es->el.length=ty.S)/\(ys.length≠0\/es.length=0)/\0<ty.B/\(2*(es.length+ys.length)+192)*ty.B<=281474976710656)
      (M.shl (es.map (·.map .d)++ys) fun els=>k (.sl lo ty.S 0 (es.length+ys.length) (es.length+ys.length) false) [(lo,some (.arr ty.S els))] 1)
     | false=>M.bad
    | _=>M.bad
   | none=>M.bad
  | _,_=>M.bad
 | .makeMap _ none=>k (.map lo) [(lo,some (.map []))] 1
 | _=>M.bad
theorem zm8(ok:OmOk M hd){lo:Nat}{k:AV->AHeap->Nat->M.W}(hT:TabOk P T)(h:hd (vAdd M T G st lo o k)) :
  ∃ v N n,hd (k v N n)/\(∀ p,p∈N->lo<=p.1/\p.1<lo+n) /\ ∀ H2,Ext st.heap H2->StepOp G P { st with heap:=H2 } o v (N++H2) (fun m=>lo<=m/\m<lo+n):=by
 have hev:∀(H2:AHeap) x,st.ev G x=St.ev G { st with heap:=H2 } x:=fun H2 x=>ev_env rfl x
 have nm1:∀ m,m=lo->lo<=m/\m<lo+1:=fun m h=>by omega
 have one:∀ b:Blk,∀ p,p∈[(lo,some b)]->lo<=p.1/\p.1<lo+1:=fun b p hp=>by simp at hp;subst hp;exact⟨Nat.le_refl _,Nat.lt_succ_self _⟩
 unfold vAdd at h
 split at h
 ·rename_i t x ho
  split at h
  ·rename_i q0 S q1 q2 q3 hg hk
   rw[za2]at h
   split at h
   ·rename_i hl
    have hl:=Nat.eq_of_beq_eq_true hl
    rw[<- hl]at h
    exact⟨_,_,_,h,one _,fun H2 _=>(step_box (st:={ st with heap:=H2 }) ho (hev H2 x).symm hk).names nm1⟩
   ·exact qal
  ·exact qal
 ·rename_i t ho
  split at h
  ·rename_i q0 S q1 z q3 hg
   split at h
   ·rename_i hk
    rw[za2]at h
    split at h
    ·rename_i hl
     have hl:=Nat.eq_of_beq_eq_true hl
     have h2:hd (k (.ptr lo (AV.d z).cells.length 0 0) [(lo,some (.arr (AV.d z).cells.length [(AV.d z).cells]))] 1):=by rw[hl];exact h
     exact⟨_,_,_,h2,one _,fun H2 _=>(znd (st:={ st with heap:=H2 }) ho (hT.get hg).1 rfl hk).names nm1⟩
    ·exact qal
   ·exact qal
  ·exact qal
 ·rename_i t x y ho
  split at h
  ·rename_i e _ i _ j hg hx hy
   split at h
   ·rename_i ty he
    have hTS:TSlice P t e ty.S ty.B ty.z:=⟨(hT.get hg).2,(hT.get he).1⟩
    split at h
    ·rename_i hk
     rw[za2]at h
     obtain⟨⟨a1,a2,a3,a4,a5⟩,h3⟩:=ok.h_chk h
     have h3:=ok.h_shl h3
     clear h
     obtain⟨n,rfl⟩:=Int.eq_ofNat_of_zero_le a1
     subst a2
     simp only[Int.toNat_natCast]at h3 a3
     exact⟨_,_,_,h3,one _,fun H2 _=>(zm0 (st:={ st with heap:=H2 }) ho hTS ((hev H2 x).symm.trans hx) ((hev H2 y).symm.trans hy) rfl hk a3 a4 a5).names nm1⟩
    ·exact qal
   ·exact qal
  ·exact qal
 ·rename_i t len ps ho
  split at h
  ·rename_i e hg
   split at h
   ·rename_i ty he
    have hTS:TSlice P t e ty.S ty.B ty.z:=⟨(hT.get hg).2,(hT.get he).1⟩
    split at h
    ·rename_i fl hk hf
     rw[za2]at h
     split at h
     ·rename_i e1 e2
      have h:=ok.h_shl h
      obtain⟨c1,c2,c3⟩:=zi1 ty.S len fl (Nat.eq_of_beq_eq_true e1)
      refine⟨_,_,_,h,one _,fun H2 _=>(zat (st:={ st with heap:=H2 }) ho hTS rfl hk ?_ c3 c2 (Nat.le_of_ble_eq_true e2)).names nm1⟩
      rw[c1,<- hf]
      rfl
     ·exact qal
    ·exact qal
   ·exact qal
  ·exact qal
 ·rename_i x y t t2 ho
  split at h
  ·rename_i S0 B0 z0 e q1 S1 B1 z1 e2 hg hg2
   split at h
   ·rename_i ty he
    have hTS:TSlice P t e ty.S ty.B ty.z:=⟨(hT.get hg).2,(hT.get he).1⟩
    split at h
    ·rename_i es tg hx
     split at h
     ·obtain⟨ys,h,hy0⟩:=zje ok h Ext.refl
      obtain⟨⟨a1,a2,a3,a4⟩,h⟩:=ok.h_chk h
      have h:=ok.h_shl h
      refine⟨_,_,_,h,one _,fun H2 hE=>?_⟩
      have hy:Els H2 ty.S (st.ev G y) ys:=hy0.ext hE
      exact(zm1 (st:={ st with heap:=H2 }) ho hTS (hT.get hg2).2 ((hev H2 x).symm.trans hx) a1 ((hev H2 y) ▸ hy) (a2.imp (fun h e=>h (by rw[e];rfl)) (fun h=>List.eq_nil_of_length_eq_zero h)) a3 a4).names nm1
     ·exact qal
    ·exact qal
   ·exact qal
  ·exact qal
 ·rename_i t ho
  exact⟨_,_,_,h,one _,fun H2 _=>(zf2 (st:={ st with heap:=H2 }) ho).names nm1⟩
 ·exact qal
theorem zme{C:Ctx}{H:AHeap}(hH:HRel G C H){nm kk:Nat}{b0:Blk}(hg:H.get nm=some b0)(hb:C.β nm=some kk) :
  HRel G { C with RO:=fun j=>C.RO j\/j=kk } (H.del nm)/\Tr C.U C H { C with RO:=fun j=>C.RO j\/j=kk } (H.del nm):=by
 have hdel:∀ n b,(H.del nm).get n=some b->n≠nm/\H.get n=some b:=fun n b h=>by
  rw[za8]at h
  split at h
  ·exact qed
  ·rename_i e;exact⟨e,h⟩
 have ht:Tr C.U C H { C with RO:=fun j=>C.RO j\/j=kk } (H.del nm):={
  os:=rfl,tape:=rfl,output:=rfl,size:=Nat.le_refl _,shape:=fun k cs e fz h=>⟨cs,fz,h,rfl⟩,frame:=fun _ _ _=>rfl,names:=fun m hm=>⟨hm,rfl⟩,ros:=fun _ h=>.inl h
  img:=fun n b k h1 h2 _=>⟨n,b,(hdel n b h1).2,h2⟩
  rob:=fun j h _=>h.imp id fun e=>⟨nm,b0,hg,by rw[e];exact hb⟩ }
 refine⟨⟨fun n b h=>?_,fun n n' b b' k h1 h2=>hH.inj n n' b b' k (hdel n b h1).2 (hdel n' b' h2).2,fun j hj=>?_,fun g ds hgd=>(hH.glob g ds hgd).mono (fun _ _=>rfl) fun _ h=>.inl h⟩,ht⟩
 ·obtain⟨hn,hg'⟩:=hdel n b h
  obtain⟨hU,hB⟩:=hH.blk n b hg'
  refine⟨hU,zbs hH ht hU hB fun j hj=>⟨rfl,fun hro=>?_⟩⟩
  rcases hro with hro|hro
  ·exact hH.ro_apart hro n b hg' hj
  ·exact hn (hH.inj n nm b b0 kk hg' hg (hro ▸ hj) hb)
 ·rcases hj with hj|hj
  ·exact hH.ro j hj
  ·rw[hj];exact zc8 (C:=C) (hH.blk nm b0 hg).2 hb
theorem zoi{t e n B nm:Nat}{z:D}{x:Operand}{ds:List D}(ho:o.op = .slice t x none none none)(hu:P.underlying t=some (.array n e))(hE:EOk P e 1 B z)(hx:st.ev G x = .ptr nm n 0 0)
  (hg:st.heap.get nm=some (.arr n [ds.map .d])):StepOp G P st o (.d (.sl (ds.map fun d=>[d]) true)) (st.heap.del nm) (fun _=>False):=by
 intro C a hH hop _
 obtain⟨k,hU,hb,hxv⟩:=zd2 (hx ▸ hop x qao)
 obtain⟨h1,h2⟩:=zme hH hg hb
 obtain⟨hlen,hc⟩:=zi5 (hH.blk nm _ hg).2 hb (idx:=0) rfl
 have hlen:ds.length=n:=by simpa using hlen
 refine⟨_,.value (.slice (some ⟨k,0,none⟩) n n),?_,.inl ⟨_,rfl,.d _ _ ?_⟩,h1,h2,fun _ h=>.inl h⟩
 ·simp only[execOp,ho,Instr.sliceAt,hxv,Nat.zero_mul,Nat.add_zero]
  simp only[run_underlying hu,Instr.sureAddr,Instr.sliceBounds,Sem.run_bind,Sem.run_pure,Result.andThen_ok,Option.map_none,EOk.size hE]
  by_cases h0:n=0
  ·simp[h0]
  ·simp[h0,zb2]
 ·have key:=DRel.sl (w:=C.w) (RO:=fun j=>C.RO j\/j=k) (ds.map fun d=>[d]) true k 0 n 1 (fun i j=>(C.w.cell? ⟨k,0+i*1+j,none⟩).getD undef) (.inr rfl) (by simp[hlen]) (fun _=>by simp[hlen]) (fun el hel=>by
   obtain⟨d,_,rfl⟩:=List.mem_map.1 hel;rfl)
  have cell:∀ i j el d,(ds.map fun d=>[d])[i]?=some el->el[j]?=some d->∃ y,C.w.cell? ⟨k,0+i*1+j,none⟩=some y/\DRel C.w (fun j=>C.RO j\/j=k) d y:=by
   intro i j el d hi hj
   simp only[List.getElem?_map,Option.map_eq_some_iff]at hi
   obtain⟨d',hd',rfl⟩:=hi
   cases j with
   | succ j=>simp at hj
   | zero =>
    simp at hj;subst hj
    obtain⟨y,y1,y2⟩:=hc i (.d d') (by simp[hd'])
    exact⟨y,by rw[<- y1];congr 2;omega,(zbi y2).mono (fun _ _=>rfl) fun _ h=>.inl h⟩
  have:=key (fun i j el d hi hj=>by obtain⟨y,y1,_⟩:=cell i j el d hi hj;rw[y1];rfl) (fun i j el d hi hj=>by obtain⟨y,y1,y2⟩:=cell i j el d hi hj;rw[y1];exact y2)
  simpa[hlen] using this
def vMapUpd(M:Om)(T:Tab)(st:St)(t:Nat)(m x u:AV)(k:AV->AHeap->Nat->M.W):M.W:=match T.get t with
 | some ⟨_,_,_,_,.map _ _ ag S⟩=>match m,x,u with
  | .map nm,.d d,.d y=>match st.heap.get nm with
   | some (.map es)=>match keyD ag d,keysD ag es with
    | some as,some kss=>match Nat.beq as.length S,allLen S kss with
     | true,true=>match idxOf as kss 0 with
      | some j=>spine (es.set j (d,y)) fun es'=>k .top (st.heap.put nm (.map es')) 0
      | none=>spine (es++[(d,y)]) fun es'=>k .top (st.heap.put nm (.map es')) 0
     | _,_=>M.bad
    | _,_=>M.bad
   | _=>M.bad
  | _,_,_=>M.bad
 | _=>M.bad
theorem zia(ok:OmOk M hd){k:AV->AHeap->Nat->M.W}(hT:TabOk P T){t:TypeId}{m x u:Operand}(ho:o.op = .mapUpdate t m x u\/o.op = .insert t m x u)(h:hd (vMapUpd M T st t (st.ev G m) (st.ev G x) (st.ev G u) k)) :
  ∃ v H' n,hd (k v H' n)/\StepOp G P st o v H' (fun m=>st.nx<=m/\m<st.nx+n):=by
 unfold vMapUpd at h
 split at h
 ·rename_i kt et ag S hg
  obtain⟨hu,hk⟩:=(hT.get hg).2
  split at h
  ·rename_i nm d y hm hx hy
   split at h
   ·rename_i es hh
    split at h
    ·rename_i as kss has hkss
     split at h
     ·rename_i e1 e2
      have e1:=Nat.eq_of_beq_eq_true e1
      have e2:=zh5 e2
      split at h
      ·rename_i j hj
       rw[zbo]at h
       exact⟨_,_,_,h,((zdk ho hu hk hm hh hx has hy e1 hkss e2 (by rw[hj])).congr fun m=>zgd _ _ _ m).names fun _ h=>h.elim⟩
      ·rename_i hj
       rw[zbo]at h
       exact⟨_,_,_,h,((zdk ho hu hk hm hh hx has hy e1 hkss e2 (by rw[hj])).congr fun m=>zgd _ _ _ m).names fun _ h=>h.elim⟩
     ·exact qal
    ·exact qal
   ·exact qal
  ·exact qal
 ·exact qal
def vMut(M:Om)(T:Tab)(G:Nat->Option (List D))(st:St)(o:Oper)(k:AV->AHeap->Nat->M.W):M.W:=match o.op with
 | .store t x y=>match T.get t,st.ev G x with
  | some ty,.ptr nm sz idx off=>match st.heap.get nm with
   | some (.arr sz' els)=>match Nat.beq sz' sz,(st.ev G y).known,Nat.beq (st.ev G y).cells.length ty.S,(st.ev G y).cells.all AV.scalar,Nat.ble (off+ty.S) sz with
    | true,true,true,true,true=>forceL (st.ev G y).cells fun cs=>M.look els[idx]? fun el=>spine (over el off cs) fun el'=>M.shl (els.set idx el') fun els'=>k .top (st.heap.put nm (.arr sz els')) 0
    | _,_,_,_,_=>M.bad
   | _=>M.bad
  | _,_=>M.bad
 | .call { callee:=.builtin .append,args:=⟨[x,y]⟩,argTypes:=⟨[t,t2]⟩ }=>match T.get t,T.get t2 with
  | some ⟨_,_,_,_,.sl e⟩,some ⟨_,_,_,_,.sl _⟩=>match T.get e with
   | some ty=>match st.ev G x with
    | .sl nm sz lo len room tg=>match st.heap.get nm with
     | some (.arr sz' els)=>match Nat.beq sz ty.S,Nat.beq sz' ty.S with
      | true,true=>vEls M st.heap ty.S (st.ev G y) fun ys=>match ys.all fun el=>el.all AV.scalar with
       | true=>match Nat.beq room len&&Nat.beq lo 0 with
        | true=>M.chk (els.length=len/\0<ty.B/\(2*(len+ys.length)+192)*ty.B<=281474976710656)
         (M.shl (els++ys) fun els'=>k (.sl st.nx ty.S 0 (len+ys.length) (len+ys.length) false) ((st.heap.del nm).put st.nx (.arr ty.S els')) 1)
        | false=>M.chk (len+ys.length<=room/\lo+(len+ys.length)<=els.length)
         (M.shl (over els (lo+len) ys) fun els'=>k (.sl nm ty.S lo (len+ys.length) room tg) (st.heap.put nm (.arr ty.S els')) 0)
       | false=>M.bad
      | _,_=>M.bad
     | _=>M.bad
    | _=>M.bad
   | none=>M.bad
  | _,_=>M.bad
 | .call { callee:=.builtin .copy,args:=⟨[x,y]⟩,argTypes:=tys }=>match tys[0]? with
  | some t=>match T.get t with
   | some ⟨_,_,_,_,.sl e⟩=>match T.get e with
    | some ty=>match st.ev G x with
     | .sl nm sz lo len room tg=>match st.heap.get nm with
      | some (.arr sz' els)=>match Nat.beq sz ty.S,Nat.beq sz' ty.S with
       | true,true=>vEls M st.heap ty.S (st.ev G y) fun ys=>match ys.all fun el=>el.all AV.scalar with
        | true=>M.chk (lo+len<=els.length) (M.shl (over els lo (ys.take len)) fun els'=>k (.d (.int .i64 ((min ys.length len:Nat):Int))) (st.heap.put nm (.arr ty.S els')) 0)
        | false=>M.bad
       | _,_=>M.bad
      | _=>M.bad
     | _=>M.bad
    | none=>M.bad
   | _=>M.bad
  | none=>M.bad
 | .call { callee:=.builtin .clear,args:=⟨[x]⟩,argTypes:=tys }=>match tys[0]? with
  | some t=>match T.get t with
   | some ⟨_,_,_,_,.sl e⟩=>match T.get e with
    | some ⟨_,S,_,z,_⟩=>match st.ev G x with
     | .sl nm sz lo len _ _=>match st.heap.get nm with
      | some (.arr sz' els)=>match Nat.beq sz S,Nat.beq sz' S,(AV.d z).known,(AV.d z).cells.all AV.scalar with
       | true,true,true,true=>M.chk (lo+len<=els.length) (M.shl (over els lo (List.replicate len (AV.d z).cells)) fun els'=>k (.d (.tup [])) (st.heap.put nm (.arr S els')) 0)
       | _,_,_,_=>M.bad
      | _=>M.bad
     | .d (.sl [] _)=>k (.d (.tup [])) st.heap 0
     | _=>M.bad
    | none=>M.bad
   | _=>M.bad
  | none=>M.bad
 | .mapUpdate t m x u=>vMapUpd M T st t (st.ev G m) (st.ev G x) (st.ev G u) k
 | .insert t m x u=>vMapUpd M T st t (st.ev G m) (st.ev G x) (st.ev G u) k
 | .slice t x none none none=>match T.get t,st.ev G x with
  | some ⟨_,_,_,_,.arr n e⟩,.ptr nm sz 0 0=>match T.get e,st.heap.get nm with
   | some ⟨_,S,_,_,_⟩,some (.arr sz' [el])=>match Nat.beq S 1,Nat.beq sz n,Nat.beq sz' n,allD el with
    | true,true,true,some ds=>spine (ds.map fun d=>[d]) fun es=>spine (st.heap.del nm) fun H'=>k (.d (.sl es true)) H' 0
    | _,_,_,_=>M.bad
   | _,_=>M.bad
  | _,_=>M.bad
 | _=>M.bad
theorem zjy{ys:List (List AV)}(h:(ys.all fun el=>el.all AV.scalar)=true):∀ el,el∈ys->∀ v,v∈el->v.scalar=true:=by
 intro el hel v hv
 exact List.all_eq_true.1 (List.all_eq_true.1 h el hel) v hv
theorem zw7(ok:OmOk M hd){k:AV->AHeap->Nat->M.W}(hT:TabOk P T)(h:hd (vMut M T G st o k)) :
  ∃ v H' n,hd (k v H' n)/\StepOp G P st o v H' (fun m=>st.nx<=m/\m<st.nx+n):=by
 have none0:∀ m,False->st.nx<=m/\m<st.nx+0:=fun m h=>h.elim
 unfold vMut at h
 split at h
 ·rename_i t x y ho
  split at h
  ·rename_i ty nm sz idx off hg hx
   split at h
   ·rename_i sz' els hh
    split at h
    ·rename_i e1 e2 e3 e4 e5
     have e1:=Nat.eq_of_beq_eq_true e1
     subst e1
     rw[za2]at h
     obtain⟨el,h1,h2⟩:=ok.h_look h
     rw[zbo]at h2
     exact⟨_,_,_,ok.h_shl h2,((zgp ho (hT.get hg).1 hx rfl hh h1 e2 (Nat.eq_of_beq_eq_true e3) e4 (Nat.le_of_ble_eq_true e5)).congr fun m=>zgd _ _ _ m).names none0⟩
    ·exact qal
   ·exact qal
  ·exact qal
 ·rename_i x y t t2 ho
  split at h
  ·rename_i S0 B0 z0 e q1 S1 B1 z1 e2 hg hg2
   split at h
   ·rename_i ty he
    have hTS:TSlice P t e ty.S ty.B ty.z:=⟨(hT.get hg).2,(hT.get he).1⟩
    split at h
    ·rename_i nm sz lo len room tg hx
     split at h
     ·rename_i sz' els hh
      split at h
      ·rename_i f1 f2
       have f1:=Nat.eq_of_beq_eq_true f1
       have f2:=Nat.eq_of_beq_eq_true f2
       subst f1 f2
       obtain⟨ys,h,hy⟩:=zje ok h Ext.refl
       split at h
       ·rename_i hsc
        split at h
        ·rename_i hr
         simp only[Bool.and_eq_true]at hr
         have r1:=Nat.eq_of_beq_eq_true hr.1
         have r2:=Nat.eq_of_beq_eq_true hr.2
         obtain⟨⟨a1,a2,a3⟩,h3⟩:=ok.h_chk h
         have h3:=ok.h_shl h3
         clear h
         subst r1 r2
         refine⟨_,_,_,h3,((zsq ho hTS (hT.get hg2).2 hx hh a1 (Nat.le_refl _) hy (zjy hsc) a2 a3).congr fun m=>?_).names fun m hm=>⟨Nat.le_of_eq hm.symm,by omega⟩⟩
         rw[zgd]
         by_cases hm:m=st.nx
         ·subst hm;rw[zaf,zaf]
         ·rw[zad _ _ hm,zad _ _ hm,za8]
          by_cases hm2:m=nm
          ·subst hm2;rw[if_pos rfl,zaf]
          ·rw[if_neg hm2,zad _ _ hm2]
        ·obtain⟨⟨a1,a2⟩,h⟩:=ok.h_chk h
         exact⟨_,_,_,ok.h_shl h,((zki ho hTS (hT.get hg2).2 hx hh a1 a2 hy (zjy hsc)).congr fun m=>zgd _ _ _ m).names none0⟩
       ·exact qal
      ·exact qal
     ·exact qal
    ·exact qal
   ·exact qal
  ·exact qal
 ·rename_i x y tys ho
  split at h
  ·rename_i t ht
   split at h
   ·rename_i e hg
    split at h
    ·rename_i ty he
     have hTS:TSlice P t e ty.S ty.B ty.z:=⟨(hT.get hg).2,(hT.get he).1⟩
     split at h
     ·rename_i nm sz lo len room tg hx
      split at h
      ·rename_i sz' els hh
       split at h
       ·rename_i f1 f2
        have f1:=Nat.eq_of_beq_eq_true f1
        have f2:=Nat.eq_of_beq_eq_true f2
        subst f1 f2
        obtain⟨ys,h,hy⟩:=zje ok h Ext.refl
        split at h
        ·rename_i hsc
         obtain⟨a1,h⟩:=ok.h_chk h
         exact⟨_,_,_,ok.h_shl h,((zy4 ho ht hTS hx hh hy a1 (zjy hsc)).congr fun m=>zgd _ _ _ m).names none0⟩
        ·exact qal
       ·exact qal
      ·exact qal
     ·exact qal
    ·exact qal
   ·exact qal
  ·exact qal
 ·rename_i x tys ho
  split at h
  ·rename_i t ht
   split at h
   ·rename_i e hg
    split at h
    ·rename_i q0 S B z q1 he
     have hTS:TSlice P t e S B z:=⟨(hT.get hg).2,(hT.get he).1⟩
     split at h
     ·rename_i nm sz lo len room tg hx
      split at h
      ·rename_i sz' els hh
       split at h
       ·rename_i f1 f2 f3 f4
        have f1:=Nat.eq_of_beq_eq_true f1
        have f2:=Nat.eq_of_beq_eq_true f2
        subst f1 f2
        obtain⟨a1,h⟩:=ok.h_chk h
        exact⟨_,_,_,ok.h_shl h,((zxf ho ht hTS hx hh a1 rfl f3 f4).congr fun m=>zgd _ _ _ m).names none0⟩
       ·exact qal
      ·exact qal
     ·rename_i tg hx
      exact⟨_,_,_,h,(zsp ho ht hTS hx).names none0⟩
     ·exact qal
    ·exact qal
   ·exact qal
  ·exact qal
 ·rename_i ho;exact zia ok hT (.inl ho) h
 ·rename_i ho;exact zia ok hT (.inr ho) h
 ·rename_i t x ho
  split at h
  ·rename_i n e nm sz hg hx
   split at h
   ·rename_i q0 S B z q1 sz' el he hh
    split at h
    ·rename_i ds e1 e2 e3 hds
     have e1:=Nat.eq_of_beq_eq_true e1
     have e2:=Nat.eq_of_beq_eq_true e2
     have e3:=Nat.eq_of_beq_eq_true e3
     subst e1 e2 e3
     have:=zdz _ _ hds
     subst this
     simp only[zbo]at h
     exact⟨_,_,_,h,(zoi ho (hT.get hg).2 (hT.get he).1 hx hh).names none0⟩
    ·exact qal
   ·exact qal
  ·exact qal
 ·exact qal
end Go.AL
namespace Go.AL
open Go
variable{G:Nat->Option (List D)}{P:Program}{st:St}{o:Oper}
variable{r:Option Nat}{n b:Nat}{ms:List Nat}{Q:Exit->St->List Nat->Prop}
theorem zrm{n:Nat}{st:St}{ms:List Nat}{C:Ctx}{a:Act}{fn:FuncId}{ps:Array Tmp}{assign body:Code}(hR:Rel G n st ms C a) :
  HRel G ((C.alloc st.nx (.deferred (some []))).alloc (st.nx+1) (.loop { state:=.ready,pending:=none,fn:=fn,tmps:=a.tmps,params:=ps,assign:=assign,body:=body,defers:=C.w.heap.size }))
   ((st.nx+1,some (.lp st.env n ps assign body .ready none st.nx))::(st.nx,some (.raw (.deferred (some []))))::st.heap) ∧
  Tr C.U C st.heap ((C.alloc st.nx (.deferred (some []))).alloc (st.nx+1) (.loop { state:=.ready,pending:=none,fn:=fn,tmps:=a.tmps,params:=ps,assign:=assign,body:=body,defers:=C.w.heap.size }))
   ((st.nx+1,some (.lp st.env n ps assign body .ready none st.nx))::(st.nx,some (.raw (.deferred (some []))))::st.heap):=by
 have hn1:¬ C.U st.nx:=fun h=>by have:=hR.names _ h;omega
 have t1:=zgo (C:=C) (H:=st.heap) (some (.raw (.deferred (some [])))) (.deferred (some [])) hn1
 have hB1:BRel (C.alloc st.nx (.deferred (some []))) st.nx (.raw (.deferred (some []))) :=
  ⟨C.w.heap.size,by simp[Ctx.alloc],zce _ _,fun hro=>Nat.lt_irrefl _ (hR.heap.ro _ hro),rfl⟩
 have h1:=zg2 hR.heap hn1 hB1
 have hn2:¬(C.alloc st.nx (.deferred (some []))).U (st.nx+1):=fun h=>by
  rcases h with h|h
  ·have:=hR.names _ h;omega
  ·exact qad
 have t2:=zgo (C:=C.alloc st.nx (.deferred (some []))) (H:=(st.nx,some (.raw (.deferred (some []))))::st.heap) (some (.lp st.env n ps assign body .ready none st.nx))
  (.loop { state:=.ready,pending:=none,fn:=fn,tmps:=a.tmps,params:=ps,assign:=assign,body:=body,defers:=C.w.heap.size }) hn2
 refine⟨zg2 h1 hn2 ?_,zlh t1 t2⟩
 refine⟨(C.alloc st.nx (.deferred (some []))).w.heap.size,_,by simp[Ctx.alloc],zce _ _,fun hro=>?_,rfl,rfl,rfl,rfl,rfl,hR.env.size,fun t=>?_,.inl (.inr rfl),?_⟩
 ·exact Nat.lt_irrefl _ (h1.ro _ hro)
 ·exact((hR.env.env t).later t1 hR.heap).later t2 h1
 ·have:st.nx≠st.nx+1:=by omega
  simp[Ctx.alloc]
theorem tr_puto{C:Ctx}{H H':AHeap}{nm k:Nat}{b0:Blk}{o0 o1:Obj}(hh:C.w.heap[k]?=some o0)(hnc:∀ cs e fz,o0 ≠ .cells cs e fz)(hg:H.get nm=some b0)(hb:C.β nm=some k)
  (himg:∀ n b k',H'.get n=some b->C.β n=some k'->∃ n0 b0,H.get n0=some b0/\C.β n0=some k'):Tr C.U C H (C.put k o1) H' where
 os:=rfl
 tape:=rfl
 output:=rfl
 size:=by simp[Ctx.put]
 shape j a t fz h:=by
  by_cases hj:j=k
  ·subst hj;rw[hh]at h;cases h;exact absurd rfl (hnc _ _ _)
  ·exact qc9
 frame j hj hn:=World.putObj_heap_other (fun ej=>hn nm b0 hg qez)
 names n h:=⟨h,rfl⟩
 ros j h:=h
 img n b k' h1 h2 _:=himg n b k' h1 h2
 rob _ h _:=.inl h
theorem zrd{C:Ctx}{H:AHeap}(hH:HRel G C H){nm k:Nat}{b0 b':Blk}{o0 o1:Obj}(hh:C.w.heap[k]?=some o0)(hnc:∀ cs e fz,o0 ≠ .cells cs e fz)(hg:H.get nm=some b0)(hb:C.β nm=some k)
  (hb':Tr C.U C H (C.put k o1) ((nm,some b')::H)->BRel (C.put k o1) nm b'):HRel G (C.put k o1) ((nm,some b')::H)/\Tr C.U C H (C.put k o1) ((nm,some b')::H):=by
 have himg:∀ n b k',AHeap.get ((nm,some b')::H) n=some b->C.β n=some k'->∃ n0 b0,H.get n0=some b0/\C.β n0=some k':=fun n b k' h1 h2=>by
  by_cases e:n=nm
  ·subst e;exact⟨n,b0,hg,h2⟩
  ·exact qcb
 have ht:=tr_puto (C:=C) (o1:=o1) hh hnc hg hb himg
 refine⟨⟨?_,?_,fun j hj=>?_,fun g ds hgd=>(hH.glob g ds hgd).later ht hH⟩,ht⟩
 ·exact qhd
 ·exact qf8
 ·exact qei
theorem put_lp{C:Ctx}{H:AHeap}{nm n d:Nat}{env:List (Nat×AV)}{ps:Array Tmp}{assign body:Code}{s s':LoopState}{p p':Option Code}(hH:HRel G C H)(hg:H.get nm=some (.lp env n ps assign body s p d)) :
  ∃(k:Nat) (r:Loop),C.β nm=some k/\C.w.heap[k]?=some (.loop r)/\r.state=s/\r.pending=p/\r.params=ps/\r.assign=assign/\r.body=body/\r.tmps.size=n/\(∀ t,VRel C (lkA env t) (r.tmps.getD t undef)) ∧
   HRel G (C.put k (.loop { r with state:=s',pending:=p' })) ((nm,some (.lp env n ps assign body s' p' d))::H)/\Tr C.U C H (C.put k (.loop { r with state:=s',pending:=p' })) ((nm,some (.lp env n ps assign body s' p' d))::H):=by
 obtain⟨hU,k,r,h1,h2,h3,h4,h5,h6,h7,h8,h9,h10,h11,h12⟩:=hH.blk nm _ hg
 obtain⟨q1,q2⟩:=zrd (o1:=.loop { r with state:=s',pending:=p' }) (b':=.lp env n ps assign body s' p' d) hH h2 (fun _ _ _ h=>by cases h) hg h1 fun ht =>
  ⟨k,{ r with state:=s',pending:=p' },h1,zby h2,h3,rfl,rfl,h6,h7,h8,h9,fun t=>(h10 t).later ht hH,h11,h12⟩
 exact⟨k,r,h1,h2,h4,h5,h6,h7,h8,h9,h10,q1,q2⟩
def putsE:List Nat->List AV->List (Nat×AV)->List (Nat×AV)
 | p::ps,v::vs,e=>putsE ps vs ((p,v)::e)
 | _,_,e=>e
def RoundEnd(nm:Nat)(K:AV->AHeap->Nat->Prop)(e:Exit)(s:St)(m:List Nat):Prop :=
 m=[] /\ ∃ env n ps assign body st' p d,s.heap.get nm=some (.lp env n ps assign body st' p d)/\match e with
  | .normal=>K (.d (.bool true)) (s.heap.put nm (.lp env n ps assign body .ready none d)) s.nx
  | .ret=>K (.d (.bool false)) (s.heap.put nm (.lp env n ps assign body .done (some .ret) d)) s.nx
  | .exit id=>K (.d (.bool false)) (s.heap.put nm (.lp env n ps assign body .done (some (.exit id)) d)) s.nx
  | _=>False
def ARound(P:Program)(G:Nat->Option (List D))(nm:Nat)(args:List AV)(H:AHeap)(nx:Nat)(K:AV->AHeap->Nat->Prop):Prop :=
 ∃ env n ps assign body dnm,H.get nm=some (.lp env n ps assign body .ready none dnm)/\ps.size=args.length/\(∀ p,p∈ps.toList->p<n) ∧
  ∀ r,AWP r P G n nx assign ⟨putsE ps.toList args env,H,nx⟩ [] fun e s m=>e = .normal/\m=[] ∧
   ∃ env2 n2 ps2 as2 body2 p2 d2,s.heap.get nm=some (.lp env2 n2 ps2 as2 body2 .ready p2 d2) ∧
    AWP r P G n nx body ⟨s.env,s.heap.put nm (.lp env2 n2 ps2 as2 body2 .busy p2 d2),s.nx⟩ [] (RoundEnd nm K)
theorem RoundEnd.mono{nm:Nat}{K K':AV->AHeap->Nat->Prop}{e:Exit}{s:St}{m:List Nat}(h:RoundEnd nm K e s m)(hk:∀ v H' n,K v H' n->K' v H' n):RoundEnd nm K' e s m:=by
 obtain⟨h1,env,n,ps,assign,body,st',p,d,h2,h3⟩:=h
 refine⟨h1,env,n,ps,assign,body,st',p,d,h2,?_⟩
 cases e with
 | normal=>exact hk _ _ _ h3
 | ret=>exact hk _ _ _ h3
 | exit id=>exact hk _ _ _ h3
 | _=>exact h3.elim
theorem ARound.mono{nm:Nat}{args:List AV}{H:AHeap}{nx:Nat}{K K':AV->AHeap->Nat->Prop}(h:ARound P G nm args H nx K)(hk:∀ v H' n,K v H' n->K' v H' n):ARound P G nm args H nx K':=by
 obtain⟨env,n,ps,assign,body,dnm,h1,h2,h3,h4⟩:=h
 refine⟨env,n,ps,assign,body,dnm,h1,h2,h3,fun r=>zay (h4 r) ?_⟩
 rintro e s m ⟨g1,g2,env2,n2,ps2,as2,body2,p2,d2,g3,g4⟩
 exact⟨g1,g2,env2,n2,ps2,as2,body2,p2,d2,g3,zay g4 fun e s m h=>h.mono hk⟩
theorem zu2{C:Ctx}{n:Nat}:∀(ps:List Nat) (vs:List AV) (env:List (Nat×AV)) (xs:List Value) (tmps:Array Value),ps.length=vs.length->xs.length=vs.length->(∀ p,p∈ps->p<n)->tmps.size=n ->
  (∀ i d,vs[i]?=some d->VRel C d (xs.getD i undef))->(∀ t,VRel C (lkA env t) (tmps.getD t undef)) ->
  ((ps.zip xs).foldl (fun(tmps:Array Value) (p:Nat×Value)=>tmps.setIfInBounds p.1 p.2) tmps).size=n ∧
  ∀ t,VRel C (lkA (putsE ps vs env) t) (((ps.zip xs).foldl (fun(tmps:Array Value) (p:Nat×Value)=>tmps.setIfInBounds p.1 p.2) tmps).getD t undef)
 | [],vs,env,xs,tmps,_,_,_,hs,_,h=>⟨hs,h⟩
 | p::ps,[],env,xs,tmps,hl,_,_,_,_,_=>by simp at hl
 | p::ps,v::vs,env,[],tmps,_,hl,_,_,_,_=>by simp at hl
 | p::ps,v::vs,env,x::xs,tmps,hl,hl2,hp,hs,hv,h=>by
  have hlt:p<n:=hp p qc3
  have hE:=zg3 (C:=C) (st:=⟨env,[],0⟩) (n:=n) (a:={ tmps:=tmps,defers:=[] }) ⟨hs,h⟩ (d:=some p) (v:=v) (x:=x) (by simpa[dstOk] using hlt) (by simpa using hv 0 v rfl)
  have:=zu2 ps vs ((p,v)::env) xs (tmps.setIfInBounds p x) qeg (by simpa using hl2) (fun q hq=>hp q qen) (by simp[hs])
   (fun i d hi=>by have:=hv (i+1) d qd7;simpa using this) (fun t=>hE.env t)
  simpa[putsE] using this
theorem lp_get{C:Ctx}{H:AHeap}{nm n d:Nat}{env:List (Nat×AV)}{ps:Array Tmp}{assign body:Code}{s:LoopState}{p:Option Code}(hH:HRel G C H)(hg:H.get nm=some (.lp env n ps assign body s p d)) :
  ∃(k:Nat) (r:Loop),C.U nm/\C.β nm=some k/\C.w.heap[k]?=some (.loop r)/\r.state=s/\r.pending=p/\r.params=ps/\r.assign=assign/\r.body=body/\r.tmps.size=n/\(∀ t,VRel C (lkA env t) (r.tmps.getD t undef)):=by
 obtain⟨hU,k,r,h1,h2,_,h4,h5,h6,h7,h8,h9,h10,_,_⟩:=hH.blk nm _ hg
 exact⟨k,r,hU,h1,h2,h4,h5,h6,h7,h8,h9,h10⟩
theorem zer{H:AHeap}{nm:Nat}{b0:Blk}:∀ m bl,(H.put nm b0).get m=some bl->AHeap.get ((nm,some b0)::H) m=some bl:=fun m bl h=>by rw[zgd]at h;exact h
theorem zxo{g:Operand}{args:Array Operand}{tys:Array TypeId}{nm:Nat}{l:List AV}{K:St->Prop}(ho:o.op = .call { callee:=.value g,args:=args,argTypes:=tys })(hg:st.ev G g = .yld nm)
  (hl:args.toList.map (st.ev G)=l) (hdst:dstOk o.dst n=true)
  (hc:ARound P G nm l st.heap st.nx fun v H' nx'=>K ({ env:=st.env,heap:=H',nx:=nx':St }.put o.dst v)):OpWP r P G n b o st ms K:=by
 intro X C a next Q hR hX hn
 refine⟨zex r,?_⟩
 have hd:∀ c,o.op ≠ .defer c:=fun c h=>by rw[ho]at h;cases h
 obtain⟨env,n',ps,assign,body,dnm,hget,hlen,hps,hA⟩:=hc
 have hy:=zka hR.heap hR.env g
 rw[hg]at hy
 obtain⟨k,rc,hU,hb,hh,e1,e2,e3,e4,e5,e6,e7⟩:=lp_get hR.heap hget
 have hval:a.eval g = .func (.yield k) #[] #[]:=by
  generalize a.eval g=y at hy
  cases hy with
  | yld _ k' hU' hb'=>rw[hb]at hb';cases hb';rfl
 have hargs:∀ i d,l[i]?=some d->VRel C d ((args.toList.map a.eval).getD i undef):=by
  intro i d h
  rw[<- hl]at h
  simp only[List.getElem?_map,Option.map_eq_some_iff]at h
  obtain⟨p,hp,rfl⟩:=h
  have:(args.toList.map a.eval).getD i undef=a.eval p:=by
   rw[List.getD_eq_getElem?_getD,List.getElem?_map,hp];rfl
  rw[this]
  exact zka hR.heap hR.env p
 have hll:args.size=l.length:=by rw[<- hl];simp
 subst e3 e4 e5
 have hrun:(execOp a.eval o).run P C.w = .ok (.round k rc.fn ((rc.params.toList.zip (args.toList.map a.eval)).foldl (fun(tmps:Array Value) (p:Nat×Value)=>tmps.setIfInBounds p.1 p.2) rc.tmps) rc.assign rc.body) C.w:=by
  have hz:=run_yield (P:=P) (args:=args.map a.eval) hh (by simp[hlen,hll])
  simp only[execOp,ho,resolve,hval,Deferred.ofValue]
  simp only[invoke,Sem.run_bind,Sem.run_pure,Result.andThen_ok,Array.empty_append,hz]
  congr 2
  rw[<- Array.foldl_toList,Array.toList_zip]
  simp
 obtain⟨hsz,henv⟩:=zu2 (C:=C) (n:=n') rc.params.toList l env (args.toList.map a.eval) rc.tmps (by simpa using hlen) (by simp[hll]) hps e6 hargs e7
 rw[Oper.semAt_eq _ _ _ hd,hrun]
 refine⟨(fun h=>by cases h),?_⟩
 refine roundIn_of_wpIn trivial ?_
 have hRel:Rel G n' ⟨putsE rc.params.toList l env,st.heap,st.nx⟩ [] C { tmps:=(rc.params.toList.zip (args.toList.map a.eval)).foldl (fun(tmps:Array Value) (p:Nat×Value)=>tmps.setIfInBounds p.1 p.2) rc.tmps,defers:=[] } :=
  ⟨hR.heap,⟨hsz,henv⟩,hR.names,(fun m hm=>by cases hm),rfl⟩
 refine wpIn_mono (hA (some k) C.U C _ hRel fun m hm=>⟨hm,hR.names m hm⟩) ?_
 rintro e a1 w1 ⟨s1,m1,C1,rfl,⟨rfl,rfl,env2,n2,ps2,as2,body2,p2,d2,hg2,hbody⟩,hR1,hT1⟩
 obtain⟨k2,r2,q1,q2,q3,q4,_,_,_,_,_,hH2,hT2⟩:=put_lp (s':=.busy) (p':=p2) hR1.heap hg2
 have hk2:k2=k:=by have:=(hT1.names nm hU).2;rw[q1,hb]at this;cases this;rfl
 subst hk2
 have hrec:({ r2 with state:=.busy,pending:=p2 }:Loop)={ r2 with state:=.busy }:=by subst q4;rfl
 rw[hrec]at hH2 hT2
 refine⟨_,run_beginRound q2 q3,?_⟩
 have hT2':Tr C.U C st.heap (C1.put k2 (.loop { r2 with state:=.busy })) (s1.heap.put nm (.lp env2 n2 ps2 as2 body2 .busy p2 d2)) :=
  (zlh hT1 (hT2.weaken fun m hm=>hm)).anti zer
 have hRel2:Rel G n' ⟨s1.env,s1.heap.put nm (.lp env2 n2 ps2 as2 body2 .busy p2 d2),s1.nx⟩ [] (C1.put k2 (.loop { r2 with state:=.busy })) a1 :=
  ⟨hH2.anti zer,⟨hR1.env.size,fun t=>(hR1.env.env t).later hT2 hR1.heap⟩,hR1.names,(fun m hm=>by cases hm),hR1.defers⟩
 refine wpIn_mono (hbody C.U _ _ hRel2 fun m hm=>⟨(hT2'.names m hm).1,hR.names m hm⟩) ?_
 rintro e3 a3 w3 ⟨s3,m3,C3,rfl,⟨rfl,env4,n4,ps4,as4,body4,st4,p4,d4,hg4,hK⟩,hR3,hT3⟩
 have done:∀(s':LoopState) (p':Option Code) (v:Bool),s'=(if p'.isNone then LoopState.ready else .done)->v=p'.isNone->K ({ env:=st.env,heap:=s3.heap.put nm (.lp env4 n4 ps4 as4 body4 s' p' d4),nx:=s3.nx:St }.put o.dst (.d (.bool v))) ->
   ∃ y w',(Instr.endRound k2 p').run P C3.w = .ok y w'/\next (a.put o.dst y) w':=by
  intro s' p' v hs' hv hKK
  obtain⟨k3,r3,t1,t2,_,_,_,_,_,_,_,hH4,hT4⟩:=put_lp (s':=s') (p':=p') hR3.heap hg4
  have hT3':Tr C.U C st.heap C3 s3.heap:=hT2'.trans hT3
  have hk3:k3=k2:=by have:=(hT3'.names nm hU).2;rw[t1,hb]at this;cases this;rfl
  subst hk3
  refine⟨_,_,run_endRound p' t2,?_⟩
  have hrec2:(Loop.mk r3.state r3.pending r3.fn r3.tmps r3.params r3.assign r3.body r3.defers)=r3:=rfl
  have hw:({ r3 with state:=if p'.isNone then LoopState.ready else .done,pending:=p' }:Loop)={ r3 with state:=s',pending:=p' }:=by rw[hs']
  rw[hw]
  have hT4':Tr C.U C st.heap (C3.put k3 (.loop { r3 with state:=s',pending:=p' })) (s3.heap.put nm (.lp env4 n4 ps4 as4 body4 s' p' d4)) :=
   (hT3'.trans (hT4.weaken fun m hm=>(hT3'.names m hm).1)).anti zer
  have hE':ERel (C3.put k3 (.loop { r3 with state:=s',pending:=p' })) { env:=st.env,heap:=s3.heap.put nm (.lp env4 n4 ps4 as4 body4 s' p' d4),nx:=s3.nx } n a:=zfe hR.heap hT4' hR.env rfl
  rw[<- hv]
  refine hn _ (C3.put k3 (.loop { r3 with state:=s',pending:=p' })) _ hKK ⟨?_,zg3 hE' hdst (zc9 v),?_,?_,?_⟩ ?_
  ·have:=hH4.anti (H':=s3.heap.put nm (.lp env4 n4 ps4 as4 body4 s' p' d4)) zer
   cases o.dst<;>exact this
  ·intro m hm
   have:m<s3.nx:=hR3.names m hm
   cases o.dst<;>exact this
  ·exact fun m hm=>(hT4'.names m (hR.marks m hm)).1
  ·rw[zbt hT4' hR.marks,<- hR.defers];cases o.dst<;>rfl
  ·have:=hT4'.weaken (Y:=X) (fun m hm=>(hX m hm).1)
   cases o.dst<;>exact this
 cases e3 with
 | normal=>exact done .ready none true rfl rfl hK
 | ret=>exact done .done (some .ret) false rfl rfl hK
 | exit id=>exact done .done (some (.exit id)) false rfl rfl hK
 | goto t=>exact hK.elim
 | panic ch=>exact hK.elim
 | outgrown=>exact hK.elim
def enterH(n:Nat)(st:St)(ps:Array Tmp)(assign body:Code):AHeap:=(st.nx+1,some (.lp st.env n ps assign body .ready none st.nx))::(st.nx,some (.raw (.deferred (some []))))::st.heap
def RangeEnd(Q:Exit->St->List Nat->Prop)(st:St)(ms:List Nat)(H':AHeap)(nx':Nat):Prop :=
 ∃ env n ps assign body s p d,H'.get (st.nx+1)=some (.lp env n ps assign body s p d)/\s ≠ .busy/\match p with
  | none=>Q .normal ⟨st.env,H'.del (st.nx+1),nx'⟩ (st.nx::ms)
  | some .ret=>Q .ret ⟨st.env,H'.del (st.nx+1),nx'⟩ (st.nx::ms)
  | some (.exit id)=>Q (.exit id) ⟨st.env,H'.del (st.nx+1),nx'⟩ (st.nx::ms)
  | _=>False
theorem zpn{H:AHeap}{nm:Nat}{b0:Option Blk}:∀ m bl,(H.del nm).get m=some bl->AHeap.get ((nm,b0)::H) m=some bl:=fun m bl h=>by
 rw[za8]at h
 by_cases e:m=nm
 ·rw[if_pos e]at h;cases h
 ·rw[if_neg e]at h;rw[zad _ _ e];exact h
theorem zpw{g:Operand}{ps:Array Tmp}{assign body:Code}{f:FuncId}{fi ca l:List AV}(hg:fnOf (st.ev G g)=some (f,fi,ca))(hf:IsFn P f)(hl:fi++[.yld (st.nx+1)]++ca=l)
  (hc:ACall P G f l (enterH n st ps assign body) (st.nx+2) fun _ H' nx'=>RangeEnd Q st ms H' nx'):AWP none P G n b (.rangeFunc g ps assign body) st ms Q:=by
 intro X C a hR hX
 obtain⟨A,B,e1,e2,e3,e4,e5⟩:=zpe hg (zka hR.heap hR.env g)
 refine wpIn_rangeFunc fun fn _=>?_
 obtain⟨hH1,hT1⟩:=zrm (fn:=fn) (ps:=ps) (assign:=assign) (body:=body) hR
 generalize hC1:(C.alloc st.nx (.deferred (some []))).alloc (st.nx+1) (.loop { state:=.ready,pending:=none,fn:=fn,tmps:=a.tmps,params:=ps,assign:=assign,body:=body,defers:=C.w.heap.size })=C1 at hH1 hT1
 have hU1:C1.U (st.nx+1):=by rw[<- hC1];exact .inr rfl
 have hU0:C1.U st.nx:=by rw[<- hC1];exact .inl (.inr rfl)
 have hb1:C1.β (st.nx+1)=some (C.w.heap.size+1):=by rw[<- hC1];simp[Ctx.alloc]
 have hb0:C1.β st.nx=some C.w.heap.size:=by
  rw[<- hC1]
  have:st.nx≠st.nx+1:=qad
  simp[Ctx.alloc]
 have hw1:(C.w.alloc (.deferred (some []))).alloc (.loop { state:=.ready,pending:=none,fn:=fn,tmps:=a.tmps,params:=ps,assign:=assign,body:=body,defers:=C.w.heap.size })=C1.w:=by rw[<- hC1];rfl
 have hn1:∀ m,C1.U m->m<st.nx+2:=fun m hm=>by
  rw[<- hC1]at hm
  rcases hm with(h|h)|h
  ·have:=hR.names m h;omega
  ·exact qad
  ·exact qad
 have hcall:=hc C1 (A ++ #[.func (.yield (C.w.heap.size+1)) #[] #[]]++B) hH1 hn1 (by rw[<- hl];simp[e2,e3];omega) (by
  rw[<- hl]
  refine zd6 (by simp[e2]) (zd6 e2 (fun i d h=>(e4 i d h).later hT1 hR.heap) fun i d h=>?_) (fun i d h=>(e5 i d h).later hT1 hR.heap)
  match i,h with
  | 0,h=>simp at h;subst h;exact .yld _ _ hU1 hb1
  | i+1,h=>simp at h)
 refine⟨C.w.heap.size+1,[{ target:=.collected C.w.heap.size,args:=#[] }],C1.w,{ target:=.fn (.func f) B,args:=A ++ #[.func (.yield (C.w.heap.size+1)) #[] #[]] },C1.w,f,A ++ #[.func (.yield (C.w.heap.size+1)) #[] #[]]++B,C1.w,?_,?_,fun _ _=>trivial,?_,(fun h=>by cases h),?_⟩
 ·rw[<- hw1];exact run_enterLoop_outer fn a.tmps ps assign body
 ·have hm:Array.map a.eval #[Operand.const (Value.func (Fn.yield (C.w.heap.size+1)) #[] #[])] = #[Value.func (Fn.yield (C.w.heap.size+1)) #[] #[]]:=by
   rw[List.map_toArray];rfl
  simp only[resolve,rangeCall,e1,Deferred.ofValue,hm,Sem.run_pure]
 ·simp[invoke,zf5 hf]
 ·refine(zp3 hcall).mono ?_
  rintro e w' ⟨x,v,H',nx',C2,rfl,rfl,⟨env2,n2,ps2,as2,body2,s2,p2,d2,hg2,hs2,hQ⟩,hx,hH2,hU2,hT2⟩
  obtain⟨k,rc,q1,q2,q3,q4,_,_,_,_,_,hH3,hT3⟩:=put_lp (s':=.exhausted) (p':=p2) hH2 hg2
  have hk:k=C.w.heap.size+1:=by have:=(hT2.names _ hU1).2;rw[q1,hb1]at this;cases this;rfl
  subst hk
  have hrec:({ rc with state:=.exhausted,pending:=p2 }:Loop)={ rc with state:=.exhausted }:=by subst q4;rfl
  rw[hrec]at hH3 hT3
  refine⟨_,_,run_endLoop q2 (by rw[q3];exact hs2),?_⟩
  have hT:Tr C.U C st.heap (C2.put (C.w.heap.size+1) (.loop { rc with state:=.exhausted })) (H'.del (st.nx+1)) :=
   ((hT1.trans (hT2.weaken fun m hm=>(hT1.names m hm).1)).trans (hT3.weaken fun m hm=>(hT2.names m ((hT1.names m hm).1)).1)).anti zpn
  have hRel:Rel G n ⟨st.env,H'.del (st.nx+1),nx'⟩ (st.nx::ms) (C2.put (C.w.heap.size+1) (.loop { rc with state:=.exhausted })) { a with defers:=[{ target:=.collected C.w.heap.size,args:=#[] }]++a.defers }:=by
   refine⟨hH3.anti zpn,⟨hR.env.size,fun t=>(hR.env.env t).later hT hR.heap⟩,hU2,fun m hm=>?_,?_⟩
   ·rcases List.mem_cons.1 hm with q|q
    ·subst q;exact(hT2.names _ hU0).1
    ·exact(hT.names m (hR.marks m q)).1
   ·simp only[List.map_cons,List.cons_append,List.nil_append]
    rw[zbt hT hR.marks,<- hR.defers]
    have:markOf (C2.put (C.w.heap.size+1) (.loop { rc with state:=.exhausted })) st.nx={ target:=.collected C.w.heap.size,args:=#[] }:=by
     have:=(hT2.names _ hU0).2
     simp only[markOf,Ctx.put,this,hb0,Option.getD_some]
    rw[this]
  have hTX:=hT.weaken (Y:=X) fun m hm=>(hX m hm).1
  have key:∀ j:Option Code,(match j with
    | none=>Q .normal ⟨st.env,H'.del (st.nx+1),nx'⟩ (st.nx::ms)
    | some .ret=>Q .ret ⟨st.env,H'.del (st.nx+1),nx'⟩ (st.nx::ms)
    | some (.exit id)=>Q (.exit id) ⟨st.env,H'.del (st.nx+1),nx'⟩ (st.nx::ms)
    | _=>False)->(match j with
    | none=>PostC G X n C st.heap Q .normal { a with defers:=[{ target:=.collected C.w.heap.size,args:=#[] }]++a.defers } (C2.put (C.w.heap.size+1) (.loop { rc with state:=.exhausted })).w
    | some c=>c.wpIn (Fr none) 0 P (PostC G X n C st.heap Q) { a with defers:=[{ target:=.collected C.w.heap.size,args:=#[] }]++a.defers } (C2.put (C.w.heap.size+1) (.loop { rc with state:=.exhausted })).w):=by
   intro j hj
   match j,hj with
   | none,hQ=>exact⟨_,_,_,rfl,hQ,hRel,hTX⟩
   | some .ret,hQ=>exact wpIn_ret ⟨_,_,_,rfl,hQ,hRel,hTX⟩
   | some (.exit id),hQ=>exact wpIn_exit ⟨_,_,_,rfl,hQ,hRel,hTX⟩
  have fin:=key p2 hQ
  rw[<- q4]at fin
  exact fin
def marksOk:List Nat->AHeap->Bool
 | [],_=>true
 | m::ms,H=>match H.get m with
  | some (.raw (.deferred (some [])))=>marksOk ms (H.del m)
  | _=>false
def dels:List Nat->AHeap->AHeap
 | [],H=>H
 | m::ms,H=>dels ms (H.del m)
theorem zj7{fn:Func}{R:Ending->World->Prop}{tmps:Array Value}:∀(ms:List Nat) (H:AHeap) (C:Ctx),HRel G C H->marksOk ms H=true ->
  (∀ C',HRel G C' (dels ms H)->Tr C.U C H C' (dels ms H)->C'.U=C.U->∃ x,(results fn tmps).run P C'.w = .ok x C'.w/\R (.returned x) C'.w) ->
  LeavesInM (Fr none) 0 P fn tmps R (ms.map (markOf C)) .returning C.w
 | [],H,C,hH,_,h=>by
  obtain⟨x,h1,h2⟩:=h C hH (Tr.refl fun _ h=>h) rfl
  exact⟨x,h1,h2⟩
 | m::ms,H,C,hH,hm,h=>by
  unfold marksOk at hm
  split at hm
  ·rename_i hg
   obtain⟨hU,k,hb,hh,_,_⟩:=hH.blk m _ hg
   obtain⟨h1,h2⟩:=zrd (o1:=.deferred none) (b':=.raw (.deferred none)) hH hh (fun _ _ _ h=>by cases h) hg hb fun ht=>⟨k,hb,zby hh,fun hro=>hH.ro_apart hro _ _ hg hb,rfl⟩
   refine⟨by simp,.inl ⟨k,(C.put k (.deferred none)).w,?_,run_takeDeferred hh,?_⟩⟩
   ·simp[markOf,hb]
   ·have h1':=h1.anti (H':=H.del m) zpn
    have h2':=h2.anti (H'':=H.del m) zpn
    exact zj7 ms (H.del m) (C.put k (.deferred none)) h1' hm fun C' g1 g2 g3=>h C' g1 (h2'.trans g2) g3
  ·cases hm
theorem zd0{f:FuncId}{fn:Func}{c:Code}{args:List AV}{H:AHeap}{nx:Nat}{K:AV->AHeap->Nat->Prop}(hf:P.funcs[f]?=some fn)(hb:fn.body=some c)(hn:args.length<=fn.ntmps)
  (h:AWP none P G fn.ntmps nx c { env:=enum 0 args,heap:=H,nx:=nx } [] fun e st' ms'=>(e = .normal\/e = .ret)/\marksOk ms' st'.heap=true /\ ∃ v,ResV P G ⟨st'.env,dels ms' st'.heap,st'.nx⟩ fn.results v/\K v (dels ms' st'.heap) st'.nx):ACall P G f args H nx K:=by
 intro C vs hH hU hs hr
 refine zr4 (callsIn_of_wp_marks hf hb trivial ?_)
 have hR:Rel G fn.ntmps { env:=enum 0 args,heap:=H,nx:=nx } [] C { tmps:=vs++Array.replicate (fn.ntmps-vs.size) undef,defers:=[] }:=by
  refine⟨hH,⟨by simp;omega,fun t=>?_⟩,hU,(fun m hm=>by cases hm),rfl⟩
  rw[zti,if_pos (Nat.zero_le _)]
  cases hg:args[t-0]? with
  | none=>exact .top _
  | some v =>
   simp only[Nat.sub_zero]at hg
   have hlt:=(List.getElem?_eq_some_iff.1 hg).1
   rw[zh0,if_pos qad]
   exact hr t v hg
 refine wpIn_mono (h C.U C _ hR fun m hm=>⟨hm,hU m hm⟩) ?_
 rintro e a' w' ⟨st',ms',C',rfl,⟨he,hm,v,hv,hK⟩,hR',hT⟩
 have key:LeavesInM (Fr none) 0 P fn a'.tmps (fun e w'=>∃ x v H' nx' C',e = .returned x/\C'.w=w'/\K v H' nx'/\VRel C' v x/\HRel G C' H'/\(∀ m,C'.U m->m<nx')/\Tr C.U C H C' H') a'.defers .returning C'.w:=by
  rw[hR'.defers]
  refine zj7 ms' st'.heap C' hR'.heap hm fun C2 g1 g2 g3=>?_
  have hE:ERel C2 ⟨st'.env,dels ms' st'.heap,st'.nx⟩ fn.ntmps a':=zfe hR'.heap g2 hR'.env rfl
  obtain⟨x,h1,h2⟩:=zuw g1 hE hv
  exact⟨x,h1,x,v,_,_,C2,rfl,rfl,hK,h2,g1,(fun m hm=>hR'.names m (by rw[<- g3];exact hm)),hT.trans (g2.weaken fun m hm=>(hT.names m hm).1)⟩
 rcases he with rfl|rfl
 ·exact key
 ·exact key
theorem zw3{F:Fence}{n:Nat}{c:Code}{Q:Exit->Act->World->Prop}{a:Act}{w:World}(h:c.wpIn F n P (fun e a w=>match e with | .goto _=>False|e=>Q e a w) a w):(Code.scope c).wpIn F n P Q a w:=by
 intro b k cs hro hb hr
 have h0:(lone (b.atR a (.code (.scope c)::k)) cs w).fenced P F:=fenced_calm hb hr rfl
 have s1:step P (lone (b.atR a (.code (.scope c)::k)) cs w) = .next (lone (b.atR a (.code c :: .inScope c::k)) cs w):=step_lone_go (by simp[stepG,stepG.exec,Frame.atR])
 have s2:∀ a w,step P (lone (b.atR a (.inScope c::k)) cs w) = .next (lone (b.atR a k) cs w):=fun a w=>step_lone_go (by simp[stepG,stepG.exec,Frame.atR])
 obtain⟨e,a₁,w₁,hq,harr⟩:=h b (.inScope c::k) cs hro hb hr
 cases e with
 | normal=>exact⟨.normal,a₁,w₁,hq,.head h0 s1 (StepsIn.trans harr (.one (fenced_calm hb hr rfl) (s2 _ _)))⟩
 | exit id=>exact⟨.exit id,a₁,w₁,hq,fun k' hk=>.head h0 s1 (harr.1 k' (by simp[exitTo,hk])),fun hr' hk=>let ⟨k₁,h1,h2⟩:=harr.2 hr' (by simp[exitTo,hk]);⟨k₁,h1,.head h0 s1 h2⟩⟩
 | goto l=>exact hq.elim
 | ret=>exact⟨_,a₁,w₁,hq,.of_steps (.one h0 s1) harr⟩
 | panic ch=>exact⟨_,a₁,w₁,hq,.of_steps (.one h0 s1) harr⟩
 | outgrown=>exact⟨_,a₁,w₁,hq,.of_steps (.one h0 s1) harr⟩
def scopeQ(Q:Exit->St->List Nat->Prop):Exit->St->List Nat->Prop
 | .goto _,_,_=>False
 | e,s,m=>Q e s m
theorem zgl{c:Code}(h:AWP r P G n b c st ms (scopeQ Q)):AWP r P G n b (.scope c) st ms Q:=by
 intro X C a hR hX
 refine zw3 (wpIn_mono (h X C a hR hX) ?_)
 rintro e a' w' ⟨st',ms',C',rfl,h2,h3,h4⟩
 cases e with
 | goto l=>exact h2.elim
 | _=>exact⟨st',ms',C',rfl,h2,h3,h4⟩
theorem zgm{l:Nat}(h:Q .normal st ms):AWP r P G n b (.label l) st ms Q :=
 fun _ C _ hR hX=>wpIn_label ⟨st,ms,C,rfl,h,hR,Tr.refl fun m hm=>(hX m hm).1⟩
end Go.AL
namespace Go.AL
open Go
variable{G:Nat->Option (List D)}{P:Program}{o:Oper}
variable{M:Om}{hd:M.W->Prop}{T:Tab}
variable{r:Option Nat}{n b:Nat}{ms:List Nat}
theorem zuk{st:St}{k:AV->M.W}(ok:OmOk M hd)(h:hd (vPure M T G st o k)):∀ c,o.op ≠ .defer c:=by
 intro c hc
 unfold vPure at h
 rw[hc]at h
 exact ok.h_bad h
theorem zyo{st:St}{lo:Nat}{k:AV->AHeap->Nat->M.W}(ok:OmOk M hd)(h:hd (vAdd M T G st lo o k)):∀ c,o.op ≠ .defer c:=by
 intro c hc
 unfold vAdd at h
 rw[hc]at h
 exact ok.h_bad h
theorem vMut_nd{st:St}{k:AV->AHeap->Nat->M.W}(ok:OmOk M hd)(h:hd (vMut M T G st o k)):∀ c,o.op ≠ .defer c:=by
 intro c hc
 unfold vMut at h
 rw[hc]at h
 exact ok.h_bad h
structure CallT (M:Om) where
 fn:FuncId->List AV->AHeap->Nat->(AV->AHeap->Nat->M.W)->M.W
 rd:Nat->List AV->AHeap->Nat->(AV->AHeap->Nat->M.W)->M.W
abbrev DCallT(M:Om):=FuncId->List D->(AV->AHeap->Nat->M.W)->M.W
structure CallOk (P:Program) (G:Nat->Option (List D)) (M:Om) (hd:M.W->Prop) (Call:CallT M):Prop where
 fn:∀ f l H nx k,hd (Call.fn f l H nx k)->IsFn P f/\ACall P G f l H nx fun v H' nx'=>hd (k v H' nx')
 rd:∀ nm l H nx k,hd (Call.rd nm l H nx k)->ARound P G nm l H nx fun v H' nx'=>hd (k v H' nx')
def DCallOk(P:Program)(G:Nat->Option (List D))(M:Om)(hd:M.W->Prop)(DCall:DCallT M):Prop :=
 ∀ f ds k,hd (DCall f ds k)->∃ v N n,IsFn P f/\ACall P G f (ds.map .d) [] 0 (fun v' N' n'=>v'=v/\N'=N/\n'=n)/\hd (k v N n)
def stK{W:Type}(d:Option Tmp)(v:AV)(e:List (Nat×AV))(h:AHeap)(nx:Nat)(k:St->W):W:=match d with
 | some t=>k ⟨(t,v)::e,h,nx⟩
 | none=>k ⟨e,h,nx⟩
theorem zj4{W:Type}(d:Option Tmp)(v:AV)(e:List (Nat×AV))(h:AHeap)(nx:Nat)(k:St->W):stK d v e h nx k=k (St.put ⟨e,h,nx⟩ d v):=by cases d<;>rfl
def addHK{W:Type}(N h:AHeap)(k:AHeap->W):W:=match N with
 | []=>k h
 | [p]=>k (p::h)
 | N=>k (N++h)
theorem addHK_eq{W:Type}(N h:AHeap)(k:AHeap->W):addHK N h k=k (N++h):=by
 match N with
 | []=>rfl
 | [p]=>rfl
 | p::q::N=>rfl
def addNK{W:Type}(n m:Nat)(k:Nat->W):W:=match m with
 | 0=>k n
 | m=>match n+m with
  | 0=>k 0
  | q+1=>k (q+1)
theorem zww{W:Type}(n m:Nat)(k:Nat->W):addNK n m k=k (n+m):=by
 unfold addNK
 split
 ·rfl
 ·split
  ·rename_i h;rw[h]
  ·rename_i h;rw[h]
def xPure(M:Om)(T:Tab)(G:Nat->Option (List D))(st:St)(o:Oper)(k:St->M.W):M.W:=match st with
 | ⟨e,h,nx⟩=>vPure M T G ⟨e,h,nx⟩ o fun v=>stK o.dst v e h nx k
def xAdd(M:Om)(T:Tab)(G:Nat->Option (List D))(st:St)(o:Oper)(k:St->M.W):M.W:=match st with
 | ⟨e,h,nx⟩=>vAdd M T G ⟨e,h,nx⟩ nx o fun v N n=>addHK N h fun h'=>addNK nx n fun nx'=>stK o.dst v e h' nx' k
def xMut(M:Om)(T:Tab)(G:Nat->Option (List D))(st:St)(o:Oper)(k:St->M.W):M.W:=match st with
 | ⟨e,h,nx⟩=>vMut M T G ⟨e,h,nx⟩ o fun v H' n=>M.hp H' fun H'=>addNK nx n fun nx'=>stK o.dst v e H' nx' k
def xCall(M:Om)(G:Nat->Option (List D))(Call:CallT M)(st:St)(o:Oper)(g:Operand)(args:List Operand)(k:St->M.W):M.W:=match st with
 | ⟨e,h,nx⟩=>match fnOf (St.ev G ⟨e,h,nx⟩ g) with
  | some (f,fi,ca)=>forceL (fi++args.map (St.ev G ⟨e,h,nx⟩)++ca) fun l=>Call.fn f l h nx fun v H' nx'=>v.force fun v=>stK o.dst v e H' nx' k
  | none=>match St.ev G ⟨e,h,nx⟩ g with
   | .yld nm=>forceL (args.map (St.ev G ⟨e,h,nx⟩)) fun l=>Call.rd nm l h nx fun v H' nx'=>v.force fun v=>stK o.dst v e H' nx' k
   | _=>M.bad
def xNil(M:Om)(T:Tab)(G:Nat->Option (List D))(st:St)(o:Oper)(t:Nat)(x:Operand)(k:St->M.W):M.W:=match T.get t with
 | some ⟨_,_,_,_,.sl _⟩=>match st with
  | ⟨e,h,nx⟩=>match St.ev G ⟨e,h,nx⟩ x with
   | .d (.sl es _)=>M.unk (es.length≠0) fun b=>stK o.dst (.d (.bool b)) e h nx k
   | .sl _ _ _ len _ _=>M.unk (len≠0) fun b=>stK o.dst (.d (.bool b)) e h nx k
   | _=>M.bad
 | _=>M.bad
def isNilC:Operand->Bool
 | .const (.slice none 0 0)=>true
 | _=>false
theorem isNilC_eq{x:Operand}(h:isNilC x=true):x = .const (.slice none 0 0):=by
 unfold isNilC at h
 split at h
 ·rfl
 ·exact qed
def xop(M:Om)(T:Tab)(G:Nat->Option (List D))(Call:CallT M)(st:St)(o:Oper)(k:St->M.W):M.W:=match o.op with
 | .store _ _ _=>xMut M T G st o k
 | .box _ _=>xAdd M T G st o k
 | .alloc _=>xAdd M T G st o k
 | .makeSlice _ _ _=>xAdd M T G st o k
 | .buildSlice _ _ _=>xAdd M T G st o k
 | .call ⟨.value g,args,_⟩=>xCall M G Call st o g args.toList k
 | .call ⟨.builtin .append,⟨x::_⟩,_⟩=>match st.ev G x with
  | .d _=>xAdd M T G st o k
  | _=>xMut M T G st o k
 | .call ⟨.builtin .copy,_,_⟩=>xMut M T G st o k
 | .call ⟨.builtin .clear,_,_⟩=>xMut M T G st o k
 | .makeMap _ _=>xAdd M T G st o k
 | .mapUpdate _ _ _ _=>xMut M T G st o k
 | .insert _ _ _ _=>xMut M T G st o k
 | .slice t _ none none none=>match T.get t with
  | some ⟨_,_,_,_,.arr _ _⟩=>xMut M T G st o k
  | _=>xPure M T G st o k
 | .binOp .eql t x y _=>match isNilC y with
  | true=>xNil M T G st o t x k
  | false=>xPure M T G st o k
 | _=>xPure M T G st o k
variable{st:St}{k:St->M.W}{Call:CallT M}{DCall:DCallT M}
theorem zd5(ok:OmOk M hd)(hT:TabOk P T)(hdst:dstOk o.dst n=true)(h:hd (xAdd M T G st o k)):OpWP r P G n b o st ms fun st'=>hd (k st'):=by
 obtain⟨e,hh,nx⟩:=st
 unfold xAdd at h
 simp only[addHK_eq,zww,zj4]at h
 obtain⟨v,N,m,h1,h2,h3⟩:=zm8 ok hT h
 exact za1 (zyo ok h) (h3 hh Ext.refl) hdst h1
theorem zdc(ok:OmOk M hd)(hT:TabOk P T)(hdst:dstOk o.dst n=true)(h:hd (xMut M T G st o k)):OpWP r P G n b o st ms fun st'=>hd (k st'):=by
 obtain⟨e,hh,nx⟩:=st
 unfold xMut at h
 have hnd:=vMut_nd ok h
 obtain⟨v,N,m,h1,h2⟩:=zw7 ok hT h
 obtain⟨y,h3,h4⟩:=ok.h_hp h1
 simp only[zww,zj4]at h4
 exact za1 hnd (h2.anti h3) hdst h4
theorem zhm(ok:OmOk M hd)(hT:TabOk P T)(hdst:dstOk o.dst n=true)(h:hd (xPure M T G st o k)):OpWP r P G n b o st ms fun st'=>hd (k st'):=by
 obtain⟨e,hh,nx⟩:=st
 unfold xPure at h
 simp only[zj4]at h
 obtain⟨v,h1,h2⟩:=zj2 ok hT h
 exact zal (zuk ok h) (h2 _ Ext.refl) hdst h1
theorem zvd{v:Bool->AV}{K:St->Prop}(hnd:∀ c,o.op ≠ .defer c)(hdst:dstOk o.dst n=true)
  (h:∀(C:Ctx) (a:Act),HRel G C st.heap->Opd G C st a o->∃(t:Bool) (x:Value),(execOp a.eval o).run P C.w = .ok (.value x) C.w/\VRel C (v t) x/\K (st.put o.dst (v t))):OpWP r P G n b o st ms K:=by
 intro X C a next Q hR hX hn
 refine⟨zex r,?_⟩
 obtain⟨t,x,h1,h2,h3⟩:=h C a hR.heap (fun x _=>zka hR.heap hR.env x)
 rw[Oper.semAt_eq _ _ _ hnd,h1]
 refine hn _ C _ h3 ⟨?_,zg3 hR.env hdst h2,?_,hR.marks,?_⟩ ?_
 ·cases o.dst<;>exact hR.heap
 ·intro m hm;have:=hR.names m hm;cases o.dst<;>exact this
 ·rw[<- hR.defers];cases o.dst<;>rfl
 ·have:=Tr.refl (X:=X) (C:=C) (H:=st.heap) fun m hm=>(hX m hm).1
  cases o.dst<;>exact this
theorem zkk{a:Act}{C:Ctx}{t t' e:TypeId}{x:Operand}{ad:Option Addr}{m c:Nat}(ho:o.op = .binOp .eql t x (.const (.slice none 0 0)) t')(hu:P.underlying t=some (.slice e))(hx:a.eval x = .slice ad m c) :
  (execOp a.eval o).run P C.w = .ok (.value (.bool ad.isNone)) C.w:=by
 have h0:a.eval (.const (.slice none 0 0)) = .slice none 0 0:=rfl
 have h1:=run_equal_slice_nil C.w t e ad m c hu
 simp only[execOp,ho,hx,h0]
 simp[eqGuard,binOp,h1]
theorem zw2(ok:OmOk M hd)(hT:TabOk P T)(hdst:dstOk o.dst n=true){t t':TypeId}{x:Operand}(ho:o.op = .binOp .eql t x (.const (.slice none 0 0)) t')(h:hd (xNil M T G st o t x k)):OpWP r P G n b o st ms fun st'=>hd (k st'):=by
 have hnd:∀ c,o.op ≠ .defer c:=fun c hc=>by rw[ho]at hc;cases hc
 have hmem:x∈o.op.operands:=qao
 obtain⟨se,sh,sn⟩:=st
 unfold xNil at h
 split at h
 ·rename_i e hg
  have hu:P.underlying t=some (.slice e):=(hT.get hg).2
  simp only[zj4]at h
  split at h
  ·rename_i es tg hx
   refine zvd (v:=fun t=>.d (.bool t)) hnd hdst fun C a hH hop=>?_
   have hd0:=zbi (hx ▸ hop x hmem)
   generalize hxv:a.eval x=xv at hd0
   cases hd0 with
   | sl0 _ ad c ht=>exact⟨_,_,zkk ho hu hxv,zc9 _,ok.h_unk h _ fun hne=>absurd rfl hne⟩
   | sl _ _ b' o' c sz vs hro hc ht hsz hm hr=>exact⟨_,_,zkk ho hu hxv,zc9 _,ok.h_unk h _ fun _=>rfl⟩
  ·rename_i nm sz lo len room tg hx
   refine zvd (v:=fun t=>.d (.bool t)) hnd hdst fun C a hH hop=>?_
   rcases zco (hx ▸ hop x hmem) with⟨k',c,cs,e',fz,_,_,_,_,_,_,_,hxv⟩|⟨_,hl,_,ad,hxv⟩
   ·exact⟨_,_,zkk ho hu hxv,zc9 _,ok.h_unk h _ fun _=>rfl⟩
   ·subst hl
    exact⟨_,_,zkk ho hu hxv,zc9 _,ok.h_unk h _ fun hne=>absurd rfl hne⟩
  ·exact qal
 ·exact qal
theorem zye(ok:OmOk M hd)(hT:TabOk P T)(hC:CallOk P G M hd Call)(hdst:dstOk o.dst n=true)(h:hd (xop M T G Call st o k)):OpWP r P G n b o st ms fun st'=>hd (k st'):=by
 unfold xop at h
 split at h
 ·exact qdi
 ·exact qdz
 ·exact qdz
 ·exact qdz
 ·exact qdz
 ·rename_i g args tys ho
  obtain⟨e,hh,nx⟩:=st
  unfold xCall at h
  simp only at h
  split at h
  ·rename_i f fi ca hf
   rw[za2]at h
   obtain⟨h1,h2⟩:=hC.fn _ _ _ _ _ h
   refine zaw ho hf h1 rfl hdst ?_
   simp only[AV.force_eq,zj4]at h2
   exact h2
  ·split at h
   ·rename_i nm hy
    rw[za2]at h
    have h2:=hC.rd _ _ _ _ _ h
    refine zxo ho hy rfl hdst ?_
    simp only[AV.force_eq,zj4]at h2
    exact h2
   ·exact qal
 ·split at h
  ·exact qdz
  ·exact qdi
 ·exact qdi
 ·exact qdi
 ·exact qdz
 ·exact qdi
 ·exact qdi
 ·split at h
  ·exact qdi
  ·exact zhm ok hT hdst h
 ·rename_i t x y t' ho
  split at h
  ·rename_i hy
   rw[isNilC_eq hy]at ho
   exact zw2 ok hT hdst ho h
  ·exact zhm ok hT hdst h
 ·exact zhm ok hT hdst h
abbrev XO(M:Om):=St->(St->M.W)->M.W
def xops1(M:Om)(T:Tab)(G:Nat->Option (List D))(Call:CallT M)(ops:Array Oper)(o:Oper)(next:XO M):XO M:=fun st k=>match guardIs ops st.env o with
 | some true=>xop M T G Call st o fun st'=>next st' k
 | some false=>match st with
  | ⟨e,h,nx⟩=>stK o.dst (.d (.tup [])) e h nx fun st'=>next st' k
 | none=>M.bad
noncomputable def xops(M:Om)(T:Tab)(G:Nat->Option (List D))(Call:CallT M)(ops:Array Oper)(l:List Oper):XO M :=
 List.rec (motive:=fun _=>XO M) (fun st k=>k st) (fun o _ ih=>xops1 M T G Call ops o ih) l
theorem zbw(ok:OmOk M hd)(hT:TabOk P T)(hC:CallOk P G M hd Call){ops:Array Oper}:∀(rest:List Oper) (st:St),(∀ o,o∈rest->dstOk o.dst n=true)->hd (xops M T G Call ops rest st k) ->
  AOps r P G n b ops ms (fun st'=>hd (k st')) rest st
 | [],st,_,h=>h
 | o::rest,st,hdst,h=>by
  have hrest:∀ o,o∈rest->dstOk o.dst n=true:=fun o ho=>hdst o (List.mem_cons_of_mem _ ho)
  have hd0:=hdst o qc3
  change hd (xops1 M T G Call ops o (xops M T G Call ops rest) st k) at h
  unfold xops1 at h
  simp only[AOps,GuardP]
  have opw:hd (xop M T G Call st o fun st'=>xops M T G Call ops rest st' k)->OpWP r P G n b o st ms (AOps r P G n b ops ms (fun st'=>hd (k st')) rest):=fun h=>by
   have:=zye (r:=r) (b:=b) (ms:=ms) ok hT hC hd0 h
   intro X C a next Q hR hX hn
   exact this X C a next Q hR hX fun st' C' a' h1 h2 h3=>hn st' C' a' (zbw ok hT hC rest st' hrest h1) h2 h3
  have eqv:∀ j,guardV ops { env:=st.env,heap:=[],nx:=0 } j=guardV ops st j:=fun j=>rfl
  unfold guardIs at h
  split
  ·rename_i hg
   rw[hg]at h
   exact opw h
  ·rename_i j w hg
   rw[hg]at h
   simp only[eqv]at h
   have equ:guardU ops { env:=st.env,heap:=[],nx:=0 } j=guardU ops st j:=rfl
   rw[equ]at h
   cases hv:guardV ops st j with
   | none =>
    rw[hv]at h
    simp only at h
    cases hu:guardU ops st j with
    | true =>
     rw[hu]at h
     simp only[zj4]at h
     exact .inr ⟨rfl,hd0,zbw ok hT hC rest _ hrest h⟩
    | false=>rw[hu]at h;exact(ok.h_bad h).elim
   | some t =>
    rw[hv]at h
    refine .inl ⟨t,rfl,fun e=>?_,fun e=>⟨hd0,?_⟩⟩
    ·have:(t==w)=true:=by simp[e]
     simp only[this]at h
     exact opw h
    ·have:(t==w)=false:=by simp[e]
     simp only[this,zj4]at h
     exact zbw ok hT hC rest _ hrest h
mutual
def AV.nms:AV->List Nat->List Nat
 | .d _,l=>l
 | .top,l=>l
 | .ptr nm _ _ _,l=>nm::l
 | .sl nm _ _ _ _ _,l=>nm::l
 | .map nm,l=>nm::l
 | .yld nm,l=>nm::l
 | .fn _ a c,l=>AV.nmss a (AV.nmss c l)
 | .agg a,l=>AV.nmss a l
 | .tup a,l=>AV.nmss a l
termination_by structural x=>x
def AV.nmss:List AV->List Nat->List Nat
 | [],l=>l
 | v::r,l=>v.nms (AV.nmss r l)
termination_by structural x=>x
end
def AV.nmS(v:AV)(l:List Nat):List Nat:=match v with
 | .d _=>l
 | .top=>l
 | .ptr nm _ _ _=>nm::l
 | .sl nm _ _ _ _ _=>nm::l
 | .map nm=>nm::l
 | .yld nm=>nm::l
 | v=>v.nms l
def nmSs:List AV->List Nat->List Nat
 | [],l=>l
 | v::r,l=>v.nmS (nmSs r l)
def elemN(n:Nat):List Nat->Bool
 | []=>false
 | m::l=>match Nat.beq m n with
  | true=>true
  | false=>elemN n l
theorem zwd{n:Nat}:∀{l:List Nat},n∈l->elemN n l=true
 | [],h=>by cases h
 | m::l,h=>by
  unfold elemN
  split
  ·rfl
  ·rename_i e
   rcases List.mem_cons.1 h with q|q
   ·subst q;simp at e
   ·exact zwd q
def findW(nm:Nat):List HE->Nat->Option (Nat×Blk)
 | [],_=>none
 | he::effs,j=>match findW nm effs (j+1) with
  | some p=>some p
  | none=>match he.W with
   | some (n,bl)=>match Nat.beq n nm with
    | true=>some (j,bl)
    | false=>none
   | none=>none
def findN(ops:Array Oper)(i nm:Nat):List HE->Nat->Option Blk
 | [],_=>none
 | he::effs,j=>match he.N with
  | []=>findN ops i nm effs (j+1)
  | _::_=>match he.N.get nm with
   | some bl=>match reach ops (min 3 ops.size) j i with
    | true=>some bl
    | false=>none
   | none=>findN ops i nm effs (j+1)
def getV(ops:Array Oper)(i:Nat)(effs:List HE)(H0:AHeap)(nm:Nat):Option Blk:=match findW nm effs 0 with
 | some (j,bl)=>match reach ops (min 3 ops.size) j i with
  | true=>some bl
  | false=>none
 | none=>match H0.get nm with
  | some bl=>some bl
  | none=>findN ops i nm effs 0
theorem zjo{nm:Nat}:∀{effs:List HE} {j0:Nat},findW nm effs j0=none->∀(j:Nat) (e:HE) (q:Nat×Blk),effs[j]?=some e->e.W=some q->q.1≠nm
 | [],_,_,j,e,q,h,_=>by simp at h
 | he::effs,j0,h,j,e,q,hj,hq=>by
  unfold findW at h
  split at h
  ·exact qed
  ·rename_i hn
   cases j with
   | succ j=>exact zjo hn j e q qd3 hq
   | zero =>
    simp at hj;subst hj
    intro e2
    rw[hq]at h
    obtain⟨n,b⟩:=q
    simp only at e2 h
    subst e2
    simp at h
theorem znx{nm:Nat}{bl:Blk}:∀{effs:List HE} {j0 j:Nat},findW nm effs j0=some (j,bl)->∃(d:Nat) (e:HE),j=j0+d/\effs[d]?=some e/\e.W=some (nm,bl) /\ ∀(d':Nat) (e':HE) (q:Nat×Blk),d<d'->effs[d']?=some e'->e'.W=some q->q.1≠nm
 | [],_,_,h=>by cases h
 | he::effs,j0,j,h=>by
  unfold findW at h
  split at h
  ·rename_i p hp
   cases h
   obtain⟨d,e,h1,h2,h3,h4⟩:=znx hp
   refine⟨d+1,e,by omega,by simpa using h2,h3,fun d' e' q a1 a2 a3=>?_⟩
   cases d' with
   | zero=>omega
   | succ d'=>exact h4 d' e' q qad qef a3
  ·rename_i hn
   split at h
   ·rename_i n b hW
    split at h
    ·rename_i hb
     cases h
     refine⟨0,he,rfl,rfl,by rw[hW,Nat.eq_of_beq_eq_true hb],fun d' e' q a1 a2 a3=>?_⟩
     cases d' with
     | zero=>omega
     | succ d'=>exact zjo hn d' e' q qef a3
    ·exact qed
   ·exact qed
theorem zny{ops:Array Oper}{i nm:Nat}{bl:Blk}:∀{effs:List HE} {j0:Nat},findN ops i nm effs j0=some bl->∃(d:Nat) (e:HE),reach ops (min 3 ops.size) (j0+d) i=true/\effs[d]?=some e/\e.N.get nm=some bl
 | [],_,h=>by cases h
 | he::effs,j0,h=>by
  unfold findN at h
  have next:findN ops i nm effs (j0+1)=some bl->∃(d:Nat) (e:HE),reach ops (min 3 ops.size) (j0+d) i=true/\(he::effs)[d]?=some e/\e.N.get nm=some bl:=fun h=>by
   obtain⟨d,e,h1,h2,h3⟩:=zny h
   exact⟨d+1,e,by rw[show j0+(d+1)=j0+1+d by omega];exact h1,by simpa using h2,h3⟩
  split at h
  ·exact next h
  ·split at h
   ·rename_i bl' hg
    split at h
    ·rename_i hr
     cases h
     exact⟨0,he,hr,rfl,hg⟩
    ·exact qed
   ·exact next h
def markG(g:Nat->Option Blk):Nat->List Nat->List Nat->List Nat
 | 0,_,seen=>seen
 | _+1,[],seen=>seen
 | q+1,n::todo,seen=>match elemN n seen with
  | true=>markG g q todo seen
  | false=>match g n with
   | some (.arr _ els)=>markG g q (els.foldr nmSs todo) (n::seen)
   | some (.lp env _ _ _ _ _ _ dnm)=>markG g q (dnm::nmSs (env.map (·.2)) todo) (n::seen)
   | _=>markG g q todo (n::seen)
def rdOf(G:Nat->Option (List D))(env:List (Nat×AV))(g:Nat->Option Blk)(o:Oper):List Nat:=match o.op with
 | .load _ x=>(evE G env x).nmS []
 | .store _ x _=>(evE G env x).nmS []
 | .call ⟨.value f,args,_⟩=>markG g 300 ((evE G env f).nmS (nmSs (args.toList.map (evE G env)) [])) []
 | .call ⟨.builtin .append,args,_⟩=>nmSs (args.toList.map (evE G env)) []
 | .lookup _ x _ _=>(evE G env x).nmS []
 | _=>[]
def pickV(g:Nat->Option Blk):List Nat->AHeap
 | []=>[]
 | n::l=>match g n with
  | some bl=>(n,some bl)::pickV g l
  | none=>pickV g l
theorem zfa{g:Nat->Option Blk}{nm:Nat}{bl:Blk}:∀{l:List Nat},(pickV g l).get nm=some bl->g nm=some bl/\nm∈l
 | [],h=>by cases h
 | n::l,h=>by
  unfold pickV at h
  split at h
  ·rename_i b hb
   by_cases e:nm=n
   ·subst e;rw[zaf]at h;cases h;exact⟨hb,by simp⟩
   ·rw[zad _ _ e]at h
    exact⟨(zfa h).1,List.mem_cons_of_mem _ (zfa h).2⟩
  ·exact⟨(zfa h).1,List.mem_cons_of_mem _ (zfa h).2⟩
def okStore(ops:Array Oper)(i nm:Nat):List HE->Nat->Bool
 | [],_=>true
 | he::effs,j=>(match he.W with
   | some (n,_)=>match Nat.beq n nm with
    | true=>reach ops (min 3 ops.size) j i
    | false=>true
   | none=>true)&&(match elemN nm he.rd with
   | true=>reach ops (min 3 ops.size) j i
   | false=>true)&&okStore ops i nm effs (j+1)
theorem zlu{ops:Array Oper}:∀(f j i:Nat),reach ops f j i=true->reach ops (f+1) j i=true
 | 0,j,i,h=>by simp[reach]at h
 | f+1,j,i,h=>by
  unfold reach at h
  unfold reach
  split at h
  ·refine zmy (fun n hn=>?_) h
   split at hn
   ·rfl
   ·exact zlu f j n hn
  ·exact h
theorem zno{ops:Array Oper}{f j i:Nat}:∀ d,reach ops f j i=true->reach ops (f+d) j i=true
 | 0,h=>h
 | d+1,h=>zlu _ _ _ (zno d h)
theorem zgw{ops:Array Oper}{j i:Nat}(h:reach ops (min 3 ops.size) j i=true):reach ops ops.size j i=true:=by
 have:=zno (ops.size-min 3 ops.size) h
 rw[show min 3 ops.size+(ops.size-min 3 ops.size)=ops.size by omega]at this
 exact this
theorem getV_spec{ops:Array Oper}{i nm:Nat}{effs:List HE}{H0:AHeap}{bl:Blk}(h:getV ops i effs H0 nm=some bl) :
  ((H0.get nm=some bl \/ ∃(j:Nat) (e:HE),reach ops ops.size j i=true/\effs[j]?=some e/\e.N.get nm=some bl) /\ ∀(j:Nat) (e:HE) (q:Nat×Blk),effs[j]?=some e->e.W=some q->q.1≠nm) ∨
   ∃(j:Nat) (e:HE),reach ops ops.size j i=true/\effs[j]?=some e/\e.W=some (nm,bl) /\ ∀(j':Nat) (e':HE) (q:Nat×Blk),j<j'->effs[j']?=some e'->e'.W=some q->q.1≠nm:=by
 unfold getV at h
 split at h
 ·rename_i j b hf
  split at h
  ·rename_i hr
   cases h
   obtain⟨d,e,h1,h2,h3,h4⟩:=znx hf
   rw[Nat.zero_add]at h1
   subst h1
   exact .inr ⟨j,e,zgw hr,h2,h3,h4⟩
  ·exact qed
 ·rename_i hf
  refine .inl ⟨?_,zjo hf⟩
  split at h
  ·rename_i b hg;cases h;exact .inl hg
  ·obtain⟨d,e,h1,h2,h3⟩:=zny h
   rw[Nat.zero_add]at h1
   exact .inr ⟨d,e,zgw h1,h2,h3⟩
theorem zj5{ops:Array Oper}{i nm:Nat}:∀{effs:List HE} {j0:Nat},okStore ops i nm effs j0=true->∀(j:Nat) (e:HE),effs[j]?=some e->(∀ q':Nat×Blk,e.W=some q'->q'.1=nm->reach ops ops.size (j0+j) i=true)/\(nm∈e.rd->reach ops ops.size (j0+j) i=true)
 | [],_,_,j,e,h=>by simp at h
 | he::effs,j0,h,j,e,hj=>by
  simp only[okStore,Bool.and_eq_true]at h
  cases j with
  | zero =>
   simp at hj;subst hj
   refine⟨fun q hq e=>?_,fun hm=>?_⟩
   ·have:=h.1.1
    rw[hq]at this
    obtain⟨n,b⟩:=q
    simp only at this e
    subst e
    have hb:Nat.beq n n=true:=qc3
    rw[hb]at this
    exact zgw this
   ·have:=h.1.2
    rw[zwd hm]at this
    exact zgw this
  | succ j =>
   have:=zj5 h.2 j e qd3
   rw[show j0+(j+1)=j0+1+j by omega];exact this
def AHeap.all(V:AHeap):List (Nat×Blk):=V.filterMap fun p=>(V.get p.1).map fun bl=>(p.1,bl)
theorem all_get{V:AHeap}{p:Nat×Blk}(h:p∈V.all):V.get p.1=some p.2:=by
 simp only[AHeap.all,List.mem_filterMap]at h
 obtain⟨q,h1,h2⟩:=h
 simp only[Option.map_eq_some_iff]at h2
 obtain⟨bl,h3,h4⟩:=h2
 subst h4;exact h3
theorem get_all{V:AHeap}{nm:Nat}{bl:Blk}(h:V.get nm=some bl):(nm,bl)∈V.all:=by
 simp only[AHeap.all,List.mem_filterMap]
 exact⟨_,get_mem h,by simp[h]⟩
def mapO{α β:Type}(f:α->Option β):List α->Option (List β)
 | []=>some []
 | a::l=>match f a with
  | some b=>match mapO f l with
   | some m=>some (b::m)
   | none=>none
  | none=>none
theorem zbn{α β:Type}{f:α->Option β}:∀{l:List α} {m:List β},mapO f l=some m->l.length=m.length /\ ∀(i:Nat) (a:α) (b:β),l[i]?=some a->m[i]?=some b->f a=some b
 | [],m,h=>by cases h;exact⟨rfl,fun i a b h=>by simp at h⟩
 | a::l,m,h=>by
  unfold mapO at h
  split at h
  ·rename_i b hb
   split at h
   ·rename_i m' hm
    cases h
    obtain⟨h1,h2⟩:=zbn hm
    refine⟨by simp[h1],fun i x y hx hy=>?_⟩
    cases i with
    | zero=>simp at hx hy;subst hx hy;exact hb
    | succ i=>exact h2 i x y (by simpa using hx) (by simpa using hy)
   ·exact qed
  ·exact qed
def asDX(H:AHeap):Nat->List Nat->AV->Option D
 | 0,_,_=>none
 | q+1,vis,v=>match v with
  | .d x=>some x
  | .sl nm sz lo len room t=>match H.get nm with
   | some (.arr sz' els)=>match mapO (mapO (asDX H q vis)) els with
    | some es=>match Nat.ble (lo+len) els.length,Nat.beq sz' sz with
     | true,true=>some (.sl ((es.drop lo).take len) (t&&decide (room=len)))
     | _,_=>none
    | none=>none
   | _=>none
  | .ptr nm sz idx off=>match elemN nm vis with
   | true=>some .any
   | false=>match H.get nm with
    | some (.arr sz' els)=>match els[idx]? with
     | some el=>match mapO (asDX H q (nm::vis)) el,Nat.beq sz' sz with
      | some dl,true=>some (.rop dl off)
      | _,_=>none
     | none=>none
    | _=>none
  | .agg l=>match mapO (asDX H q vis) l with
   | some ds=>some (.agg ds)
   | none=>none
  | .tup l=>match mapO (asDX H q vis) l with
   | some ds=>some (.tup ds)
   | none=>none
  | .fn f a c=>match mapO (asDX H q vis) a,mapO (asDX H q vis) c with
   | some a',some c'=>some (.fn f a' c')
   | _,_=>none
  | _=>none
theorem zdj{H:AHeap}:∀(q:Nat) (vis:List Nat) (v:AV) (d:D),asDX H q vis v=some d->AsD H v d
 | 0,vis,v,d,h=>by cases h
 | q+1,vis,v,d,h=>by
  have ih:=zdj (H:=H) q
  have lst:∀{vis:List Nat} {l:List AV} {ds:List D},mapO (asDX H q vis) l=some ds->∀(j:Nat) (v:AV) (d:D),l[j]?=some v->ds[j]?=some d->AsD H v d:=fun h j v d h1 h2=>ih _ v d ((zbn h).2 j v d h1 h2)
  unfold asDX at h
  split at h
  ·cases h;exact .d _
  ·rename_i nm sz lo len room t
   split at h
   ·rename_i sz' els hg
    split at h
    ·rename_i es hes
     split at h
     ·rename_i e1 e2
      cases h
      have e2:=Nat.eq_of_beq_eq_true e2
      subst e2
      obtain⟨m1,m2⟩:=zbn hes
      exact .sl nm _ lo len room t els es hg m1.symm (fun i el dl a1 a2=>(zbn (m2 i el dl a1 a2)).1) (fun i j el dl v d a1 a2 a3 a4=>lst (m2 i el dl a1 a2) j v d a3 a4) (Nat.le_of_ble_eq_true e1)
     ·exact qed
    ·exact qed
   ·exact qed
  ·rename_i nm sz idx off
   split at h
   ·cases h;exact .any _
   split at h
   ·rename_i sz' els hg
    split at h
    ·rename_i el hel
     split at h
     ·rename_i dl hdl e2
      cases h
      have e2:=Nat.eq_of_beq_eq_true e2
      subst e2
      exact .ptr nm _ idx off els el dl hg hel (zbn hdl).1 (lst hdl)
     ·exact qed
    ·exact qed
   ·exact qed
  ·split at h
   ·rename_i hds
    cases h
    exact .agg _ _ (zbn hds).1 (lst hds)
   ·exact qed
  ·split at h
   ·rename_i hds
    cases h
    exact .tup _ _ (zbn hds).1 (lst hds)
   ·exact qed
  ·split at h
   ·rename_i ha hc
    cases h
    exact .fn _ _ _ _ _ (zbn ha).1 (zbn hc).1 (lst ha) (lst hc)
   ·exact qed
  ·exact qed
theorem AsD.ext{H H2:AHeap}(hE:Ext H H2){v:AV}{d:D}(h:AsD H v d):AsD H2 v d:=by
 induction h with
 | d x=>exact .d x
 | any v=>exact .any v
 | sl nm sz lo len room t els es hg hl hel _ hf ih=>exact .sl nm sz lo len room t els es (hE _ _ hg) hl hel ih hf
 | ptr nm sz idx off els el dl hg he hl _ ih=>exact .ptr nm _ idx off els el dl (hE _ _ hg) he hl ih
 | agg l ds hl _ ih=>exact .agg l ds hl ih
 | tup l ds hl _ ih=>exact .tup l ds hl ih
 | fn f a c a' c' hl hl' _ _ ih1 ih2=>exact .fn f a c a' c' hl hl' ih1 ih2
def AHeap.flatB:AHeap->Bool
 | []=>true
 | (_,some bl)::r=>bl.flat&&AHeap.flatB r
 | (_,none)::r=>AHeap.flatB r
def AHeap.fl:AHeap->AHeap
 | []=>[]
 | (k,some bl)::r=>match bl.flat with
  | true=>(k,some bl)::AHeap.fl r
  | false=>(k,none)::AHeap.fl r
 | (k,none)::r=>(k,none)::AHeap.fl r
def flOf(v:AV)(N:AHeap):AHeap:=match v with
 | .d _=>[]
 | _=>N.fl
theorem zv7:∀{N:AHeap} {m:Nat} {bl:Blk},N.fl.get m=some bl->bl.flat=true/\N.get m=some bl
 | [],m,bl,h=>by cases h
 | (k,some b0)::r,m,bl,h=>by
  unfold AHeap.fl at h
  by_cases e:m=k
  ·subst e
   split at h
   ·rename_i hf
    rw[zaf]at h;cases h
    exact⟨hf,zaf _ _ _⟩
   ·rw[zaf]at h;cases h
  ·rw[zad _ _ e]
   split at h
   ·rw[zad _ _ e]at h;exact zv7 h
   ·rw[zad _ _ e]at h;exact zv7 h
 | (k,none)::r,m,bl,h=>by
  unfold AHeap.fl at h
  by_cases e:m=k
  ·subst e;rw[zaf]at h;cases h
  ·rw[zad _ _ e]at h⊢;exact zv7 h
theorem zv8{v:AV}{N:AHeap}{m:Nat}{bl:Blk}(h:(flOf v N).get m=some bl):bl.flat=true/\N.get m=some bl:=by
 unfold flOf at h
 split at h
 ·exact qed
 ·exact zv7 h
theorem zke{f:FuncId}{args:List AV}{H H1 H2:AHeap}{nx n1:Nat}{v:AV}(h:ACall P G f args H nx fun v' H' n'=>v'=v/\H'=H1/\n'=n1)(hs:∀ nm bl,H2.get nm=some bl->H1.get nm=some bl) :
  ACall P G f args H nx fun v' H' n'=>v'=v/\H'=H2/\n'=n1:=by
 intro C vs hH hU hl hr
 refine(h C vs hH hU hl hr).mono ?_
 rintro e w' ⟨x,v',H',n',C',h1,h2,⟨rfl,rfl,rfl⟩,h4,h5,h6,h7⟩
 exact⟨x,v',H2,n',C',h1,h2,⟨rfl,rfl,rfl⟩,h4,h5.anti hs,h6,h7.anti hs⟩
def AHeap.below:AHeap->Nat->Bool
 | [],_=>true
 | (k,_)::r,n=>Nat.blt k n&&AHeap.below r n
theorem zhr{lo n:Nat}:∀{N:AHeap},N.below n=true->∀ p,p∈N.shift lo->lo<=p.1/\p.1<lo+n
 | [],_,p,hp=>by cases hp
 | (k,b)::r,h,p,hp=>by
  simp only[AHeap.below,Bool.and_eq_true]at h
  simp only[AHeap.shift,List.mem_cons]at hp
  rcases hp with rfl|hp
  ·have:k<n:=by simpa using h.1
   simp;omega
  ·exact zhr h.2 p hp
def xhCall(M:Om)(G:Nat->Option (List D))(DCall:DCallT M)(env:List (Nat×AV))(V:AHeap)(rd:List Nat)(lo:Nat)(g:Operand)(args:List Operand)(k:HE->M.W):M.W :=
 match fnOf (evE G env g) with
 | some (f,fi,ca)=>forceL (fi++args.map (evE G env)++ca) fun l=>match allD l with
  | some ds=>DCall f ds fun v N n=>match N.below n with
   | true=>(v.ren (· + lo)).force fun v=>match N with
    | []=>k ⟨v,[],none,rd,lo+n⟩
    | _::_=>M.shh (N.shift lo) fun N=>k ⟨v,N,none,rd,lo+n⟩
   | false=>M.bad
  | none=>M.look (mapO (asDX V 9 []) l) fun ds=>DCall f ds fun v N n=>match (flOf v N).below n,v.flat with
   | true,true=>(v.ren (· + lo)).force fun v'=>match flOf v N with
    | []=>k ⟨v',[],none,rd,lo+n⟩
    | _::_=>M.shh ((flOf v N).shift lo) fun N=>k ⟨v',N,none,rd,lo+n⟩
   | _,_=>M.bad
 | none=>M.bad
def xhPure(M:Om)(T:Tab)(G:Nat->Option (List D))(env:List (Nat×AV))(V:AHeap)(rd:List Nat)(lo:Nat)(o:Oper)(k:HE->M.W):M.W :=
 vPure M T G { env:=env,heap:=V,nx:=0 } o fun v=>k ⟨v,[],none,rd,lo⟩
def xhAdd(M:Om)(T:Tab)(G:Nat->Option (List D))(env:List (Nat×AV))(V:AHeap)(rd:List Nat)(lo:Nat)(o:Oper)(k:HE->M.W):M.W :=
 vAdd M T G { env:=env,heap:=V,nx:=0 } lo o fun v N n=>k ⟨v,N,none,rd,lo+n⟩
def xhStore(M:Om)(T:Tab)(G:Nat->Option (List D))(env:List (Nat×AV))(V:AHeap)(rd:List Nat)(lo t:Nat)(x y:Operand)(okS:Nat->Bool)(k:HE->M.W):M.W:=match T.get t,evE G env x with
 | some ty,.ptr nm sz idx off=>match V.get nm with
  | some (.arr sz' els)=>match Nat.beq sz' sz,(evE G env y).known,Nat.beq (evE G env y).cells.length ty.S,(evE G env y).cells.all AV.scalar,Nat.ble (off+ty.S) sz with
   | true,true,true,true,true=>M.chk (okS nm=true/\Nat.blt nm lo=true) (forceL (evE G env y).cells fun cs=>M.look els[idx]? fun el=>spine (over el off cs) fun el'=>M.shl (els.set idx el') fun els'=>k ⟨.top,[],some (nm,.arr sz els'),rd,lo⟩)
   | _,_,_,_,_=>M.bad
  | _=>M.bad
 | _,_=>M.bad
def xhop(M:Om)(T:Tab)(G:Nat->Option (List D))(DCall:DCallT M)(env:List (Nat×AV))(V:AHeap)(rd:List Nat)(lo:Nat)(okS:Nat->Bool)(o:Oper)(k:HE->M.W):M.W:=match o.op with
 | .box _ _=>xhAdd M T G env V rd lo o k
 | .alloc _=>xhAdd M T G env V rd lo o k
 | .makeSlice _ _ _=>xhAdd M T G env V rd lo o k
 | .buildSlice _ _ _=>xhAdd M T G env V rd lo o k
 | .call ⟨.value g,args,_⟩=>xhCall M G DCall env V rd lo g args.toList k
 | .call ⟨.builtin .append,_,_⟩=>xhAdd M T G env V rd lo o k
 | .makeMap _ _=>xhAdd M T G env V rd lo o k
 | .store t x y=>xhStore M T G env V rd lo t x y okS k
 | _=>xhPure M T G env V rd lo o k
abbrev XH(M:Om):=Nat->List (Nat×AV)->List HE->Nat->(List (Nat×AV)->List HE->Nat->M.W)->M.W
def zyf(M:Om)(T:Tab)(G:Nat->Option (List D))(DCall:DCallT M)(ops:Array Oper)(H0:AHeap)(o:Oper)(next:XH M):XH M:=fun i env effs lo k=>match guardIs ops env o with
 | some true=>spine (rdOf G env (getV ops i effs H0) o) fun rd=>spine (pickV (getV ops i effs H0) rd) fun V=>xhop M T G DCall env V rd lo (fun nm=>okStore ops i nm effs 0) o fun he=>match he with
   | ⟨v,N,W,rd,hi⟩=>spine (effs++[⟨v,N,W,rd,hi⟩]) fun effs=>match o.dst with
    | some t=>next (i+1) ((t,v)::env) effs hi k
    | none=>next (i+1) env effs hi k
 | some false=>spine (effs++[⟨.d (.tup []),[],none,[],lo⟩]) fun effs=>match o.dst with
   | some t=>next (i+1) ((t,.d (.tup []))::env) effs lo k
   | none=>next (i+1) env effs lo k
 | none=>M.bad
noncomputable def xhead(M:Om)(T:Tab)(G:Nat->Option (List D))(DCall:DCallT M)(ops:Array Oper)(H0:AHeap)(l:List Oper):XH M :=
 List.rec (motive:=fun _=>XH M) (fun _ env effs lo k=>k env effs lo) (fun o _ ih=>zyf M T G DCall ops H0 o ih) l
theorem zw0(ok:OmOk M hd)(hT:TabOk P T)(hD:DCallOk P G M hd DCall){env:List (Nat×AV)}{V:AHeap}{rd:List Nat}{lo:Nat}{okS:Nat->Bool}{k:HE->M.W}(h:hd (xhop M T G DCall env V rd lo okS o k)) :
  ∃ he,hd (k he)/\lo<=he.hi/\(∀ p,p∈he.N->lo<=p.1/\p.1<he.hi)/\he.rd=rd/\(∀ q,he.W=some q->q.1<lo/\okS q.1=true)/\ExtOp r P G o (evE G env) V.all he.v he.N he.W lo he.hi:=by
 have ext:∀ H2:AHeap,(∀ p,p∈V.all->H2.get p.1=some p.2)->Ext V H2:=fun H2 h nm bl hg=>h _ (get_all hg)
 have add:hd (xhAdd M T G env V rd lo o k)->∃ he,hd (k he)/\lo<=he.hi/\(∀ p,p∈he.N->lo<=p.1/\p.1<he.hi)/\he.rd=rd/\(∀ q,he.W=some q->q.1<lo/\okS q.1=true)/\ExtOp r P G o (evE G env) V.all he.v he.N he.W lo he.hi:=fun h=>by
  obtain⟨v,N,n,h1,h2,h3⟩:=zm8 ok hT h
  exact⟨⟨v,N,none,rd,lo+n⟩,h1,Nat.le_add_right _ _,h2,rfl,(fun q hq=>by cases hq),zph (zyo ok h) fun H2 hn=>h3 H2 (ext H2 hn)⟩
 unfold xhop at h
 split at h
 ·exact add h
 ·exact add h
 ·exact add h
 ·exact add h
 ·rename_i g args tys ho
  unfold xhCall at h
  split at h
  ·rename_i f fi ca hf
   rw[za2]at h
   split at h
   ·rename_i ds hds
    have hl:=zdz _ _ hds
    obtain⟨v,N,n,h1,h2,h3⟩:=hD _ _ _ h
    split at h3
    ·rename_i hb
     rw[AV.force_eq]at h3
     have h4:hd (k ⟨v.ren (· + lo),N.shift lo,none,rd,lo+n⟩):=by
      split at h3
      ·exact h3
      ·exact ok.h_shh h3
     exact⟨_,h4,Nat.le_add_right _ _,zhr hb,rfl,(fun q hq=>by cases hq),zv9 ho hf h1 rfl h2 (by rw[hl];simp) (fun H2 hn i v d a1 a2=>by
      rw[hl]at a1
      simp only[List.getElem?_map,a2,Option.map_some,Option.some.injEq]at a1
      subst a1;exact .d d) (.inl hl)⟩
    ·exact(ok.h_bad h3).elim
   ·obtain⟨ds,hds,h⟩:=ok.h_look h
    obtain⟨v,N,n,h1,h2,h3⟩:=hD _ _ _ h
    obtain⟨m1,m2⟩:=zbn hds
    split at h3
    ·rename_i hb hv
     rw[AV.force_eq]at h3
     have h4:hd (k ⟨v.ren (· + lo),(flOf v N).shift lo,none,rd,lo+n⟩):=by
      split at h3
      ·rename_i e;rw[e];exact h3
      ·exact ok.h_shh h3
     exact⟨_,h4,Nat.le_add_right _ _,zhr hb,rfl,(fun q hq=>by cases hq),zv9 ho hf h1 rfl (zke h2 fun nm bl hg=>(zv8 hg).2) m1 (fun H2 hn i v d a1 a2=>(zdj _ _ _ _ (m2 i v d a1 a2)).ext (ext H2 hn)) (.inr ⟨hv,fun m bl hg=>(zv8 hg).1⟩)⟩
    ·exact(ok.h_bad h3).elim
  ·exact qal
 ·exact add h
 ·exact add h
 ·rename_i t x y ho
  unfold xhStore at h
  split at h
  ·rename_i ty nm sz idx off hg hx
   split at h
   ·rename_i sz' els hh
    split at h
    ·rename_i e1 e2 e3 e4 e5
     have e1:=Nat.eq_of_beq_eq_true e1
     subst e1
     obtain⟨⟨s1,s2⟩,h⟩:=ok.h_chk h
     rw[za2]at h
     obtain⟨el,h1,h2⟩:=ok.h_look h
     rw[zbo]at h2
     have h2:=ok.h_shl h2
     refine⟨_,h2,Nat.le_refl _,(fun p hp=>by cases hp),rfl,fun q hq=>?_,zph (fun c hc=>by rw[ho]at hc;cases hc) fun H2 hn=>?_⟩
     ·cases hq
      exact⟨by simpa using s2,s1⟩
     ·exact(zgp (st:={ env:=env,heap:=H2,nx:=0 }) ho (hT.get hg).1 hx rfl (ext H2 hn _ _ hh) h1 e2 (Nat.eq_of_beq_eq_true e3) e4 (Nat.le_of_ble_eq_true e5)).names fun m hm=>hm.elim
    ·exact qal
   ·exact qal
  ·exact qal
 ·obtain⟨v,h1,h2⟩:=zj2 ok hT h
  exact⟨⟨v,[],none,rd,lo⟩,h1,Nat.le_refl _,(fun p hp=>by cases hp),rfl,(fun q hq=>by cases hq),ext_pure (zuk ok h) fun H2 hn=>h2 H2 (ext H2 hn)⟩
theorem zfi(ok:OmOk M hd)(hT:TabOk P T)(hD:DCallOk P G M hd DCall){ops:Array Oper}{H0:AHeap}{k:List (Nat×AV)->List HE->Nat->M.W}{K:List (Nat×AV)->List HE->Nat->Prop}(hk:∀ env effs nx,hd (k env effs nx)->K env effs nx) :
  ∀(rest:List Oper) (i:Nat) (env:List (Nat×AV)) (effs:List HE) (lo:Nat),hd (xhead M T G DCall ops H0 rest i env effs lo k)->AHead r P G ops H0 K rest i env effs lo
 | [],i,env,effs,lo,h=>hk _ _ _ h
 | o::rest,i,env,effs,lo,h=>by
  change hd (zyf M T G DCall ops H0 o (xhead M T G DCall ops H0 rest) i env effs lo k) at h
  unfold zyf at h
  split at h
  ·rename_i hg
   simp only[zbo]at h
   obtain⟨he,h1,h2,h3,h5,h6,h4⟩:=zw0 (r:=r) ok hT hD h
   obtain⟨v,N,W,rd,hi⟩:=he
   have h1:hd (xhead M T G DCall ops H0 rest (i+1) (consD o.dst v env) (effs++[⟨v,N,W,rd,hi⟩]) hi k):=by
    simp only at h1
    cases e:o.dst with
    | none=>rw[e]at h1;exact h1
    | some t=>rw[e]at h1;exact h1
   refine⟨⟨v,N,W,rd,hi⟩,.go ⟨v,N,W,rd,hi⟩ _ hg h2 h3 (fun p hp=>?_) (fun p hp=>?_) (fun q hq=>?_) h4,zfi ok hT hD hk rest _ _ _ _ h1⟩
   ·exact getV_spec (zfa (all_get hp)).1
   ·rw[h5];exact(zfa (all_get hp)).2
   ·obtain⟨a1,a2⟩:=h6 q hq
    refine⟨a1,fun j e hj=>?_⟩
    have:=zj5 a2 j e hj
    rw[Nat.zero_add]at this
    exact this
  ·rename_i hg
   simp only[zbo]at h
   have h1:hd (xhead M T G DCall ops H0 rest (i+1) (consD o.dst (.d (.tup [])) env) (effs++[⟨.d (.tup []),[],none,[],lo⟩]) lo k):=by
    cases e:o.dst with
    | none=>rw[e]at h;exact h
    | some t=>rw[e]at h;exact h
   exact⟨_,.no hg,zfi ok hT hD hk rest _ _ _ _ h1⟩
  ·exact qal
end Go.AL
namespace Go.AL
open Go
variable{G:Nat->Option (List D)}{P:Program}
variable{M:Om}{hd:M.W->Prop}{T:Tab}
variable{r:Option Nat}{n b:Nat}{ms:List Nat}{st:St}
def headOp(o:Oper):Bool:=match o.op with
 | .store _ _ _=>false
 | .assign _=>false
 | .call ⟨.builtin .append,_,_⟩=>false
 | .call ⟨.builtin .copy,_,_⟩=>false
 | .call ⟨.builtin .clear,_,_⟩=>false
 | .mapUpdate _ _ _ _=>false
 | .insert _ _ _ _=>false
 | _=>true
def textOnly(o:Oper):Bool:=o.after.toList.any fun e=>match e.ground with
 | .textOnly _=>true
 | _=>false
def headM:List Oper->Nat->Nat
 | [],m=>m
 | o::l,m=>match headOp o||textOnly o with
  | true=>headM l (m+1)
  | false=>m
def dstsOk(n:Nat):List Oper->Bool
 | []=>true
 | o::l=>dstOk o.dst n&&dstsOk n l
theorem zcv{n:Nat}:∀{l:List Oper},dstsOk n l=true->∀ o,o∈l->dstOk o.dst n=true
 | [],_,o,h=>by cases h
 | a::l,h,o,ho=>by
  simp only[dstsOk,Bool.and_eq_true]at h
  rcases List.mem_cons.1 ho with e|e
  ·rw[e];exact h.1
  ·exact zcv h.2 o e
def chkCode(n:Nat):Code->Bool
 | .region _ ops false=>dstsOk n ops.toList
 | .region _ ops true=>dstsOk n ops.toList&&headB ops (headM ops.toList 0) n
 | .seq c d=>chkCode n c&&chkCode n d
 | .cond _ c d=>chkCode n c&&chkCode n d
 | .block _ c=>chkCode n c
 | .loop c=>chkCode n c
 | .rangeFunc _ _ c d=>chkCode n c&&chkCode n d
 | .scope c=>chkCode n c
 | _=>true
abbrev LoopT(M:Om):=Code->St->(Exit->St->M.W)->M.W
def nextK{W:Type}(e:Exit)(st:St)(N:St->W)(k:Exit->St->W):W:=match e with
 | .normal=>N st
 | e=>k e st
def blockK{W:Type}(id:Nat)(e:Exit)(st:St)(k:Exit->St->W):W:=match e with
 | .exit i=>match Nat.beq i id with
  | true=>k .normal st
  | false=>k (.exit i) st
 | e=>k e st
def scopeK{M:Om}(e:Exit)(st:St)(k:Exit->St->M.W):M.W:=match e with
 | .goto _=>M.bad
 | e=>k e st
abbrev XC(M:Om):=St->(Exit->St->M.W)->M.W
def xcond(M:Om)(G:Nat->Option (List D))(c:Operand)(st:St)(x y:M.W):M.W:=match st.ev G c with
 | .d (.bool true)=>x
 | .d (.bool false)=>y
 | _=>M.bad
noncomputable def xregion(M:Om)(T:Tab)(G:Nat->Option (List D))(Call:CallT M)(DCall:DCallT M)(ops:Array Oper)(draw:Bool):XC M:=match draw with
 | false=>fun st k=>xops M T G Call ops ops.toList st (k .normal)
 | true=>fun st k=>match st with
  | ⟨e,h,nx⟩=>xhead M T G DCall ops h (ops.toList.take (headM ops.toList 0)) 0 e [] nx fun env effs nx=>M.hp (heapOf effs h) fun h' =>
   xops M T G Call ops (ops.toList.drop (headM ops.toList 0)) ⟨env,h',nx⟩ (k .normal)
noncomputable def xcode(M:Om)(T:Tab)(G:Nat->Option (List D))(Call:CallT M)(DCall:DCallT M)(Loop:LoopT M)(c:Code):XC M :=
 @Code.rec (fun _=>XC M)
  (fun st k=>k .normal st)
  (fun _ ops draw=>xregion M T G Call DCall ops draw)
  (fun _ _ ihc ihd st k=>ihc st fun e st'=>nextK e st' (fun st'=>ihd st' k) k)
  (fun c _ _ ihx ihy st k=>xcond M G c st (ihx st k) (ihy st k))
  (fun id _ ih st k=>ih st fun e st'=>blockK id e st' k)
  (fun c _ st k=>Loop c st k)
  (fun _ _ _ _ _ _ _ _=>M.bad)
  (fun id st k=>k (.exit id) st)
  (fun _ ih st k=>ih st fun e st'=>scopeK e st' k)
  (fun _ st k=>k .normal st)
  (fun _ _ _=>M.bad)
  (fun st k=>k .ret st)
  (fun _ _ _=>M.bad) c
def LoopOk(P:Program)(G:Nat->Option (List D))(M:Om)(hd:M.W->Prop)(r:Option Nat)(n b:Nat)(ms:List Nat)(Loop:LoopT M):Prop :=
 ∀ c st k,chkCode n c=true->hd (Loop c st k)->AWP r P G n b (.loop c) st ms fun e st' ms'=>ms'=ms/\hd (k e st')
variable{Call:CallT M}{DCall:DCallT M}{Loop:LoopT M}
structure XOk (P:Program) (G:Nat->Option (List D)) (M:Om) (hd:M.W->Prop) (T:Tab) (Call:CallT M) (DCall:DCallT M):Prop where
 ok:OmOk M hd
 tab:TabOk P T
 call:CallOk P G M hd Call
 dcall:DCallOk P G M hd DCall
 mixed:P.follows .mixedOrders=true
theorem za0(hx:XOk P G M hd T Call DCall)(hl:LoopOk P G M hd r n b ms Loop):∀(c:Code) (st:St) (k:Exit->St->M.W),chkCode n c=true->hd (xcode M T G Call DCall Loop c st k) ->
  AWP r P G n b c st ms fun e st' ms'=>ms'=ms/\hd (k e st')
 | .skip,st,k,_,h=>zi7 ⟨rfl,h⟩
 | .ret,st,k,_,h=>zh3 ⟨rfl,h⟩
 | .exit id,st,k,_,h=>zi9 ⟨rfl,h⟩
 | .seq c d,st,k,hc,h=>by
  simp only[chkCode,Bool.and_eq_true]at hc
  refine ze3 (zay (za0 hx hl c st _ hc.1 h) ?_)
  rintro e s m ⟨hm,h⟩
  rw[hm]
  cases e with
  | normal=>exact za0 hx hl d s k hc.2 h
  | _=>exact⟨rfl,h⟩
 | .cond c x y,st,k,hc,h=>by
  simp only[chkCode,Bool.and_eq_true]at hc
  change hd (xcond M G c st (xcode M T G Call DCall Loop x st k) (xcode M T G Call DCall Loop y st k)) at h
  unfold xcond at h
  split at h
  ·rename_i hv;exact zdo hv (fun _=>za0 hx hl x st k hc.1 h) (fun e=>by cases e)
  ·rename_i hv;exact zdo hv (fun e=>by cases e) (fun _=>za0 hx hl y st k hc.2 h)
  ·exact qcr
 | .block id c,st,k,hc,h=>by
  refine zgn (zay (za0 hx hl c st _ hc h) ?_)
  rintro e s m ⟨hm,h⟩
  rw[hm]
  cases e with
  | exit i =>
   simp only[blockQ]
   simp only[blockK]at h
   split at h
   ·exact qbc
   ·exact qbc
  | _=>exact⟨rfl,h⟩
 | .region id ops false,st,k,hc,h=>by
  refine zd9 ?_
  have:=zbw (r:=r) (b:=b) (ms:=ms) hx.ok hx.tab hx.call ops.toList st (zcv hc) h
  simpa using this
 | .region id ops true,st,k,hc,h=>by
  simp only[chkCode,Bool.and_eq_true]at hc
  obtain⟨e,hh,nx⟩:=st
  change hd (xhead M T G DCall ops hh (ops.toList.take (headM ops.toList 0)) 0 e [] nx fun env effs nx=>M.hp (heapOf effs hh) fun h'=>xops M T G Call ops (ops.toList.drop (headM ops.toList 0)) ⟨env,h',nx⟩ (k .normal)) at h
  refine zwn (headM ops.toList 0) hx.mixed hc.2 (zfi hx.ok hx.tab hx.dcall (fun env effs nx h=>?_) _ _ _ _ _ h)
  obtain⟨y,hy,h⟩:=hx.ok.h_hp h
  refine⟨y,hy,?_⟩
  have:=zbw (r:=r) (b:=b) (ms:=ms) hx.ok hx.tab hx.call _ _ (fun o ho=>zcv hc.1 o (List.mem_of_mem_drop ho)) h
  simpa using this
 | .loop c,st,k,hc,h=>hl c st k hc h
 | .rangeFunc ..,st,k,_,h=>(hx.ok.h_bad h).elim
 | .scope c,st,k,hc,h=>by
  refine zgl (zay (za0 hx hl c st _ hc h) ?_)
  rintro e s m ⟨hm,h⟩
  rw[hm]
  cases e with
  | goto l=>exact(hx.ok.h_bad h).elim
  | _=>exact⟨rfl,h⟩
 | .label _,st,k,_,h=>zgm ⟨rfl,h⟩
 | .goto _,st,k,_,h=>(hx.ok.h_bad h).elim
 | .refuse _,st,k,_,h=>(hx.ok.h_bad h).elim
def rangeK(M:Om)(st:St)(ms:List Nat)(H':AHeap)(nx':Nat)(k:Exit->St->List Nat->M.W):M.W:=match st with
 | ⟨env,_,nx⟩=>match H'.get (nx+1) with
  | some (.lp _ _ _ _ _ s p _)=>match s with
   | .busy=>M.bad
   | _=>match p with
    | none=>spine (H'.del (nx+1)) fun h=>k .normal ⟨env,h,nx'⟩ (nx::ms)
    | some .ret=>spine (H'.del (nx+1)) fun h=>k .ret ⟨env,h,nx'⟩ (nx::ms)
    | some (.exit id)=>spine (H'.del (nx+1)) fun h=>k (.exit id) ⟨env,h,nx'⟩ (nx::ms)
    | _=>M.bad
  | _=>M.bad
theorem rangeK_ok(ok:OmOk M hd){H':AHeap}{nx':Nat}{k:Exit->St->List Nat->M.W}(h:hd (rangeK M st ms H' nx' k)):RangeEnd (fun e s m=>hd (k e s m)) st ms H' nx':=by
 obtain⟨env,hh,nx⟩:=st
 unfold rangeK at h
 simp only[zbo]at h
 split at h
 ·rename_i env2 n2 ps as body s p d hg
  have hs:s ≠ .busy:=fun e=>by subst e;exact ok.h_bad h
  refine⟨env2,n2,ps,as,body,s,p,d,hg,hs,?_⟩
  cases s with
  | busy=>exact absurd rfl hs
  | ready=>simp only at h;split at h<;>first|exact h|exact(ok.h_bad h).elim
  | done=>simp only at h;split at h<;>first|exact h|exact(ok.h_bad h).elim
  | exhausted=>simp only at h;split at h<;>first|exact h|exact(ok.h_bad h).elim
 ·exact qal
abbrev XC1(M:Om):=St->List Nat->(Exit->St->List Nat->M.W)->M.W
def xrange(M:Om)(G:Nat->Option (List D))(Call:CallT M)(n:Nat)(g:Operand)(ps:Array Tmp)(assign body:Code):XC1 M:=fun st ms k=>match st with
  | ⟨env,h,nx⟩=>match fnOf (St.ev G ⟨env,h,nx⟩ g) with
   | some (f,fi,ca)=>forceL (fi++[.yld (nx+1)]++ca) fun l=>Call.fn f l (enterH n ⟨env,h,nx⟩ ps assign body) (nx+2) fun _ H' nx'=>rangeK M ⟨env,h,nx⟩ ms H' nx' k
   | none=>M.bad
noncomputable def zuc(M:Om)(T:Tab)(G:Nat->Option (List D))(Call:CallT M)(DCall:DCallT M)(Loop:List Nat->LoopT M)(n:Nat)(c:Code):XC1 M :=
 @Code.rec (fun _=>XC1 M)
  (fun st ms k=>k .normal st ms)
  (fun _ ops draw st ms k=>xregion M T G Call DCall ops draw st fun e s=>k e s ms)
  (fun _ _ ihc ihd st ms k=>ihc st ms fun e st' ms'=>nextK e st' (fun st'=>ihd st' ms' k) fun e s=>k e s ms')
  (fun c _ _ ihx ihy st ms k=>xcond M G c st (ihx st ms k) (ihy st ms k))
  (fun id _ ih st ms k=>ih st ms fun e st' ms'=>blockK id e st' fun e s=>k e s ms')
  (fun c _ st ms k=>Loop ms c st fun e s=>k e s ms)
  (fun g ps assign body _ _=>xrange M G Call n g ps assign body)
  (fun id st ms k=>k (.exit id) st ms)
  (fun _ ih st ms k=>ih st ms fun e st' ms'=>scopeK e st' fun e s=>k e s ms')
  (fun _ st ms k=>k .normal st ms)
  (fun _ _ _ _=>M.bad)
  (fun st ms k=>k .ret st ms)
  (fun _ _ _ _=>M.bad) c
theorem zb9{Loop:List Nat->LoopT M}(hx:XOk P G M hd T Call DCall)(hl:∀ ms,LoopOk P G M hd none n b ms (Loop ms)):∀(c:Code) (st:St) (ms:List Nat) (k:Exit->St->List Nat->M.W),chkCode n c=true ->
  hd (zuc M T G Call DCall Loop n c st ms k)->AWP none P G n b c st ms fun e st' ms'=>hd (k e st' ms')
 | .seq c d,st,ms,k,hc,h=>by
  simp only[chkCode,Bool.and_eq_true]at hc
  refine ze3 (zay (zb9 hx hl c st ms _ hc.1 h) ?_)
  intro e s m h
  cases e with
  | normal=>exact zb9 hx hl d s m k hc.2 h
  | _=>exact h
 | .cond c x y,st,ms,k,hc,h=>by
  simp only[chkCode,Bool.and_eq_true]at hc
  change hd (xcond M G c st (zuc M T G Call DCall Loop n x st ms k) (zuc M T G Call DCall Loop n y st ms k)) at h
  unfold xcond at h
  split at h
  ·rename_i hv;exact zdo hv (fun _=>zb9 hx hl x st ms k hc.1 h) (fun e=>by cases e)
  ·rename_i hv;exact zdo hv (fun e=>by cases e) (fun _=>zb9 hx hl y st ms k hc.2 h)
  ·exact qcr
 | .block id c,st,ms,k,hc,h=>by
  refine zgn (zay (zb9 hx hl c st ms _ hc h) ?_)
  intro e s m h
  cases e with
  | exit i =>
   simp only[blockQ]
   simp only[blockK]at h
   split at h
   ·rename_i q;simp only[q];exact h
   ·rename_i q;simp only[q];exact h
  | _=>exact h
 | .rangeFunc g ps assign body,st,ms,k,hc,h=>by
  obtain⟨env,hh,nx⟩:=st
  change hd (xrange M G Call n g ps assign body ⟨env,hh,nx⟩ ms k) at h
  unfold xrange at h
  simp only at h
  split at h
  ·rename_i f fi ca hg
   rw[za2]at h
   obtain⟨h1,h2⟩:=hx.call.fn _ _ _ _ _ h
   refine zpw hg h1 rfl ?_
   intro C vs a1 a2 a3 a4
   refine(h2 C vs a1 a2 a3 a4).mono ?_
   rintro e w' ⟨y,v,H',n',C',q1,q2,q3,q4⟩
   exact⟨y,v,H',n',C',q1,q2,rangeK_ok hx.ok q3,q4⟩
  ·exact qcr
 | .skip,st,ms,k,_,h=>zi7 h
 | .ret,st,ms,k,_,h=>zh3 h
 | .exit id,st,ms,k,_,h=>zi9 h
 | .region id ops bb,st,ms,k,hc,h=>zay (za0 hx (hl ms) (.region id ops bb) st _ hc h) fun e s m ⟨hm,h⟩=>by rw[hm];exact h
 | .loop c,st,ms,k,hc,h=>zay (hl ms c st _ hc h) fun e s m ⟨hm,h⟩=>by rw[hm];exact h
 | .scope c,st,ms,k,hc,h=>by
  refine zgl (zay (zb9 hx hl c st ms _ hc h) ?_)
  intro e s m h
  cases e with
  | goto l=>exact(hx.ok.h_bad h).elim
  | _=>exact h
 | .label _,st,ms,k,_,h=>zgm h
 | .goto _,st,ms,k,_,h=>(hx.ok.h_bad h).elim
 | .refuse _,st,ms,k,_,h=>(hx.ok.h_bad h).elim
def allBlt(n:Nat):List Nat->Bool
 | []=>true
 | p::l=>match Nat.blt p n with
  | true=>allBlt n l
  | false=>false
theorem zn6{n:Nat}:∀{l:List Nat},allBlt n l=true->∀ p,p∈l->p<n
 | [],_,p,h=>by cases h
 | q::l,h,p,hp=>by
  unfold allBlt at h
  split at h
  ·rename_i e
   rcases List.mem_cons.1 hp with x|x
   ·subst x;simpa using e
   ·exact zn6 h p x
  ·exact qed
def roundK(M:Om)(nm:Nat)(k:AV->AHeap->Nat->M.W)(e:Exit)(s:St):M.W:=match s with
 | ⟨_,h,nx⟩=>match h.get nm with
  | some (.lp env n ps assign body _ _ d)=>match e with
   | .normal=>spine (h.put nm (.lp env n ps assign body .ready none d)) fun h=>k (.d (.bool true)) h nx
   | .ret=>spine (h.put nm (.lp env n ps assign body .done (some .ret) d)) fun h=>k (.d (.bool false)) h nx
   | .exit id=>spine (h.put nm (.lp env n ps assign body .done (some (.exit id)) d)) fun h=>k (.d (.bool false)) h nx
   | _=>M.bad
  | _=>M.bad
theorem roundK_ok(ok:OmOk M hd){nm:Nat}{k:AV->AHeap->Nat->M.W}{e:Exit}{s:St}{m:List Nat}(hm:m=[])(h:hd (roundK M nm k e s)):RoundEnd nm (fun v H' nx'=>hd (k v H' nx')) e s m:=by
 obtain⟨env,hh,nx⟩:=s
 unfold roundK at h
 simp only[zbo]at h
 split at h
 ·rename_i env2 n2 ps as body s2 p2 d hg
  refine⟨hm,env2,n2,ps,as,body,s2,p2,d,hg,?_⟩
  split at h
  ·exact h
  ·exact h
  ·exact h
  ·exact qal
 ·exact qal
noncomputable def xround(M:Om)(T:Tab)(G:Nat->Option (List D))(Call:CallT M)(DCall:DCallT M)(Loop:Nat->LoopT M)(nm:Nat)(args:List AV)(H:AHeap)(nx:Nat)(k:AV->AHeap->Nat->M.W):M.W:=match H.get nm with
 | some (.lp env n ps assign body .ready none _)=>match Nat.beq ps.size args.length,allBlt n ps.toList,chkCode n assign,chkCode n body with
  | true,true,true,true=>spine (putsE ps.toList args env) fun env'=>xcode M T G Call DCall (Loop n) assign ⟨env',H,nx⟩ fun e s=>match e with
   | .normal=>match s with
    | ⟨env1,h1,nx1⟩=>match h1.get nm with
     | some (.lp env2 n2 ps2 as2 body2 .ready p2 d2)=>spine (h1.put nm (.lp env2 n2 ps2 as2 body2 .busy p2 d2)) fun h2=>xcode M T G Call DCall (Loop n) body ⟨env1,h2,nx1⟩ (roundK M nm k)
     | _=>M.bad
   | _=>M.bad
  | _,_,_,_=>M.bad
 | _=>M.bad
theorem zj1{Loop:Nat->LoopT M}(hx:XOk P G M hd T Call DCall){nm:Nat}{args:List AV}{H:AHeap}{nx:Nat}{k:AV->AHeap->Nat->M.W}(hl:∀ r n,LoopOk P G M hd r n nx [] (Loop n))
  (h:hd (xround M T G Call DCall Loop nm args H nx k)):ARound P G nm args H nx fun v H' nx'=>hd (k v H' nx'):=by
 unfold xround at h
 split at h
 ·rename_i env n ps assign body dnm hg
  split at h
  ·rename_i e1 e2 e3 e4
   simp only[zbo]at h
   refine⟨env,n,ps,assign,body,dnm,hg,Nat.eq_of_beq_eq_true e1,zn6 e2,fun r=>?_⟩
   refine zay (za0 hx (hl r n) assign _ _ e3 h) ?_
   rintro e s m ⟨hm,h⟩
   split at h
   ·obtain⟨env1,h1,nx1⟩:=s
    simp only at h
    split at h
    ·rename_i env2 n2 ps2 as2 body2 p2 d2 hg2
     refine⟨rfl,hm,env2,n2,ps2,as2,body2,p2,d2,hg2,?_⟩
     refine zay (za0 hx (hl r n) body _ _ e4 h) ?_
     rintro e s m ⟨hm,h⟩
     exact roundK_ok hx.ok hm h
    ·exact qcr
   ·exact qcr
  ·exact qcr
 ·exact qcr
def xres(M:Om)(T:Tab)(st:St)(rv:ResultVar)(k:AV->M.W):M.W:=match rv with
 | .tmp t=>(lk st.env t).force k
 | .cell a t=>match T.get t with
  | none=>M.bad
  | some ty=>match agS ty.k.ag ty.S with
   | false=>M.bad
   | true=>match lk st.env a with
    | .ptr nm sz idx off=>match st.heap.get nm with
     | some (.arr sz' els)=>match Nat.beq sz' sz with
      | true=>M.look els[idx]? fun el=>match Nat.beq ((el.drop off).take ty.S).length ty.S with
       | true=>fCells ty.k.ag ((el.drop off).take ty.S) k
       | false=>M.bad
      | false=>M.bad
     | _=>M.bad
    | _=>M.bad
theorem zb5(ok:OmOk M hd)(hT:TabOk P T){rv:ResultVar}{k:AV->M.W}(h:hd (xres M T st rv k)):∃ v,ResRel P G st rv v/\hd (k v):=by
 unfold xres at h
 split at h
 ·rw[AV.force_eq]at h;exact⟨_,.tmp _,h⟩
 ·split at h
  ·exact qal
  rename_i ty hg
  split at h
  ·exact qal
  rename_i hS
  split at h
  ·rename_i nm sz idx off hx
   split at h
   ·rename_i sz' els hh
    split at h
    ·rename_i e
     have e:=Nat.eq_of_beq_eq_true e
     subst e
     obtain⟨el,h1,h2⟩:=ok.h_look h
     split at h2
     ·rename_i hl
      rw[zix]at h2
      exact⟨_,.cell _ _ _ _ _ _ _ _ _ _ _ _ _ (hT.get hg).tok (zwu hS) hx hh h1 rfl (Nat.eq_of_beq_eq_true hl),h2⟩
     ·exact(ok.h_bad h2).elim
    ·exact qal
   ·exact qal
  ·exact qal
def xresults(M:Om)(T:Tab)(st:St)(rs:List ResultVar)(k:AV->M.W):M.W:=match rs with
 | []=>k (.d (.tup []))
 | [a]=>xres M T st a k
 | [a,b]=>xres M T st a fun v=>xres M T st b fun u=>(mkTup [v,u]).shown k
 | [a,b,c]=>xres M T st a fun v=>xres M T st b fun u=>xres M T st c fun x=>(mkTup [v,u,x]).shown k
 | [a,b,c,d]=>xres M T st a fun v=>xres M T st b fun u=>xres M T st c fun x=>xres M T st d fun y=>(mkTup [v,u,x,y]).shown k
 | _=>M.bad
theorem zhf(ok:OmOk M hd)(hT:TabOk P T){rs:Array ResultVar}{k:AV->M.W}(h:hd (xresults M T st rs.toList k)):∃ v,ResV P G st rs v/\hd (k v):=by
 obtain⟨l⟩:=rs
 simp only at h
 unfold xresults at h
 split at h
 ·exact⟨_,.zero,h⟩
 ·obtain⟨v,h1,h2⟩:=zb5 ok hT h
  exact⟨_,.one _ _ h1,h2⟩
 ·obtain⟨v,h1,h⟩:=zb5 ok hT h
  obtain⟨u,h2,h⟩:=zb5 ok hT h
  rw[AV.shown_eq]at h
  exact⟨_,.two _ _ _ _ h1 h2,h⟩
 ·obtain⟨v,h1,h⟩:=zb5 ok hT h
  obtain⟨u,h2,h⟩:=zb5 ok hT h
  obtain⟨x,h3,h⟩:=zb5 ok hT h
  rw[AV.shown_eq]at h
  exact⟨_,.three _ _ _ _ _ _ h1 h2 h3,h⟩
 ·obtain⟨v,h1,h⟩:=zb5 ok hT h
  obtain⟨u,h2,h⟩:=zb5 ok hT h
  obtain⟨x,h3,h⟩:=zb5 ok hT h
  obtain⟨y,h4,h⟩:=zb5 ok hT h
  rw[AV.shown_eq]at h
  exact⟨_,.four _ _ _ _ _ _ _ _ h1 h2 h3 h4,h⟩
 ·exact qal
def endM(M:Om)(T:Tab)(rs:List ResultVar)(k:AV->AHeap->Nat->M.W)(st:St)(ms:List Nat):M.W:=match st with
 | ⟨e,h,nx⟩=>match ms with
  | []=>xresults M T ⟨e,h,nx⟩ rs fun v=>k v h nx
  | ms=>match marksOk ms h with
   | true=>spine (dels ms h) fun h=>xresults M T ⟨e,h,nx⟩ rs fun v=>k v h nx
   | false=>M.bad
def endK(M:Om)(T:Tab)(rs:List ResultVar)(k:AV->AHeap->Nat->M.W)(e:Exit)(st:St)(ms:List Nat):M.W:=match e with
 | .normal=>endM M T rs k st ms
 | .ret=>endM M T rs k st ms
 | _=>M.bad
theorem zjq(ok:OmOk M hd)(hT:TabOk P T){rs:Array ResultVar}{k:AV->AHeap->Nat->M.W}(h:hd (endM M T rs.toList k st ms)) :
  marksOk ms st.heap=true /\ ∃ v,ResV P G ⟨st.env,dels ms st.heap,st.nx⟩ rs v/\hd (k v (dels ms st.heap) st.nx):=by
 obtain⟨env,hh,nx⟩:=st
 unfold endM at h
 simp only[zbo]at h
 split at h
 ·obtain⟨v,h1,h2⟩:=zhf (P:=P) (G:=G) ok hT h
  exact⟨rfl,v,h1,h2⟩
 ·split at h
  ·rename_i hm
   obtain⟨v,h1,h2⟩:=zhf (P:=P) (G:=G) ok hT h
   exact⟨hm,v,h1,h2⟩
  ·exact qal
def chkFn (fn : Func) : Bool := !(fn.name == "runtime.NumGoroutine") && match fn.body with
 | some c=>chkCode fn.ntmps c
 | none=>false
noncomputable def xfn(M:Om)(T:Tab)(G:Nat->Option (List D))(Call:CallT M)(DCall:DCallT M)(Loop:List Nat->LoopT M)(fn:Func)(args:List AV)(H:AHeap)(nx:Nat)(k:AV->AHeap->Nat->M.W):M.W:=match fn.body with
 | some c=>match Nat.ble args.length fn.ntmps with
  | true=>spine (enum 0 args) fun e=>zuc M T G Call DCall Loop fn.ntmps c ⟨e,H,nx⟩ [] (endK M T fn.results.toList k)
  | false=>M.bad
 | none=>M.bad
theorem zla{Loop:List Nat->LoopT M}(hx:XOk P G M hd T Call DCall){f:FuncId}{fn:Func}{args:List AV}{H:AHeap}{nx:Nat}{k:AV->AHeap->Nat->M.W}(hl:∀ ms,LoopOk P G M hd none fn.ntmps nx ms (Loop ms))(hf:P.funcs[f]?=some fn)(hc:chkFn fn=true)
  (h:hd (xfn M T G Call DCall Loop fn args H nx k)):ACall P G f args H nx fun v H' nx'=>hd (k v H' nx'):=by
 unfold xfn at h
 split at h
 ·rename_i c hb
  split at h
  ·rename_i hn
   simp only[chkFn,hb,Bool.and_eq_true]at hc
   simp only[zbo]at h
   refine zd0 hf hb (Nat.le_of_ble_eq_true hn) (zay (zb9 hx hl c _ _ _ hc.2 h) ?_)
   intro e s m h
   cases e with
   | normal=>exact⟨.inl rfl,zjq hx.ok hx.tab h⟩
   | ret=>exact⟨.inr rfl,zjq hx.ok hx.tab h⟩
   | _=>exact(hx.ok.h_bad h).elim
  ·exact qcr
 ·exact qcr
theorem za3{f:FuncId}{fn:Func}(hf:P.funcs[f]?=some fn)(hc:chkFn fn=true):IsFn P f:=by
 simp only[chkFn,Bool.and_eq_true,Bool.not_eq_true']at hc
 refine⟨fn,hf,hc.1,?_⟩
 cases hb:fn.body with
 | none=>rw[hb]at hc;simp at hc
 | some c=>rfl
end Go.AL
namespace Go.AL
open Go
variable{P:Program}
def fldOf(P:Program)(f:Field):Option (Nat×Nat×Bool):=match P.info? f.type,P.underlying f.type with
 | some ti,some d=>match ti.zero with
  | some zv=>match Nat.beq zv.cells.size ti.size,Nat.blt 0 ti.size with
   | true,true=>some (f.offset,ti.size,aggDesc d)
   | _,_=>none
  | none=>none
 | _,_=>none
def keyOf(P:Program)(kt:Nat):Option (Bool×Nat):=match P.underlying kt with
 | some (.int _)=>some (false,1)
 | some (.struct l)=>match flatB P kt l.toList.length with
  | true=>some (true,l.toList.length)
  | false=>none
 | _=>none
theorem keyOf_ok{kt S:Nat}{ag:Bool}(h:keyOf P kt=some (ag,S)):KeyOk P kt ag S:=by
 unfold keyOf at h
 split at h
 ·rename_i hu;cases h;exact keyOk_int hu
 ·rename_i l hu
  split at h
  ·rename_i hf;cases h;exact zxs hf ⟨l,hu⟩
  ·exact qed
 ·exact qed
def mkTy(P:Program)(t:Nat):Option Ty:=match P.info? t,P.underlying t with
 | some ti,some d=>match ti.zero with
  | some zv=>match Nat.beq zv.cells.size ti.size with
   | true=>match d with
    | .int k=>some ⟨false,ti.size,ti.bytes,constD zv,.int k⟩
    | .bool=>some ⟨false,ti.size,ti.bytes,constD zv,.bool⟩
    | .slice e=>some ⟨false,ti.size,ti.bytes,constD zv,.sl e⟩
    | .array n e=>some ⟨flatB P t ti.size,ti.size,ti.bytes,constD zv,.arr n e⟩
    | .struct l=>match mapO (fldOf P) l.toList with
     | some fs=>some ⟨flatB P t ti.size,ti.size,ti.bytes,constD zv,.st fs⟩
     | none=>none
    | .map kt et=>match keyOf P kt with
     | some (ag,S)=>some ⟨false,ti.size,ti.bytes,constD zv,.map kt et ag S⟩
     | none=>none
    | _=>some ⟨false,ti.size,ti.bytes,constD zv,.oth⟩
   | false=>none
  | none=>none
 | _,_=>none
theorem zv5{f:Field}{off S:Nat}{ag:Bool}(h:fldOf P f=some (off,S,ag)):f.offset=off/\0<S /\ ∃ B z,TOk P f.type ag S B z:=by
 unfold fldOf at h
 split at h
 ·rename_i ti d hi hu
  split at h
  ·rename_i zv hz
   split at h
   ·rename_i e1 e2
    simp only[Option.some.injEq,Prod.mk.injEq]at h
    obtain⟨rfl,rfl,rfl⟩:=h
    exact⟨rfl,by simpa using e2,ti.bytes,constD zv,⟨ti,hi,rfl,rfl,zv,hz,Nat.eq_of_beq_eq_true e1,fun w RO=>zg5 w RO zv⟩,d,hu,rfl⟩
   ·exact qed
  ·exact qed
 ·exact qed
theorem znl(w:World):∀(l:List Field) (fs:List (Nat×Nat×Bool)),mapO (fldOf P) l=some fs ->
  (l.mapM fun f=>Prod.mk f.offset <$> sizeOf f.type).run P w = .ok (fs.map fun x=>(x.1,x.2.1)) w
 | [],fs,h=>by cases h;simp
 | f::l,fs,h=>by
  unfold mapO at h
  split at h
  ·rename_i b hb
   split at h
   ·rename_i m hm
    cases h
    obtain⟨off,S,ag⟩:=b
    obtain⟨q1,q2,B,z,q3⟩:=zv5 hb
    have hs:=EOk.size (w:=w) q3.1
    have ih:=znl w l m hm
    simp[List.mapM_cons,hs,ih,q1]
   ·exact qed
  ·exact qed
theorem mkTy_eq{t:Nat}{ty:Ty}(h:mkTy P t=some ty)(he:ty.eq=true):FlatEq P t ty.S:=by
 unfold mkTy at h
 split at h
 ·split at h
  ·split at h
   ·split at h
    ·cases h;cases he
    ·cases h;cases he
    ·cases h;cases he
    ·cases h;exact zpg he
    ·split at h
     ·cases h;exact zpg he
     ·exact qed
    ·split at h
     ·cases h;cases he
     ·exact qed
    ·cases h;cases he
   ·exact qed
  ·exact qed
 ·exact qed
theorem mkTy_ok0{t:Nat}{ty:Ty}(h:mkTy P t=some ty):TyOk P t ty:=by
 unfold mkTy at h
 split at h
 ·rename_i ti d hi hu
  split at h
  ·rename_i zv hz
   split at h
   ·rename_i e1
    have e1:=Nat.eq_of_beq_eq_true e1
    have hE:EOk P t ti.size ti.bytes (constD zv):=⟨ti,hi,rfl,rfl,zv,hz,e1,fun w RO=>zg5 w RO zv⟩
    split at h
    ·cases h;exact⟨hE,hu⟩
    ·cases h;exact⟨hE,hu⟩
    ·cases h;exact⟨hE,hu⟩
    ·cases h;exact⟨hE,hu⟩
    ·rename_i l
     split at h
     ·rename_i fs hfs
      cases h
      obtain⟨m1,m2⟩:=zbn hfs
      refine⟨hE,l,hu,fun i off S ag hf=>?_,fun w=>?_⟩
      ·have hlt:i<l.toList.length:=by rw[m1];exact(List.getElem?_eq_some_iff.1 hf).1
       have hg:l.toList[i]?=some l.toList[i]:=List.getElem?_eq_getElem hlt
       obtain⟨q1,q2,B,z,q3⟩:=zv5 (m2 i _ _ hg hf)
       exact⟨l.toList[i],B,z,by simp,q1,q2,q3⟩
      ·have hl:=znl w l.toList fs hfs
       rw[Array.mapM_eq_mapM_toList]
       simp[hl]
     ·exact qed
    ·split at h
     ·rename_i kt et _ ag S hk
      cases h
      exact⟨hE,hu,keyOf_ok hk⟩
     ·exact qed
    ·cases h
     rename_i n1 n2 n3 n4 n5 n6
     refine⟨hE,d,hu,?_⟩
     cases d<;>simp_all[aggDesc]
   ·exact qed
  ·exact qed
 ·exact qed
theorem zao{t:Nat}{ty:Ty}(h:mkTy P t=some ty):TyOk P t ty/\(ty.eq=true->FlatEq P t ty.S):=⟨mkTy_ok0 h,mkTy_eq h⟩
end Go.AL
namespace Go.AL
open Go
variable{G:Nat->Option (List D)}{P:Program}{T:Tab}
structure Ex where
 call:FuncId->List AV->AHeap->Nat->Option (AV×AHeap×Nat)
 loop:Nat->Code->St->Option (Exit×St)
 rd:Nat->List AV->AHeap->Nat->Option (AV×AHeap×Nat)
def exCall(R:Type)(x:Ex):CallT (omR R) :=
 ⟨fun f l H nx k=>match x.call f l H nx with
  | some (v,H',nx')=>k v H' nx'
  | none=>none,
 fun nm l H nx k=>match x.rd nm l H nx with
  | some (v,H',nx')=>k v H' nx'
  | none=>none⟩
def exDCall(R:Type)(x:Ex):DCallT (omR R):=fun f ds k=>match x.call f (ds.map .d) [] 0 with
 | some (v,H',nx')=>k v H' nx'
 | none=>none
def exLoop(R:Type)(x:Ex)(b:Nat):LoopT (omR R):=fun c st k=>match x.loop b c st with
 | some (e,st')=>k e st'
 | none=>none
def mark(H:AHeap):Nat->List Nat->List Nat->List Nat
 | 0,_,seen=>seen
 | _+1,[],seen=>seen
 | q+1,n::todo,seen=>match elemN n seen with
  | true=>mark H q todo seen
  | false=>match H.get n with
   | some (.arr _ els)=>mark H q (els.foldr nmSs todo) (n::seen)
   | some (.lp env _ _ _ _ _ _ dnm)=>mark H q (dnm::nmSs (env.map (·.2)) todo) (n::seen)
   | _=>mark H q todo (n::seen)
def keep(b:Nat)(seen:List Nat):AHeap->AHeap
 | []=>[]
 | (n,bl)::H=>match Nat.blt n b with
  | true=>(n,bl)::keep b seen H
  | false=>match elemN n seen with
   | true=>(n,bl)::keep b seen H
   | false=>keep b seen H
def long{α:Type}:Nat->List α->Bool
 | 0,_=>true
 | _+1,[]=>false
 | n+1,_::l=>long n l
def gc(b:Nat)(roots:List AV)(H:AHeap):AHeap:=match long 40 H with
 | true=>keep b (mark H 2000 (nmSs roots []) []) H
 | false=>H
theorem zo3(b:Nat)(seen:List Nat)(nm:Nat)(hs:(Nat.blt nm b||elemN nm seen)=true):∀(H:AHeap),(keep b seen H).get nm=H.get nm
 | []=>rfl
 | (n,bl)::H=>by
  have ih:=zo3 b seen nm hs H
  have here:AHeap.get ((n,bl)::keep b seen H) nm=AHeap.get ((n,bl)::H) nm:=by
   by_cases e:nm=n
   ·subst e;rw[zaf,zaf]
   ·rw[zad _ _ e,zad _ _ e,ih]
  unfold keep
  split
  ·exact here
  ·rename_i h1
   split
   ·exact here
   ·rename_i h2
    have e:nm≠n:=fun e=>by subst e;rw[h1,h2]at hs;cases hs
    rw[zad _ _ e,ih]
theorem zo2(b:Nat)(seen:List Nat)(nm:Nat)(hs:(Nat.blt nm b||elemN nm seen)=false):∀(H:AHeap),(keep b seen H).get nm=none
 | []=>rfl
 | (n,bl)::H=>by
  have ih:=zo2 b seen nm hs H
  simp only[Bool.or_eq_false_iff]at hs
  unfold keep
  split
  ·rename_i h1
   have e:nm≠n:=fun e=>by subst e;rw[h1]at hs;cases hs.1
   rw[zad _ _ e,ih]
  ·split
   ·rename_i h2
    have e:nm≠n:=fun e=>by subst e;rw[h2]at hs;cases hs.2
    rw[zad _ _ e,ih]
   ·exact ih
theorem gc_get{b:Nat}{roots:List AV}{H:AHeap}:∀ nm bl,(gc b roots H).get nm=some bl->H.get nm=some bl:=by
 intro nm bl h
 unfold gc at h
 split at h
 ·cases hs:Nat.blt nm b||elemN nm (mark H 2000 (nmSs roots []) []) with
  | true=>rw[zo3 _ _ _ hs]at h;exact h
  | false=>rw[zo2 _ _ _ hs]at h;cases h
 ·exact h
def dedupe:List Nat->List (Nat×AV)->List (Nat×AV)
 | _,[]=>[]
 | seen,(t,v)::l=>match elemN t seen with
  | true=>dedupe seen l
  | false=>(t,v)::dedupe (t::seen) l
theorem zml(m:Nat):∀(l:List (Nat×AV)) (seen:List Nat),elemN m seen=false->lk (dedupe seen l) m=lk l m
 | [],seen,_=>rfl
 | (t,v)::l,seen,h=>by
  unfold dedupe
  split
  ·rename_i ht
   have e:m≠t:=fun e=>by subst e;rw[h]at ht;cases ht
   rw[zan _ _ e,zml m l seen h]
  ·by_cases e:m=t
   ·subst e;rw[zar,zar]
   ·rw[zan _ _ e,zan _ _ e]
    refine zml m l (t::seen) ?_
    have:Nat.beq t m=false:=by cases q:Nat.beq t m with
     | true=>exact absurd (Nat.eq_of_beq_eq_true q).symm e
     | false=>rfl
    simp[elemN,this,h]
def tidy(b:Nat)(st:St):St:=match long 120 st.env with
 | true=>{ env:=dedupe [] st.env,heap:=gc b (st.env.map (·.2)) st.heap,nx:=st.nx }
 | false=>{ env:=st.env,heap:=gc b (st.env.map (·.2)) st.heap,nx:=st.nx }
theorem tidy_sub{b b':Nat}{ms:List Nat}{st:St}:Sub G b' ms st (tidy b st):=by
 intro n C a hR
 have h1:∀ nm bl,(tidy b st).heap.get nm=some bl->st.heap.get nm=some bl:=by
  intro nm bl h
  unfold tidy at h
  split at h<;>exact gc_get nm bl h
 have h2:∀ t,lk (tidy b st).env t=lk st.env t:=by
  intro t
  unfold tidy
  split
  ·exact zml t st.env [] rfl
  ·rfl
 have h3:(tidy b st).nx=st.nx:=by unfold tidy;split<;>rfl
 exact⟨C,rfl,⟨hR.heap.anti h1,⟨hR.env.size,fun t=>by rw[h2];exact hR.env.env t⟩,fun m hm=>by rw[h3];exact hR.names m hm,hR.marks,hR.defers⟩,fun X hX=>(Tr.refl fun m hm=>(hX m hm).1).anti h1⟩
theorem zdv:∀(L:List Nat) {C:Ctx} {H:AHeap},HRel G C H->∃ C':Ctx,C'.w=C.w/\C'.U=C.U/\C'.β=C.β/\HRel G C' (dels L H)/\Tr C.U C H C' (dels L H)/\(∀ k,C.RO k->C'.RO k) /\ ∀ nm b k,nm∈L->H.get nm=some b->C.β nm=some k->C'.RO k
 | [],C,H,hH=>⟨C,rfl,rfl,rfl,hH,Tr.refl fun _ h=>h,fun _ h=>h,fun nm b k h=>by cases h⟩
 | m::L,C,H,hH=>by
  have one:∃ C1:Ctx,C1.w=C.w/\C1.U=C.U/\C1.β=C.β/\HRel G C1 (H.del m)/\Tr C.U C H C1 (H.del m)/\(∀ k,C.RO k->C1.RO k) /\ ∀ b k,H.get m=some b->C.β m=some k->C1.RO k:=by
   cases hg:H.get m with
   | none=>exact⟨C,rfl,rfl,rfl,hH.anti fun n b h=>qcq,(Tr.refl fun _ h=>h).anti fun n b h=>qcq,fun _ h=>h,fun b k h=>by cases h⟩
   | some b0 =>
    cases hb:C.β m with
    | none=>exact⟨C,rfl,rfl,rfl,hH.anti fun n b h=>qcq,(Tr.refl fun _ h=>h).anti fun n b h=>qcq,fun _ h=>h,fun b k _ h=>by cases h⟩
    | some kk =>
     obtain⟨h1,h2⟩:=zme hH hg hb
     exact⟨{ C with RO:=fun j=>C.RO j\/j=kk },rfl,rfl,rfl,h1,h2,fun _ h=>.inl h,fun b k _ h=>.inr (by cases h;rfl)⟩
  obtain⟨C1,w1,u1,b1,g1,t1,r1,q1⟩:=one
  obtain⟨C2,w2,u2,b2,g2,t2,r2,q2⟩:=zdv L g1
  refine⟨C2,w2.trans w1,u2.trans u1,b2.trans b1,g2,t1.trans (t2.weaken fun n hn=>by rw[u1];exact hn),fun k h=>r2 k (r1 k h),fun nm b k hm hg hb=>?_⟩
  rcases List.mem_cons.1 hm with e|e
  ·subst e;exact r2 k (q1 b k hg hb)
  ·by_cases en:nm=m
   ·subst en;exact r2 k (q1 b k hg hb)
   ·exact q2 nm b k e (by rw[za8,if_neg en];exact hg) (by rw[b1];exact hb)
theorem zhc{f:FuncId}{args:List AV}{ds:List D}{H HL:AHeap}{L:List Nat}{nx:Nat}{K:AV->AHeap->Nat->Prop}(h:ACall P G f (ds.map .d) (dels L H) nx K)(hl:args.length=ds.length)
  (hHL:∀ nm b,HL.get nm=some b->nm∈L/\H.get nm=some b) (ha:∀(i:Nat) (v:AV) (d:D),args[i]?=some v->ds[i]?=some d->AsD HL v d):ACall P G f args H nx K:=by
 intro C vs hH hU hs hr
 obtain⟨C',w',u',b',g,t,r,q⟩:=zdv L hH
 have hHL':HRel G C HL:=hH.anti fun nm b hg=>(hHL nm b hg).2
 rw[<- w']
 refine(h C' vs g (fun m hm=>hU m (by rw[<- u'];exact hm)) (by simpa using hs.trans hl) (fun i v hi=>?_)).mono ?_
 ·simp only[List.getElem?_map,Option.map_eq_some_iff]at hi
  obtain⟨d,hd,rfl⟩:=hi
  obtain⟨u,hu⟩:=zb0 hl hd
  have:=zfw hHL' (RO:=C'.RO) r (fun nm b k hg hb=>q nm b k (hHL nm b hg).1 (hHL nm b hg).2 hb) (ha i u d hu hd) _ (hr i u hu)
  exact .d _ _ (by rw[w'];exact this)
 ·rintro e w2 ⟨x,v,H',nx',C2,h1,h2,h3,h4,h5,h6,h7⟩
  exact⟨x,v,H',nx',C2,h1,h2,h3,h4,h5,h6,t.trans (h7.weaken fun m hm=>by rw[u'];exact hm)⟩
theorem zrn{n:Nat}:∀{l:List Nat},elemN n l=true->n∈l
 | [],h=>by cases h
 | m::l,h=>by
  unfold elemN at h
  split at h
  ·rename_i e;rw[Nat.eq_of_beq_eq_true e];simp
  ·exact List.mem_cons_of_mem _ (zrn h)
theorem zl7{L:List Nat}{H:AHeap}:∀ nm b,(keep 0 L H).get nm=some b->nm∈L/\H.get nm=some b:=by
 intro nm b h
 cases hs:Nat.blt nm 0||elemN nm L with
 | true =>
  rw[zo3 _ _ _ hs]at h
  refine⟨?_,h⟩
  have:Nat.blt nm 0=false:=rfl
  rw[this,Bool.false_or]at hs
  exact zrn hs
 | false=>rw[zo2 _ _ _ hs]at h;cases h
abbrev Ov:=FuncId->List D->Option D
def ovCall(O:Ov)(f:FuncId)(args:List AV)(H:AHeap)(nx:Nat)(k:Option (AV×AHeap×Nat)):Option (AV×AHeap×Nat):=match allD args with
 | some ds=>match O f ds with
  | some d=>some (.d d,H,nx)
  | none=>k
 | none=>match mapO (asDX (keep 0 (mark H 300 (nmSs args []) []) H) 9 []) args with
  | some ds=>match O f ds with
   | some d=>match d.flat with
    | true=>some (.d d,H,nx)
    | false=>some (.d d,dels (mark H 300 (nmSs args []) []) H,nx)
   | none=>k
  | none=>k
def OvOk(P:Program)(G:Nat->Option (List D))(O:Ov):Prop:=∀ f ds d,O f ds=some d->IsFn P f /\ ∀ H nx,ACall P G f (ds.map .d) H nx fun v H' n=>v = .d d/\H'=H/\n=nx
theorem ovCall_ok{O:Ov}(hO:OvOk P G O){f:FuncId}{args:List AV}{H:AHeap}{nx:Nat}{k:Option (AV×AHeap×Nat)}{v:AV}{H':AHeap}{nx':Nat}(h:ovCall O f args H nx k=some (v,H',nx')) :
  (IsFn P f/\ACall P G f args H nx fun v' H'' n''=>v'=v/\H''=H'/\n''=nx')\/k=some (v,H',nx'):=by
 unfold ovCall at h
 split at h
 ·rename_i ds hds
  split at h
  ·rename_i d hd
   simp only[Option.some.injEq,Prod.mk.injEq]at h
   obtain⟨rfl,rfl,rfl⟩:=h
   obtain⟨g1,g2⟩:=hO f ds d hd
   have:=zdz _ _ hds
   subst this
   exact .inl ⟨g1,g2 _ _⟩
  ·exact .inr h
 ·split at h
  ·rename_i ds hds
   split at h
   ·rename_i d hd
    obtain⟨g1,g2⟩:=hO f ds d hd
    obtain⟨m1,m2⟩:=zbn hds
    split at h
    ·rename_i hf
     simp only[Option.some.injEq,Prod.mk.injEq]at h
     obtain⟨rfl,rfl,rfl⟩:=h
     refine .inl ⟨g1,zj0 (g2 [] 0) m1 (fun i v d h1 h2=>(zdj _ _ _ _ (m2 i v d h1 h2)).ext fun nm b hg=>(zl7 nm b hg).2) ?_⟩
     rintro v N m ⟨rfl,rfl,rfl⟩
     exact⟨hf,fun _ _ h=>qed,rfl,rfl,rfl⟩
    ·simp only[Option.some.injEq,Prod.mk.injEq]at h
     obtain⟨rfl,rfl,rfl⟩:=h
     exact .inl ⟨g1,zhc (HL:=keep 0 (mark H 300 (nmSs args []) []) H) (g2 _ _) m1 zl7 fun i v d h1 h2=>zdj _ _ _ _ (m2 i v d h1 h2)⟩
   ·exact .inr h
  ·exact .inr h
noncomputable def exec(F:FuncId->Option Func)(T:Tab)(G:Nat->Option (List D))(O:Ov):Nat->Ex
 | 0=>⟨fun _ _ _ _=>none,fun _ _ _=>none,fun _ _ _ _=>none⟩
 | q+1 =>
  ⟨fun f args H nx=>ovCall O f args H nx <| match F f with
   | some fn=>match xfn (omR (AV×AHeap×Nat)) T G (exCall _ (exec F T G O q)) (exDCall _ (exec F T G O q)) (fun _=>exLoop _ (exec F T G O q) nx) fn args H nx fun v H' nx'=>some (v,H',nx') with
    | some (v,H',nx')=>some (v,gc nx (v::args) H',nx')
    | none=>none
   | none=>none,
  fun b c st=>match xcode (omR (Exit×St)) T G (exCall _ (exec F T G O q)) (exDCall _ (exec F T G O q)) (exLoop _ (exec F T G O q) b) c st fun e st'=>some (e,st') with
   | some (.normal,st')=>(exec F T G O q).loop b c (tidy b st')
   | some (e,st')=>some (e,st')
   | none=>none,
  fun nm args H nx=>xround (omR (AV×AHeap×Nat)) T G (exCall _ (exec F T G O q)) (exDCall _ (exec F T G O q)) (fun _=>exLoop _ (exec F T G O q) nx) nm args H nx fun v H' nx'=>some (v,H',nx')⟩
def FOk(P:Program)(F:FuncId->Option Func):Prop:=∀ f fn,F f=some fn->P.funcs[f]?=some fn/\chkFn fn=true
structure ExOk (P:Program) (G:Nat->Option (List D)) (x:Ex):Prop where
 call:∀ f args H nx v H' nx',x.call f args H nx=some (v,H',nx')->IsFn P f/\ACall P G f args H nx fun v' H'' n''=>v'=v/\H''=H'/\n''=nx'
 rd:∀ nm args H nx v H' nx',x.rd nm args H nx=some (v,H',nx')->ARound P G nm args H nx fun v' H'' n''=>v'=v/\H''=H'/\n''=nx'
 loop:∀ r n b ms b' c st e st',chkCode n c=true->x.loop b' c st=some (e,st')->AWP r P G n b (.loop c) st ms fun e' s m=>m=ms/\e'=e/\s=st'
theorem zub{x:Ex}{R:Type}(res:R)(hx:ExOk P G x)(hT:TabOk P T)(hm:P.follows .mixedOrders=true):XOk P G (omR R) (fun w=>w=some res) T (exCall R x) (exDCall R x) where
 ok:=omR_ok res
 tab:=hT
 mixed:=hm
 call:=by
  constructor
  ·intro f l H nx k h
   unfold exCall at h
   simp only at h
   split at h
   ·rename_i v H' nx' hc
    obtain⟨h1,h2⟩:=hx.call _ _ _ _ _ _ _ hc
    refine⟨h1,fun C vs a1 a2 a3 a4=>(h2 C vs a1 a2 a3 a4).mono ?_⟩
    rintro e w' ⟨y,v',H'',n',C',q1,q2,⟨rfl,rfl,rfl⟩,q4⟩
    exact⟨y,_,_,_,C',q1,q2,h,q4⟩
   ·exact qed
  ·intro nm l H nx k h
   unfold exCall at h
   simp only at h
   split at h
   ·rename_i v H' nx' hc
    refine ARound.mono (hx.rd _ _ _ _ _ _ _ hc) ?_
    rintro v' H'' n' ⟨rfl,rfl,rfl⟩
    exact h
   ·exact qed
 dcall f ds k h:=by
  unfold exDCall at h
  split at h
  ·rename_i v H' nx' hc
   obtain⟨h1,h2⟩:=hx.call _ _ _ _ _ _ _ hc
   exact⟨v,H',nx',h1,h2,h⟩
  ·exact qed
theorem zin{x:Ex}{R:Type}{res:R}{r:Option Nat}{n b b':Nat}{ms:List Nat}(hx:ExOk P G x):LoopOk P G (omR R) (fun w=>w=some res) r n b ms (exLoop R x b'):=by
 intro c st k hc h
 unfold exLoop at h
 split at h
 ·rename_i e st' hl
  refine zay (hx.loop r n b ms b' c st e st' hc hl) ?_
  rintro e' s m ⟨rfl,rfl,rfl⟩
  exact⟨rfl,h⟩
 ·exact qed
theorem exec_step{F:FuncId->Option Func}{O:Ov}(hF:FOk P F)(hT:TabOk P T)(hm:P.follows .mixedOrders=true)(f:FuncId)(args:List AV)(H:AHeap)(nx:Nat)(v:AV)(H':AHeap)(nx':Nat)(q:Nat)(hx:ExOk P G (exec F T G O q))
  (h:(match F f with
   | some fn=>match xfn (omR (AV×AHeap×Nat)) T G (exCall _ (exec F T G O q)) (exDCall _ (exec F T G O q)) (fun _=>exLoop _ (exec F T G O q) nx) fn args H nx fun v H' nx'=>some (v,H',nx') with
    | some (v,H',nx')=>some (v,gc nx (v::args) H',nx')
    | none=>none
   | none=>none)=some (v,H',nx')):IsFn P f/\ACall P G f args H nx fun v' H'' n''=>v'=v/\H''=H'/\n''=nx':=by
 split at h
 ·rename_i fn hf
  obtain⟨h1,h2⟩:=hF f fn hf
  split at h
  ·rename_i v' H1 n1 hr
   simp only[Option.some.injEq,Prod.mk.injEq]at h
   obtain⟨rfl,rfl,rfl⟩:=h
   refine⟨za3 h1 h2,zke (H1:=H1) ?_ gc_get⟩
   have:=zla (zub (v',H1,n1) hx hT hm) (fun ms=>zin (r:=none) (n:=fn.ntmps) (b:=nx) (ms:=ms) hx) h1 h2 hr
   intro C vs a1 a2 a3 a4
   refine(this C vs a1 a2 a3 a4).mono ?_
   rintro e w' ⟨y,v2,H2,n2,C',q1,q2,q3,q4⟩
   have q3:some (v2,H2,n2)=some (v',H1,n1):=q3
   simp only[Option.some.injEq,Prod.mk.injEq]at q3
   exact⟨y,v2,H2,n2,C',q1,q2,q3,q4⟩
  ·exact qed
 ·exact qed
theorem exec_ok{F:FuncId->Option Func}{O:Ov}(hF:FOk P F)(hO:OvOk P G O)(hT:TabOk P T)(hm:P.follows .mixedOrders=true):∀ q,ExOk P G (exec F T G O q):=by
 intro q
 induction q using Nat.strongRecOn with
 | _ q ih =>
  constructor
  ·intro f args H nx v H' nx' h
   cases q with
   | zero=>cases h
   | succ q =>
    have hx:=ih q (Nat.lt_succ_self q)
    simp only[exec]at h
    rcases ovCall_ok hO h with q|h
    ·exact q
    ·exact exec_step hF hT hm f args H nx v H' nx' q hx h
  ·intro nm args H nx v H' nx' h
   cases q with
   | zero=>cases h
   | succ q =>
    have hx:=ih q (Nat.lt_succ_self q)
    simp only[exec]at h
    refine ARound.mono (zj1 (zub (v,H',nx') hx hT hm) (fun r n=>zin (r:=r) (n:=n) (b:=nx) (ms:=[]) hx) h) ?_
    intro v2 H2 n2 q3
    have q3:some (v2,H2,n2)=some (v,H',nx'):=q3
    simp only[Option.some.injEq,Prod.mk.injEq]at q3
    exact q3
  ·intro r n b ms b' c st e st' hc h
   refine zi8 (σ:={ p:Nat×St // p.1<=q/\(exec F T G O p.1).loop b' c p.2=some (e,st') }) (fun p=>p.1.2) (fun p=>p.1.1) ⟨(q,st),Nat.le_refl q,h⟩ Sub.refl ?_
   rintro⟨⟨q1,s⟩,hq1,h1⟩
   cases q1 with
   | zero=>cases h1
   | succ q1 =>
    have hq2:q1+1<=q:=hq1
    have hx:=ih q1 qad
    have h2:(exec F T G O (q1+1)).loop b' c s=some (e,st'):=h1
    simp only[exec]at h2
    split at h2
    ·rename_i s1 hr
     refine zay (za0 (zub (Exit.normal,s1) hx hT hm) (zin (r:=r) (n:=n) (b:=b) (ms:=ms) hx) c s _ hc hr) ?_
     rintro e2 s2 m2 ⟨hm2,h3⟩
     have h3:some (e2,s2)=some (Exit.normal,s1):=h3
     simp only[Option.some.injEq,Prod.mk.injEq]at h3
     obtain⟨rfl,rfl⟩:=h3
     exact⟨hm2,⟨(q1,tidy b' s2),by simp only;omega,h2⟩,tidy_sub,Nat.lt_succ_self q1⟩
    ·rename_i e1 s1 hne hr
     simp only[Option.some.injEq,Prod.mk.injEq]at h2
     refine zay (za0 (zub (e1,s1) hx hT hm) (zin (r:=r) (n:=n) (b:=b) (ms:=ms) hx) c s _ hc hr) ?_
     rintro e2 s2 m2 ⟨hm2,h3⟩
     have h3:some (e2,s2)=some (e1,s1):=h3
     simp only[Option.some.injEq,Prod.mk.injEq]at h3
     have he:e2=e:=h3.1.trans h2.1
     have hs:s2=st':=h3.2.trans h2.2
     cases e2 with
     | normal=>exact(hne h3.1.symm).elim
     | _=>exact⟨hm2,he,hs⟩
    ·cases h2
end Go.AL
namespace Go.AL
open Go
variable{P:Program}{G:Nat->Option (List D)}{T:Tab}
inductive LoopVC (P:Program) (G:Nat->Option (List D)) (n b:Nat) (ms:List Nat) (c:Code) (st:St) (k:Exit->St->Prop):Prop
 | mk (h:∀ r,AWP r P G n b (.loop c) st ms fun e st' ms'=>ms'=ms/\k e st')
inductive RoundVC (P:Program) (G:Nat->Option (List D)) (nm:Nat) (l:List AV) (H:AHeap) (nx:Nat) (k:AV->AHeap->Nat->Prop):Prop
 | mk (h:ARound P G nm l H nx k)
inductive CallVC (P:Program) (G:Nat->Option (List D)) (f:FuncId) (l:List AV) (H:AHeap) (nx:Nat) (k:AV->AHeap->Nat->Prop):Prop
 | mk (h1:IsFn P f) (h2:ACall P G f l H nx k)
inductive DCallVC (P:Program) (G:Nat->Option (List D)) (f:FuncId) (ds:List D) (k:AV->AHeap->Nat->Prop):Prop
 | mk (v:AV) (N:AHeap) (n:Nat) (h1:IsFn P f) (h2:ACall P G f (ds.map .d) [] 0 fun v' N' n'=>v'=v/\N'=N/\n'=n) (hk:k v N n)
def cPm(P:Program)(G:Nat->Option (List D)):CallT omP:=⟨fun f l H nx k=>CallVC P G f l H nx k,fun nm l H nx k=>RoundVC P G nm l H nx k⟩
def dPm(P:Program)(G:Nat->Option (List D)):DCallT omP:=fun f ds k=>DCallVC P G f ds k
def lPm(P:Program)(G:Nat->Option (List D))(n b:Nat)(ms:List Nat):LoopT omP:=fun c st k=>LoopVC P G n b ms c st k
structure POk (P:Program) (T:Tab):Prop where
 tab:TabOk P T
 mixed:P.follows .mixedOrders=true
theorem xPm(hp:POk P T):XOk P G omP (fun p=>p) T (cPm P G) (dPm P G):=⟨zq3,hp.tab,⟨fun _ _ _ _ _ h=>(by cases h with|mk h1 h2=>exact⟨h1,h2⟩),fun _ _ _ _ _ h=>(by cases h with|mk h=>exact h)⟩,fun _ _ _ h=>(by cases h with|mk v N n h1 h2 hk=>exact⟨v,N,n,h1,h2,hk⟩),hp.mixed⟩
theorem loopPm{r:Option Nat}{n b:Nat}{ms:List Nat}:LoopOk P G omP (fun p=>p) r n b ms (lPm P G n b ms):=fun _ _ _ _ h=>by cases h with|mk h=>exact h r
inductive Fin (p:Prop):Prop
 | mk (h:p)
theorem fin{p:Prop}(h:p):Fin p:=⟨h⟩
theorem unfin{p:Prop}(h:Fin p):p:=by cases h;assumption
theorem zbc{f:FuncId}{args:List AV}{H:AHeap}{nx:Nat}{K K':AV->AHeap->Nat->Prop}(h:ACall P G f args H nx K)(hk:∀ v H' n,K v H' n->K' v H' n):ACall P G f args H nx K':=by
 intro C vs a1 a2 a3 a4
 refine(h C vs a1 a2 a3 a4).mono ?_
 rintro e w' ⟨y,v,H',n',C',q1,q2,q3,q4⟩
 exact⟨y,v,H',n',C',q1,q2,hk _ _ _ q3,q4⟩
theorem za4(hp:POk P T){f:FuncId}{fn:Func}{args:List AV}{H:AHeap}{nx:Nat}{K:AV->AHeap->Nat->Prop}(hf:P.funcs[f]?=some fn)(hc:chkFn fn=true)
  (h:xfn omP T G (cPm P G) (dPm P G) (lPm P G fn.ntmps nx) fn args H nx fun v H' n=>Fin (K v H' n)):ACall P G f args H nx K :=
 zbc (zla (hd:=fun p:omP.W=>p) (xPm hp) (fun _=>loopPm) hf hc h) fun _ _ _ h=>unfin h
structure PC (P:Program) (G:Nat->Option (List D)) (f:FuncId) (ds:List D) (d:D):Prop where
 fn:IsFn P f
 call:ACall P G f (ds.map .d) [] 0 fun v N k=>v = .d d/\N=[]/\k=0
theorem pc_of{f:FuncId}{ds:List D}{d:D}(hf:IsFn P f)(h:ACall P G f (ds.map .d) [] 0 fun v _ _=>v = .d d):PC P G f ds d:=by
 refine⟨hf,?_⟩
 intro C vs hH hU hs hr
 refine(h C vs hH hU hs hr).mono ?_
 rintro e w' ⟨x,v,H',n',C',rfl,rfl,rfl,hv,hH',hU',hT⟩
 have hvd:=zbi hv
 refine⟨x,.d d,[],0,{ C' with U:=fun _=>False },rfl,rfl,⟨rfl,rfl,rfl⟩,.d _ _ hvd,⟨fun nm b h=>qed,fun nm nm' b b' k h=>qed,hH'.ro,hH'.glob⟩,fun m hm=>hm.elim,?_⟩
 have h0:∀ m,C.U m->False:=fun m hm=>by have:=hU m hm;omega
 exact{ os:=hT.os,tape:=hT.tape,output:=hT.output,size:=hT.size,shape:=hT.shape,frame:=hT.frame,names:=fun m hm=>(h0 m hm).elim,ros:=hT.ros,img:=fun nm b k h=>qed,rob:=hT.rob }
theorem zai(hp:POk P T){f:FuncId}{fn:Func}{ds:List D}{d:D}(hf:P.funcs[f]?=some fn)(hc:chkFn fn=true)
  (h:xfn omP T G (cPm P G) (dPm P G) (lPm P G fn.ntmps 0) fn (ds.map .d) [] 0 fun v _ _=>Fin (v = .d d)):PC P G f ds d :=
 pc_of (za3 hf hc) (za4 hp hf hc h)
theorem zak{f:FuncId}{ds:List D}{d:D}{H:AHeap}{nx:Nat}{k:AV->AHeap->Nat->Prop}(h:PC P G f ds d)(hk:k (.d d) H nx):CallVC P G f (ds.map .d) H nx k:=by
 refine⟨h.fn,zcf h.call ?_⟩
 rintro v N m ⟨rfl,rfl,rfl⟩
 exact hk
theorem zam{f:FuncId}{ds:List D}{d:D}{k:AV->AHeap->Nat->Prop}(h:PC P G f ds d)(hk:k (.d d) [] 0):DCallVC P G f ds k:=⟨.d d,[],0,h.fn,h.call,hk⟩
inductive Again (G:Nat->Option (List D)) (b:Nat) (ms:List Nat) {σ:Type} (I:σ->St) (μ:σ->Nat) (s:σ) (st:St):Prop
 | mk (t:σ) (hs:Sub G b ms st (I t)) (hlt:μ t<μ s)
theorem zvl(hp:POk P T){n b:Nat}{ms:List Nat}{c:Code}{st:St}{k:Exit->St->Prop}{σ:Type}(I:σ->St)(μ:σ->Nat)(s0:σ)(h0:Sub G b ms st (I s0))(hc:chkCode n c=true)
  (round:∀ s,xcode omP T G (cPm P G) (dPm P G) (lPm P G n b ms) c (I s) fun e st'=>nextK e st' (Again G b ms I μ s) k):LoopVC P G n b ms c st k:=by
 refine⟨fun r=>zi8 (Q:=fun e st' ms'=>ms'=ms/\k e st') I μ s0 h0 fun s=>zay (za0 (hd:=fun p:omP.W=>p) (xPm hp) loopPm c (I s) _ hc (round s)) ?_⟩
 rintro e s' m' ⟨hm,h⟩
 cases e with
 | normal=>obtain⟨t,h1,h2⟩:=h;exact⟨hm,t,h1,h2⟩
 | _=>exact⟨hm,h⟩
theorem zbb(hp:POk P T){f:FuncId}{fn:Func}{args:List AV}{H:AHeap}{nx:Nat}{k:AV->AHeap->Nat->Prop}(hf:P.funcs[f]?=some fn)(hc:chkFn fn=true)
  (h:xfn omP T G (cPm P G) (dPm P G) (lPm P G fn.ntmps nx) fn args H nx k):CallVC P G f args H nx k :=
 ⟨za3 hf hc,zla (hd:=fun p:omP.W=>p) (xPm hp) (fun _=>loopPm) hf hc h⟩
theorem za9(hp:POk P T){nm:Nat}{args:List AV}{H:AHeap}{nx:Nat}{k:AV->AHeap->Nat->Prop}
  (h:xround omP T G (cPm P G) (dPm P G) (fun n=>lPm P G n nx []) nm args H nx k):RoundVC P G nm args H nx k :=
 ⟨zj1 (hd:=fun p:omP.W=>p) (xPm hp) (fun _ _=>loopPm) h⟩
theorem zac{b:Nat}{ms:List Nat}{st st':St}(hbn:b<=st'.nx)(henv:AllP (fun p:Nat×AV=>lk st.env p.1=p.2/\p.2.bel st'.nx=true) st'.env)
  (hheap:AllP (fun p:Nat×Option Blk=>p.1<st'.nx /\ ∃ bl,p.2=some bl/\st.heap.get p.1=some bl/\bl.Below st'.nx) st'.heap) (hms:AllP (fun m=>m<st'.nx) ms):Sub G b ms st st':=sub_keep hbn henv hheap hms
theorem zae{k sz:Nat}{el:List AV}(h:AV.bels k el=true):Blk.Below k (.arr sz [el]):=fun e he=>by cases List.mem_singleton.1 he;exact h
theorem ltB{a b:Nat}(h:Nat.blt a b=true):a<b:=qa6
end Go.AL
namespace Go.AL
open Go
variable{P:Program}{G:Nat->Option (List D)}{T:Tab}
theorem zaz{f:FuncId}{args:List AV}{H:AHeap}{nx:Nat}{K K':AV->AHeap->Nat->Prop}(h:ACall P G f args H nx K)
  (hs:∀ v H' n,K v H' n->∃ v' N' k',Sub G nx [] ⟨[(0,v)],H',n⟩ ⟨[(0,v')],N',k'⟩/\K' v' N' k'):ACall P G f args H nx K':=by
 intro C vs hH hU hl hr
 refine(h C vs hH hU hl hr).mono ?_
 rintro e w' ⟨x,v,H',n,C',rfl,rfl,hK,hv,hH',hU',hT⟩
 obtain⟨v',N',k',hS,hK'⟩:=hs v H' n hK
 have hRel:Rel G 1 ⟨[(0,v)],H',n⟩ [] C' { tmps:=#[x],defers:=[] }:=by
  refine⟨hH',⟨rfl,fun t=>?_⟩,hU',(fun m hm=>by cases hm),rfl⟩
  cases t with
  | zero=>exact hv
  | succ t=>exact .top _
 obtain⟨C'',e1,r1,t1⟩:=hS 1 C' _ hRel
 refine⟨x,v',N',k',C'',rfl,e1,hK',r1.env.env 0,r1.heap,r1.names,hT.trans (t1 C.U fun m hm=>⟨(hT.names m hm).1,hU m hm⟩)⟩
end Go.AL
namespace Go.AL
open Go
variable{P:Program}{G:Nat->Option (List D)}{T:Tab}
theorem zck{f:FuncId}{ds:List D}{d:D}(hf:IsFn P f)(h:ACall P G f (ds.map .d) [] 0 fun v H _=>AsD H v d):PC P G f ds d:=by
 refine⟨hf,?_⟩
 intro C vs hH hU hs hr
 refine(h C vs hH hU hs hr).mono ?_
 rintro e w' ⟨x,v,H',n',C',rfl,rfl,hd,hv,hH',hU',hT⟩
 have hvd:=zfw hH' (RO:=fun k=>C'.RO k \/ ∃ nm b,H'.get nm=some b/\C'.β nm=some k) (fun k hk=>.inl hk) (fun nm b k hg hb=>.inr ⟨nm,b,hg,hb⟩) hd x hv
 refine⟨x,.d d,[],0,{ U:=fun _=>False,β:=C'.β,RO:=fun k=>C'.RO k \/ ∃ nm b,H'.get nm=some b/\C'.β nm=some k,w:=C'.w },rfl,rfl,⟨rfl,rfl,rfl⟩,.d _ _ hvd,
  ⟨fun nm b h=>qed,fun nm nm' b b' k h=>qed,fun k hk=>?_,fun g ds hg=>(hH'.glob g ds hg).mono (fun _ _=>rfl) fun _ h=>.inl h⟩,fun m hm=>hm.elim,?_⟩
 ·exact qhl
 ·exact qgd
noncomputable def runD(F:FuncId->Option Func)(T:Tab)(G:Nat->Option (List D))(O:Ov)(q:Nat)(f:FuncId)(ds:List D):Option D:=match (exec F T G O q).call f (ds.map .d) [] 0 with
 | some (v,H,_)=>asDX H 20 [] v
 | none=>none
theorem pc_ov{O:Ov}(h:∀ f ds d,O f ds=some d->PC P G f ds d):OvOk P G O:=fun f ds d hd=>⟨(h f ds d hd).fn,fun H nx=>zcf (h f ds d hd).call fun v N k ⟨h1,h2,h3⟩=>by subst h1 h2 h3;exact⟨rfl,rfl,rfl⟩⟩
theorem pc_run{F:FuncId->Option Func}{O:Ov}(hF:FOk P F)(hO:OvOk P G O)(hp:POk P T){q:Nat}{f:FuncId}{ds:List D}{d:D}(h:runD F T G O q f ds=some d):PC P G f ds d:=by
 unfold runD at h
 split at h
 ·rename_i v H n hr
  obtain⟨h1,h2⟩:=(exec_ok hF hO hp.tab hp.mixed q).call _ _ _ _ _ _ _ hr
  refine zck h1 (zbc h2 ?_)
  rintro v' H' n' ⟨rfl,rfl,rfl⟩
  exact zdj _ _ _ _ h
 ·exact qed
end Go.AL
namespace Go.AL
open Go
variable{G:Nat->Option (List D)}{P:Program}{st:St}
variable{r:Option Nat}{n b:Nat}{ms:List Nat}{Q:Exit->St->List Nat->Prop}{ops:Array Oper}
theorem cnt_le_of{m:Nat}{p q:Nat->Bool}{i k:Nat}(hi:i<m)(h1:p i=true)(h2:q i=false)(h3:∀ j,j≠i->q j=p j)(h:cnt m p<=k+1):cnt m q<=k:=by
 have:=ztx m i p q hi h1 h2 h3
 omega
def edgeB(ops:Array Oper):Bool:=(List.range ops.size).all fun i=>match ops[i]? with
 | some o=>o.after.all fun e=>!Region.binds .any e||Nat.blt e.on i
 | none=>true
theorem ziz(h:edgeB ops=true):∀(i:Nat) (o:Oper),ops[i]?=some o->∀ e∈o.after,Region.binds .any e=true->e.on<i:=by
 intro i o ho e he hb
 have:=List.all_eq_true.1 h i (List.mem_range.2 (Array.getElem?_eq_some_iff.1 ho).1)
 rw[ho]at this
 have:=Array.all_eq_true_iff_forall_mem.1 this e he
 simpa[hb] using this
theorem zmw{id:Nat}(hm:P.follows .mixedOrders=true)(hb:∀(i:Nat) (o:Oper),ops[i]?=some o->∀ e∈o.after,Region.binds .any e=true->e.on<i)(SR:(Nat->Bool)->St->Prop)(h0:SR (fun _=>false) st)
  (step:∀(L:Nat->Bool) (s:St) (i:Nat) (o:Oper),SR L s->L i=false->ops[i]?=some o->(∀ e∈o.after,Region.binds .any e=true->L e.on=true)->o.guard=none/\OpWP r P G n b o s ms (fun s'=>SR (fun j=>if j=i then true else L j) s'))
  (fin:∀(L:Nat->Bool) (s:St),SR L s->(∀ i,i<ops.size->L i=true)->Q .normal s ms):AWP r P G n b (.region id ops true) st ms Q:=by
 intro X C a hR hX
 refine wpIn_region_any hm ?_
 have hd:C.drew.w={ C.w with drawn:=C.w.drawn+1 }:=rfl
 rw[<- hd]
 have key:∀(fuel:Nat) (listed:Array Bool) (s:St) (C1:Ctx) (a1:Act),listed.size=ops.size->SR (fun j=>listed.getD j false) s->Rel G n s ms C1 a1->(∀ k,X k->C1.U k/\k<b)->Tr X C st.heap C1 s.heap ->
   cnt ops.size (fun j=>!listed.getD j false)<=fuel->wpAnyIn (Fr r) 0 P .any ops (PostC G X n C st.heap Q) fuel listed a1 C1.w:=by
  intro fuel
  induction fuel with
  | zero =>
   intro listed s C1 a1 hsz hS hR1 hX1 hT1 hc
   have hall:∀ i,i<ops.size->listed.getD i false=true:=fun i hi=>by
    have:=zpp (Nat.le_zero.1 hc) i hi
    simpa using this
   refine⟨?_,⟨s,ms,C1,rfl,fin _ s hS hall,hR1,hT1⟩⟩
   rw[List.eq_nil_iff_forall_not_mem]
   intro i hi
   obtain⟨h1,o,ho,_⟩:=mem_ready.1 hi
   have:=hall i (Array.getElem?_eq_some_iff.1 ho).1
   rw[getD_both h1]at this;cases this
  | succ fuel ih =>
   intro listed s C1 a1 hsz hS hR1 hX1 hT1 hc
   refine⟨fun hr=>?_,fun i hi=>?_⟩
   ·have hall:∀ i,i<ops.size->listed.getD i false=true:=by
     intro i
     induction i using Nat.strongRecOn with
     | _ i ihi =>
      intro hi
      cases hl:listed.getD i false with
      | true=>rfl
      | false =>
       have ho:ops[i]?=some ops[i]:=Array.getElem?_eq_getElem hi
       have:i∈Region.ready .any ops listed:=mem_ready.2 ⟨getD_in qad hl,ops[i],ho,fun e he hbd=>ihi e.on (hb i _ ho e he hbd) (by have:=hb i _ ho e he hbd;omega)⟩
       rw[hr]at this;cases this
    exact⟨s,ms,C1,rfl,fin _ s hS hall,hR1,hT1⟩
   ·obtain⟨h1,o,ho,hall⟩:=mem_ready.1 hi
    have hlt:=(Array.getElem?_eq_some_iff.1 ho).1
    obtain⟨hg,hop⟩:=step _ s i o hS (getD_both h1) ho hall
    unfold wpOpIn
    simp only[ho]
    have hw:Region.wanted o (yielded ops a1.tmps)=true:=by simp[Region.wanted,hg]
    rw[if_pos hw]
    refine hop X C1 a1 _ _ hR1 hX1 fun s' C2 a2 g1 g2 g3=>ih (listed.setIfInBounds i true) s' C2 a2 (by simpa using hsz) ?_ g2 (xu hX1 g3) (hT1.trans g3) ?_
    ·have:(fun j=>(listed.setIfInBounds i true).getD j false)=fun j=>if j=i then true else listed.getD j false:=by
      funext j
      by_cases e:j=i
      ·subst e;simp[hsz,hlt]
      ·rw[if_neg e,getD_set_ne false (Ne.symm e)]
     rw[this];exact g1
    ·refine cnt_le_of hlt (p:=fun j=>!listed.getD j false) ?_ ?_ ?_ hc
     ·simp[getD_both h1]
     ·simp[hsz,hlt]
     ·intro j hj
      rw[getD_set_ne false (Ne.symm hj)]
 have hTr:=zfj (C:=C) (H:=st.heap)
 refine key ops.size (Array.replicate ops.size false) st C.drew a qc3 ?_ ⟨zeh hR.heap,zfe hR.heap hTr hR.env rfl,hR.names,hR.marks,?_⟩ hX (hTr.weaken fun k hk'=>(hX k hk').1) ?_
 ·have:(fun j=>(Array.replicate ops.size false).getD j false)=fun _=>false:=by
   funext j;exact getD_replicate_false _ _
  rw[this];exact h0
 ·rw[hR.defers];exact(zbt hTr hR.marks).symm
 ·have:∀ m (p:Nat->Bool),cnt m p<=m:=fun m p=>by
   unfold cnt
   have:=List.countP_le_length (p:=p) (l:=List.range m)
   simpa using this
  exact this _ _
end Go.AL
namespace Go.AL
open Go
variable{P:Program}{G:Nat->Option (List D)}{T:Tab}
theorem pc_give{f:FuncId}{args:List AV}{ds:List D}{d:D}{H HL:AHeap}{L:List Nat}{nx:Nat}{k:AV->AHeap->Nat->Prop}(h:PC P G f ds d)(hl:args.length=ds.length)
  (hHL:∀ nm b,HL.get nm=some b->nm∈L/\H.get nm=some b) (ha:∀(i:Nat) (v:AV) (d:D),args[i]?=some v->ds[i]?=some d->AsD HL v d) (hk:k (.d d) (dels L H) nx):CallVC P G f args H nx k:=by
 refine⟨h.fn,zhc (HL:=HL) (L:=L) (zcf h.call ?_) hl hHL ha⟩
 rintro v N m ⟨rfl,rfl,rfl⟩
 exact hk
theorem zfm{f:FuncId}{args:List AV}{ds:List D}{d:D}{H:AHeap}{nx:Nat}{k:AV->AHeap->Nat->Prop}(h:PC P G f ds d)
  (hds:mapO (asDX (keep 0 (mark H 300 (nmSs args []) []) H) 9 []) args=some ds) (hk:k (.d d) (dels (mark H 300 (nmSs args []) []) H) nx):CallVC P G f args H nx k :=
 pc_give (HL:=keep 0 (mark H 300 (nmSs args []) []) H) h (zbn hds).1 zl7 (fun i v d h1 h2=>zdj _ _ _ _ ((zbn hds).2 i v d h1 h2)) hk
theorem zs6{f:FuncId}{args:List AV}{ds:List D}{d:D}{H:AHeap}{nx:Nat}{k:AV->AHeap->Nat->Prop}(h:PC P G f ds d)(hl:args.length=ds.length)(ha:∀(i:Nat) (v:AV) (d:D),args[i]?=some v->ds[i]?=some d->AsD H v d)(hf:d.flat=true)
  (hk:k (.d d) H nx):CallVC P G f args H nx k:=by
 refine⟨h.fn,zj0 h.call hl ha ?_⟩
 rintro v N m ⟨rfl,rfl,rfl⟩
 exact⟨hf,fun _ _ h=>qed,hk⟩
theorem zil{f:FuncId}{args:List AV}{ds:List D}{d:D}{H:AHeap}{nx:Nat}{k:AV->AHeap->Nat->Prop}(h:PC P G f ds d)(hds:mapO (asDX H 9 []) args=some ds)(hf:d.flat=true)(hk:k (.d d) H nx):CallVC P G f args H nx k :=
 zs6 h (zbn hds).1 (fun i v d h1 h2=>zdj _ _ _ _ ((zbn hds).2 i v d h1 h2)) hf hk
theorem zhw{f:FuncId}{ds:List D}{b:Bool}{H:AHeap}{nx:Nat}{k:AV->AHeap->Nat->Prop}(h:PC P G f ds (.bool b))(hk:∀ t,b=t->k (.d (.bool t)) H nx):CallVC P G f (ds.map .d) H nx k:=zak h (hk b rfl)
theorem pc_useB2{f:FuncId}{ds:List D}{b:Bool}{e:D}{H:AHeap}{nx:Nat}{k:AV->AHeap->Nat->Prop}(h:PC P G f ds (.tup [.bool b,e]))(hk:∀ t,b=t->k (.d (.tup [.bool t,e])) H nx):CallVC P G f (ds.map .d) H nx k:=zak h (hk b rfl)
theorem zb4{f:FuncId}{args:List AV}{ds:List D}{b:Bool}{H:AHeap}{nx:Nat}{k:AV->AHeap->Nat->Prop}(h:PC P G f ds (.bool b))(hds:mapO (asDX H 9 []) args=some ds)(hk:∀ t,b=t->k (.d (.bool t)) H nx):CallVC P G f args H nx k :=
 zil h hds rfl (hk b rfl)
def DW(d0 d:D):Prop:=∀(w:World) (RO:Nat->Prop) (x:Value),DRel w RO d0 x->DRel w RO d x
theorem DW.rfl(d:D):DW d d:=fun _ _ _ h=>h
theorem dw_sl(es:List (List D))(t:Bool):DW (.sl es t) (.sl es false):=by
 intro w RO x h
 cases h with
 | sl0 _ a c ht=>exact .sl0 false a c (fun h=>by cases h)
 | sl _ _ b o c sz vs hro hc ht hsz hm hr=>exact .sl es false b o c sz vs hro hc (fun h=>by cases h) hsz hm hr
theorem znq{f:FuncId}{ds:List D}{d:D}(hf:IsFn P f)(h:ACall P G f (ds.map .d) [] 0 fun v H _=>∃ d0,AsD H v d0/\DW d0 d):PC P G f ds d:=by
 have key:∀(C:Ctx) (vs:Array Value),True:=fun _ _=>trivial
 refine⟨hf,?_⟩
 intro C vs hH hU hs hr
 refine(h C vs hH hU hs hr).mono ?_
 rintro e w' ⟨x,v,H',n',C',rfl,rfl,⟨d0,hd,hw⟩,hv,hH',hU',hT⟩
 have hvd:=hw _ _ _ (zfw hH' (RO:=fun k=>C'.RO k \/ ∃ nm b,H'.get nm=some b/\C'.β nm=some k) (fun k hk=>.inl hk) (fun nm b k hg hb=>.inr ⟨nm,b,hg,hb⟩) hd x hv)
 refine⟨x,.d d,[],0,{ U:=fun _=>False,β:=C'.β,RO:=fun k=>C'.RO k \/ ∃ nm b,H'.get nm=some b/\C'.β nm=some k,w:=C'.w },Eq.refl _,Eq.refl _,⟨Eq.refl _,Eq.refl _,Eq.refl _⟩,.d _ _ hvd,
  ⟨fun nm b h=>qed,fun nm nm' b b' k h=>qed,fun k hk=>?_,fun g ds hg=>(hH'.glob g ds hg).mono (fun _ _=>Eq.refl _) fun _ h=>.inl h⟩,fun m hm=>hm.elim,?_⟩
 ·exact qhl
 ·exact qgd
end Go.AL
namespace Go.AL
open Go
variable{P:Program}{G:Nat->Option (List D)}{T:Tab}
theorem zhp{b S:Nat}{ms:List Nat}{e:List (Nat×AV)}{H:AHeap}{n t:Nat}(hb:b<=n)(ht:lk e t = .d (.sl [] true)):Sub G b ms ⟨e,H,n⟩ ⟨(t,.sl n S 0 0 0 false)::e,(n,some (.arr S []))::H,n+1⟩:=by
 intro k C a hR
 have hn:¬ C.U n:=fun h=>by have:=hR.names n h;simp only at this;omega
 obtain⟨C',e1,h1,h2,h3,h4⟩:=zdt (S:=S) hR.heap hn
 refine⟨C',e1,⟨h1,⟨hR.env.size,fun m=>?_⟩,fun q hq=>?_,fun q hq=>(h2.names q (hR.marks q hq)).1,?_⟩,fun X hX=>h2.weaken fun q hq=>(hX q hq).1⟩
 ·by_cases hm:m=t
  ·subst hm
   show VRel C' (lk ((m,_)::e) m) _
   rw[zar]
   have:=hR.env.env m
   have this:VRel C (lk e m) (a.tmps.getD m undef):=this
   rw[ht]at this
   have hd:=zbi this
   generalize a.tmps.getD m undef=y at hd
   cases hd with
   | sl0 _ ad c ht =>
    have:=ht rfl
    subst this
    exact .sl0 n S 0 false ad h4
   | sl _ _ b' o' c sz vs hro hc ht hsz hm' hr' =>
    have:=ht rfl
    simp at this
    subst this
    exact .sl0 n S 0 false _ h4
  ·show VRel C' (lk ((t,_)::e) m) _
   rw[zan _ _ hm]
   exact(hR.env.env m).later h2 hR.heap
 ·exact qgq
 ·exact qha
theorem zaj(k m:Nat)(bl:Option Blk)(H:AHeap):AHeap.get ((k,bl)::H) m=if m=k then bl else H.get m:=by
 by_cases h:m=k
 ·subst h;rw[if_pos rfl,zaf]
 ·rw[if_neg h,zad _ _ h]
end Go.AL
namespace Go.AL
open Go
theorem zcd{n:Int}(h0:-9223372036854775808<=n)(h1:n<9223372036854775808):IntKind.i64.wrap n=n:=by
 rw[IntKind.wrap_i64];omega
theorem zds{a:Nat}(h:a<2^63):(BitVec.ofInt 64 (a:Int)).toNat=a:=by
 rw[BitVec.toNat_ofInt];omega
theorem bits64:IntKind.i64.bits=64:=rfl
theorem zis{a b:Nat}(ha:a<2^63)(hb:b<2^63):iand .i64 a b=((a &&& b:Nat):Int):=by
 unfold iand
 show IntKind.i64.wrap ((BitVec.ofInt 64 a &&& BitVec.ofInt 64 b).toNat:Int)=_
 rw[BitVec.toNat_and,zds ha,zds hb]
 have:a &&& b<=a:=Nat.and_le_left
 exact zcd qad qad
theorem zhz{a b:Nat}(ha:a<2^63)(hb:b<2^63):ior .i64 a b=((a ||| b:Nat):Int):=by
 unfold ior
 show IntKind.i64.wrap ((BitVec.ofInt 64 a ||| BitVec.ofInt 64 b).toNat:Int)=_
 rw[BitVec.toNat_or,zds ha,zds hb]
 have:a ||| b<2^63:=Nat.or_lt_two_pow ha hb
 exact zcd qad qad
theorem zg1{a b:Nat}(ha:a<2^63)(hb:b<2^63):ixor .i64 a b=((a^^^b:Nat):Int):=by
 unfold ixor
 show IntKind.i64.wrap ((BitVec.ofInt 64 a^^^BitVec.ofInt 64 b).toNat:Int)=_
 rw[BitVec.toNat_xor,zds ha,zds hb]
 have:a^^^b<2^63:=Nat.xor_lt_two_pow ha hb
 exact zcd qad qad
theorem ishr_nat{a n:Nat}(hn:n<=64):ishr .i64 a n=((a >>> n:Nat):Int):=by
 unfold ishr
 have:min ((n:Int).toNat) IntKind.i64.bits=n:=by rw[bits64,Int.toNat_natCast];omega
 rw[this,Int.fdiv_eq_ediv_of_nonneg _ (by exact_mod_cast Nat.zero_le _),Nat.shiftRight_eq_div_pow]
 push_cast;rfl
theorem zo4{a n:Nat}(hn:n<=64)(h:a*2^n<2^63):ishl .i64 a n=((a <<< n:Nat):Int):=by
 unfold ishl
 have:min ((n:Int).toNat) IntKind.i64.bits=n:=by rw[bits64,Int.toNat_natCast];omega
 rw[this,Nat.shiftLeft_eq]
 have e:(a:Int)*2^n=((a*2^n:Nat):Int):=by push_cast;rfl
 rw[e]
 exact zcd qad qad
theorem zcg{n:Nat}(hn:n<=62):ishl .i64 1 n=((2^n:Nat):Int):=by
 have h:2^n<2^63:=Nat.pow_lt_pow_right qag qad
 have:=zo4 (a:=1) (n:=n) qad (by rw[Nat.one_mul];exact h)
 rw[Nat.shiftLeft_eq,Nat.one_mul]at this
 exact this
theorem zem{a n:Nat}(hn:n<=64)(ha:a<2^63):iand .i64 (ishr .i64 a n) 1=if a.testBit n then 1 else 0:=by
 rw[ishr_nat hn]
 have h1:a >>> n<2^63:=by
  rw[Nat.shiftRight_eq_div_pow];exact Nat.lt_of_le_of_lt (Nat.div_le_self _ _) ha
 have:=zis (a:=a >>> n) (b:=1) h1 qag
 rw[show((1:Nat):Int)=1 from rfl]at this
 rw[this,Nat.and_one_is_mod]
 have e:a.testBit n=decide ((a >>> n)%2=1):=by
  rw[Nat.testBit_eq_decide_div_mod_eq,Nat.shiftRight_eq_div_pow]
 rw[e]
 have:(a >>> n)%2=0\/(a >>> n)%2=1:=qad
 rcases this with h|h<;>simp[h]
end Go.AL
namespace Go.AL
open Go
variable{P:Program}{G:Nat->Option (List D)}{T:Tab}
theorem zaq(hp:POk P T){n b:Nat}{ms:List Nat}{c:Code}{st:St}{k:Exit->St->Prop}(I:Nat->St)(N:Nat)(Inv:Nat->Prop)(h0:Inv 0)(hs:Sub G b ms st (I 0))(hc:chkCode n c=true)
  (round:∀(i:Nat) (A:St->Prop),i<N->Inv i->(∀ st',Inv (i+1)->Sub G b ms st' (I (i+1))->A st')->xcode omP T G (cPm P G) (dPm P G) (lPm P G n b ms) c (I i) fun e st'=>nextK e st' A k)
  (last:∀(A:St->Prop),Inv N->xcode omP T G (cPm P G) (dPm P G) (lPm P G n b ms) c (I N) fun e st'=>nextK e st' A k):LoopVC P G n b ms c st k:=by
 refine zvl hp (σ:={ i:Nat // i<=N/\Inv i }) (fun s=>I s.1) (fun s=>N-s.1) ⟨0,Nat.zero_le _,h0⟩ hs hc ?_
 rintro⟨i,hi,hI⟩
 rcases Nat.lt_or_ge i N with h|h
 ·refine round i _ h hI fun st' h1 h2=>.mk ⟨i+1,h,h1⟩ h2 (by show N-(i+1)<N-i;omega)
 ·have:i=N:=by omega
  subst this
  exact last _ hI
def rho:List (Nat×Nat)->Nat->Nat
 | [],m=>m
 | (a,b)::l,m=>match Nat.beq a m with
  | true=>b
  | false=>rho l m
theorem zav{ms:List Nat}{st st':St}(ps:List (Nat×Nat))
  (henv:AllP (fun p:Nat×AV=>lk st.env p.1=p.2.ren (rho ps)/\p.2.bel st'.nx=true) st'.env)
  (hheap:AllP (fun p:Nat×Option Blk=>p.1<st'.nx /\ ∃ bl,p.2=some bl/\st.heap.get (rho ps p.1)=some (bl.ren (rho ps))/\bl.Below st'.nx) st'.heap)
  (hinj:AllP (fun p:Nat×Option Blk=>AllP (fun q:Nat×Option Blk=>rho ps p.1=rho ps q.1->p.1=q.1) st'.heap) st'.heap)
  (hms:AllP (fun m=>m<st'.nx/\rho ps m=m) ms):Sub G 0 ms st st' :=
 zid (rho ps) (fun m h=>absurd h (Nat.not_lt_zero m)) (Nat.zero_le _) henv hheap hinj hms
theorem zqp(ρ:Nat->Nat):∀ l:List D,AV.rens ρ (l.map AV.d)=l.map AV.d
 | []=>rfl
 | d::l=>by simp[AV.rens,AV.ren,zqp ρ l]
def dblk(sz:Nat)(l:List (List D)):Blk:=.arr sz (l.map fun el=>el.map AV.d)
theorem zbf(ρ:Nat->Nat)(sz:Nat)(l:List (List D)):(dblk sz l).ren ρ=dblk sz l:=by
 unfold dblk
 simp only[Blk.ren,List.map_map]
 congr 1
 exact List.map_congr_left fun el _=>zqp ρ el
theorem zry(k:Nat):∀ l:List D,AV.bels k (l.map AV.d)=true
 | []=>rfl
 | d::l=>by simp[AV.bels,AV.bel,zry k l]
theorem zaa(k sz:Nat)(l:List (List D)):(dblk sz l).Below k:=by
 intro el h
 obtain⟨q,_,rfl⟩:=List.mem_map.1 h
 exact zry k q
theorem zab{k sz:Nat}{els:List (List AV)}(h:els.all (fun el=>AV.bels k el)=true):(Blk.arr sz els).Below k:=by
 intro el he
 exact List.all_eq_true.1 h el he
theorem zag{h:AHeap}{nm nm' sz:Nat}{l:List (List D)}{ρ:Nat->Nat}(e:ρ nm=nm')(hg:h.get nm'=some (dblk sz l)):h.get (ρ nm)=some ((dblk sz l).ren ρ):=by
 rw[e,zbf];exact hg
theorem zah{a b:Nat}(h:a+b<2^63):iadd .i64 a b=((a+b:Nat):Int):=by
 unfold iadd;rw[zcd qad qad];push_cast;rfl
theorem zkw{a b:Nat}(hb:b<=a)(h:a<2^63):isub .i64 a b=((a-b:Nat):Int):=by
 unfold isub;rw[zcd qad qad];omega
theorem zet{a b:Nat}(h:a*b<2^63):imul .i64 a b=((a*b:Nat):Int):=by
 unfold imul
 have e:(a:Int)*b=((a*b:Nat):Int):=by push_cast;rfl
 rw[e]
 exact zcd qad qad
theorem bit01(x n:Int):iand .i64 (ishr .i64 x n) 1=0\/iand .i64 (ishr .i64 x n) 1=1:=by
 unfold iand
 generalize ishr .i64 x n=y
 have h:(BitVec.ofInt 64 y &&& BitVec.ofInt 64 1).toNat=0\/(BitVec.ofInt 64 y &&& BitVec.ofInt 64 1).toNat=1:=by
  rw[BitVec.toNat_and]
  have:(BitVec.ofInt 64 1).toNat=1:=rfl
  rw[this,Nat.and_one_is_mod]
  omega
 show IntKind.i64.wrap ((BitVec.ofInt 64 y &&& BitVec.ofInt 64 1).toNat:Int)=0\/IntKind.i64.wrap ((BitVec.ofInt 64 y &&& BitVec.ofInt 64 1).toNat:Int)=1
 rcases h with h|h<;>rw[h]
 ·exact .inl rfl
 ·exact .inr rfl
end Go.AL
namespace Go.AL
open Go
variable{P:Program}{G:Nat->Option (List D)}{T:Tab}
structure PO (P:Program) (G:Nat->Option (List D)) (f:FuncId) (ds:List D) (v:AV) (N:AHeap) (n:Nat):Prop where
 fn:IsFn P f
 call:ACall P G f (ds.map .d) [] 0 fun v' N' n'=>v'=v/\N'=N/\n'=n
theorem zlx{f:FuncId}{ds:List D}{v:AV}{N:AHeap}{n:Nat}{H:AHeap}{nx:Nat}{k:AV->AHeap->Nat->Prop}(h:PO P G f ds v N n)(hk:k (v.ren (· + nx)) (N.shift nx++H) (nx+n)):CallVC P G f (ds.map .d) H nx k:=by
 refine⟨h.fn,zcf h.call ?_⟩
 rintro v' N' m ⟨rfl,rfl,rfl⟩
 exact hk
theorem zor{f:FuncId}{ds:List D}{v:AV}{N:AHeap}{n:Nat}{k:AV->AHeap->Nat->Prop}(h:PO P G f ds v N n)(hk:k v N n):DCallVC P G f ds k:=⟨v,N,n,h.fn,h.call,hk⟩
theorem zdg{C:Ctx}{H H':AHeap}(h:HRel G C H)(hs:∀ nm b,H'.get nm=some b->H.get nm=some b):HRel G C H' :=
 ⟨fun nm b hg=>h.blk nm b (hs nm b hg),fun nm nm' b b' k h1 h2=>h.inj nm nm' b b' k (hs _ _ h1) (hs _ _ h2),h.ro,h.glob⟩
theorem zmu{C:Ctx}{H:AHeap}{nm:Nat}{b b':Blk}(h:HRel G C H)(hg:H.get nm=some b)(hb:BRel C nm b'):HRel G C ((nm,some b')::H):=by
 have key:∀ m bl,AHeap.get ((nm,some b')::H) m=some bl->C.U m/\BRel C m bl /\ ∃ bl0,H.get m=some bl0:=fun m bl hm=>by
  by_cases e:m=nm
  ·subst e
   rw[zaf]at hm
   cases hm
   exact⟨(h.blk _ _ hg).1,hb,_,hg⟩
  ·rw[zad _ _ e]at hm
   exact⟨(h.blk m bl hm).1,(h.blk m bl hm).2,_,hm⟩
 refine⟨fun m bl hm=>⟨(key m bl hm).1,(key m bl hm).2.1⟩,fun m m' bl bl' k h1 h2 h3 h4=>?_,h.ro,h.glob⟩
 obtain⟨_,_,b0,g0⟩:=key m bl h1
 obtain⟨_,_,b1,g1⟩:=key m' bl' h2
 exact h.inj m m' b0 b1 k g0 g1 h3 h4
theorem sub_nilH{b S:Nat}{ms:List Nat}{e:List (Nat×AV)}{H:AHeap}{n nm:Nat}(hb:b<=n)(hg:H.get nm=some (.arr 1 [[.d (.sl [] true)]])):Sub G b ms ⟨e,H,n⟩ ⟨e,(nm,some (.arr 1 [[.sl n S 0 0 0 false]]))::(n,some (.arr S []))::H,n+1⟩:=by
 intro k C a hR
 have hn:¬ C.U n:=fun h=>by have:=hR.names n h;simp only at this;omega
 obtain⟨C',e1,h1,h2,h3,h4⟩:=zdt (S:=S) hR.heap hn
 have hnm:nm≠n:=fun e=>by subst e;exact hn (hR.heap.blk _ _ hg).1
 have hg':AHeap.get ((n,some (.arr S []))::H) nm=some (.arr 1 [[.d (.sl [] true)]]):=qe0
 have hb':BRel C' nm (.arr 1 [[.sl n S 0 0 0 false]]):=by
  rcases (h1.blk _ _ hg').2 with⟨_,q⟩|⟨k',cs,ty,g1,g2,g3,g4,g5,g6⟩
  ·cases q
  ·refine .inr ⟨k',cs,ty,g1,g2,g3,g4,fun el hel=>?_,fun i j el v a1 a2=>?_⟩
   ·rw[List.mem_singleton.1 hel];rfl
   ·match i,j,a1,a2 with
    | 0,0,a1,a2 =>
     simp at a1;subst a1;simp at a2;subst a2
     obtain⟨x,x1,x2⟩:=g6 0 0 [.d (.sl [] true)] (.d (.sl [] true)) rfl rfl
     refine⟨x,x1,?_⟩
     have hd:=zbi x2
     cases hd with
     | sl0 _ ad c ht =>
      have:=ht rfl
      subst this
      exact .sl0 n S 0 false ad h4
     | sl _ _ b' o' c sz vs hro hc ht hsz hm' hr' =>
      have:=ht rfl
      simp at this
      subst this
      exact .sl0 n S 0 false _ h4
    | 0,j+1,a1,a2=>simp at a1;subst a1;simp at a2
    | i+1,_,a1,_=>simp at a1
 refine⟨C',e1,⟨zmu h1 hg' hb',⟨hR.env.size,fun m=>?_⟩,fun q hq=>?_,fun q hq=>(h2.names q (hR.marks q hq)).1,?_⟩,fun X hX=>?_⟩
 ·exact qe8
 ·exact qgq
 ·exact qha
 ·exact qf6
theorem zap{b:Nat}{ms:List Nat}{st st':St}(ps:List (Nat×Nat))(hρ:((List.range b).all fun m=>Nat.beq (rho ps m) m)=true)(hbn:Nat.ble b st'.nx=true)
  (henv:AllP (fun p:Nat×AV=>lk st.env p.1=p.2.ren (rho ps)/\p.2.bel st'.nx=true) st'.env)
  (hheap:AllP (fun p:Nat×Option Blk=>p.1<st'.nx /\ ∃ bl,p.2=some bl/\st.heap.get (rho ps p.1)=some (bl.ren (rho ps))/\bl.Below st'.nx) st'.heap)
  (hinj:AllP (fun p:Nat×Option Blk=>AllP (fun q:Nat×Option Blk=>rho ps p.1=rho ps q.1->p.1=q.1) st'.heap) st'.heap)
  (hms:AllP (fun m=>m<st'.nx/\rho ps m=m) ms):Sub G b ms st st' :=
 zid (rho ps) (fun m h=>Nat.eq_of_beq_eq_true (List.all_eq_true.1 hρ m (List.mem_range.2 h))) (Nat.le_of_ble_eq_true hbn) henv hheap hinj hms
end Go.AL
namespace Go.AL
open Go
variable{P:Program}{G:Nat->Option (List D)}{T:Tab}
end Go.AL
namespace Go.AL
open Go
variable{P:Program}{G:Nat->Option (List D)}{T:Tab}
theorem zy2{b S:Nat}{ms:List Nat}{e:List (Nat×AV)}{H:AHeap}{n nm:Nat}{d0:D}(hb:b<=n)(hg:H.get nm=some (.arr 2 [[.d d0,.d (.sl [] true)]])):Sub G b ms ⟨e,H,n⟩ ⟨e,(nm,some (.arr 2 [[.d d0,.sl n S 0 0 0 false]]))::(n,some (.arr S []))::H,n+1⟩:=by
 intro k C a hR
 have hn:¬ C.U n:=fun h=>by have:=hR.names n h;simp only at this;omega
 obtain⟨C',e1,h1,h2,h3,h4⟩:=zdt (S:=S) hR.heap hn
 have hnm:nm≠n:=fun e=>by subst e;exact hn (hR.heap.blk _ _ hg).1
 have hg':AHeap.get ((n,some (.arr S []))::H) nm=some (.arr 2 [[.d d0,.d (.sl [] true)]]):=qe0
 have hb':BRel C' nm (.arr 2 [[.d d0,.sl n S 0 0 0 false]]):=by
  rcases (h1.blk _ _ hg').2 with⟨_,q⟩|⟨k',cs,ty,g1,g2,g3,g4,g5,g6⟩
  ·cases q
  ·refine .inr ⟨k',cs,ty,g1,g2,g3,g4,fun el hel=>?_,fun i j el v a1 a2=>?_⟩
   ·rw[List.mem_singleton.1 hel];rfl
   ·match i,j,a1,a2 with
    | 0,0,a1,a2 =>
     simp at a1;subst a1;simp at a2;subst a2
     exact g6 0 0 _ _ rfl rfl
    | 0,1,a1,a2 =>
     simp at a1;subst a1;simp at a2;subst a2
     obtain⟨x,x1,x2⟩:=g6 0 1 _ (.d (.sl [] true)) rfl rfl
     refine⟨x,x1,?_⟩
     have hd:=zbi x2
     cases hd with
     | sl0 _ ad c ht =>
      have:=ht rfl
      subst this
      exact .sl0 n S 0 false ad h4
     | sl _ _ b' o' c sz vs hro hc ht hsz hm' hr' =>
      have:=ht rfl
      simp at this
      subst this
      exact .sl0 n S 0 false _ h4
    | 0,j+2,a1,a2=>simp at a1;subst a1;simp at a2
    | i+1,_,a1,_=>simp at a1
 refine⟨C',e1,⟨zmu h1 hg' hb',⟨hR.env.size,fun m=>?_⟩,fun q hq=>?_,fun q hq=>(h2.names q (hR.marks q hq)).1,?_⟩,fun X hX=>?_⟩
 ·exact qe8
 ·exact qgq
 ·exact qha
 ·exact qf6
end Go.AL
namespace Go.AL
open Go
variable{P:Program}{G:Nat->Option (List D)}{T:Tab}
theorem zy1{b S:Nat}{ms:List Nat}{e:List (Nat×AV)}{H:AHeap}{n nm:Nat}{d0 d1:D}(hb:b<=n)(hg:H.get nm=some (.arr 3 [[.d d0,.d d1,.d (.sl [] true)]])):Sub G b ms ⟨e,H,n⟩ ⟨e,(nm,some (.arr 3 [[.d d0,.d d1,.sl n S 0 0 0 false]]))::(n,some (.arr S []))::H,n+1⟩:=by
 intro k C a hR
 have hn:¬ C.U n:=fun h=>by have:=hR.names n h;simp only at this;omega
 obtain⟨C',e1,h1,h2,h3,h4⟩:=zdt (S:=S) hR.heap hn
 have hnm:nm≠n:=fun e=>by subst e;exact hn (hR.heap.blk _ _ hg).1
 have hg':AHeap.get ((n,some (.arr S []))::H) nm=some (.arr 3 [[.d d0,.d d1,.d (.sl [] true)]]):=qe0
 have hb':BRel C' nm (.arr 3 [[.d d0,.d d1,.sl n S 0 0 0 false]]):=by
  rcases (h1.blk _ _ hg').2 with⟨_,q⟩|⟨k',cs,ty,g1,g2,g3,g4,g5,g6⟩
  ·cases q
  ·refine .inr ⟨k',cs,ty,g1,g2,g3,g4,fun el hel=>?_,fun i j el v a1 a2=>?_⟩
   ·rw[List.mem_singleton.1 hel];rfl
   ·match i,j,a1,a2 with
    | 0,0,a1,a2 =>
     simp at a1;subst a1;simp at a2;subst a2
     exact g6 0 0 _ _ rfl rfl
    | 0,1,a1,a2 =>
     simp at a1;subst a1;simp at a2;subst a2
     exact g6 0 1 _ _ rfl rfl
    | 0,2,a1,a2 =>
     simp at a1;subst a1;simp at a2;subst a2
     obtain⟨x,x1,x2⟩:=g6 0 2 _ (.d (.sl [] true)) rfl rfl
     refine⟨x,x1,?_⟩
     have hd:=zbi x2
     cases hd with
     | sl0 _ ad c ht =>
      have:=ht rfl
      subst this
      exact .sl0 n S 0 false ad h4
     | sl _ _ b' o' c sz vs hro hc ht hsz hm' hr' =>
      have:=ht rfl
      simp at this
      subst this
      exact .sl0 n S 0 false _ h4
    | 0,j+3,a1,a2=>simp at a1;subst a1;simp at a2
    | i+1,_,a1,_=>simp at a1
 refine⟨C',e1,⟨zmu h1 hg' hb',⟨hR.env.size,fun m=>?_⟩,fun q hq=>?_,fun q hq=>(h2.names q (hR.marks q hq)).1,?_⟩,fun X hX=>?_⟩
 ·exact qe8
 ·exact qgq
 ·exact qha
 ·exact qf6
end Go.AL
namespace Go.AL
open Go
variable{P:Program}{G:Nat->Option (List D)}{T:Tab}
theorem zbj{f:FuncId}{args:List AV}{H0 H:AHeap}{n0 nx:Nat}{K0 K:AV->AHeap->Nat->Prop}(h:ACall P G f args H0 n0 K0)(hn:nx<=n0)(hs:∀ nm b,H0.get nm=some b->H.get nm=some b)
  (hK:∀ v H1 n,K0 v H1 n->∃ H2,(∀ nm b,AHeap.get H2 nm=some b->H1.get nm=some b\/(H0.get nm=none/\H.get nm=some b))/\K v H2 n):ACall P G f args H nx K:=by
 intro C vs hH hU hl hr
 have hH0:HRel G C H0:=zdg hH hs
 refine(h C vs hH0 (fun m hm=>Nat.lt_of_lt_of_le (hU m hm) hn) hl hr).mono ?_
 rintro e w' ⟨x,v,H1,n,C',rfl,rfl,hk,hv,h1,hU',hT⟩
 obtain⟨H2,h2,hk2⟩:=hK v H1 n hk
 have apart:∀ nm b k,H0.get nm=none->H.get nm=some b->C.β nm=some k->∀ nm0 b0,H0.get nm0=some b0->C.β nm0≠some k:=by
  intro nm b k g1 g2 g3 nm0 b0 g4 g5
  have:=hH.inj _ _ _ _ k g2 (hs _ _ g4) g3 g5
  subst this
  rw[g1]at g4;cases g4
 have rest:∀ nm b,H0.get nm=none->H.get nm=some b->C'.U nm/\C'.β nm=C.β nm/\BRel C' nm b:=by
  intro nm b g1 g2
  obtain⟨u1,u2⟩:=hH.blk nm b g2
  obtain⟨n1,n2⟩:=hT.names nm u1
  refine⟨n1,n2,zbs hH0 hT u1 u2 fun k hk=>?_⟩
  have hlt:=zc8 u2 hk
  refine⟨hT.frame k hlt (apart nm b k g1 g2 hk),fun hro=>?_⟩
  rcases hT.rob k hro hlt with q|⟨nm0,b0,q1,q2⟩
  ·exact hH.ro_apart q nm b g2 hk
  ·exact apart nm b k g1 g2 hk nm0 b0 q1 q2
 refine⟨x,v,H2,n,C',rfl,rfl,hk2,hv,⟨fun nm b hg=>?_,fun nm nm' b b' k g1 g2 g3 g4=>?_,h1.ro,h1.glob⟩,hU',?_⟩
 ·rcases h2 nm b hg with q|⟨q1,q2⟩
  ·exact h1.blk nm b q
  ·obtain⟨a1,_,a3⟩:=rest nm b q1 q2
   exact⟨a1,a3⟩
 ·have mix:∀{nm nm':Nat} {b b':Blk},H1.get nm=some b->H0.get nm'=none->H.get nm'=some b'->C'.β nm=some k->C'.β nm'=some k->False:=by
   intro nm nm' b b' q1 q2 q3 q4 q5
   obtain⟨_,a2,_⟩:=rest nm' b' q2 q3
   rw[a2]at q5
   have hlt:=zc8 (hH.blk nm' b' q3).2 q5
   obtain⟨nm0,b0,c1,c2⟩:=hT.img nm b k q1 q4 hlt
   exact apart nm' b' k q2 q3 q5 nm0 b0 c1 c2
  rcases h2 nm b g1 with q|⟨q1,q2⟩
  ·rcases h2 nm' b' g2 with r|⟨r1,r2⟩
   ·exact h1.inj _ _ _ _ k q r g3 g4
   ·exact(mix q r1 r2 g3 g4).elim
  ·rcases h2 nm' b' g2 with r|⟨r1,r2⟩
   ·exact(mix r q1 q2 g4 g3).elim
   ·rw[(rest nm b q1 q2).2.1]at g3
    rw[(rest nm' b' r1 r2).2.1]at g4
    exact hH.inj _ _ _ _ k q2 r2 g3 g4
 ·exact{
      os:=hT.os,tape:=hT.tape,output:=hT.output,size:=hT.size,shape:=hT.shape,
      frame:=fun k hk hn=>hT.frame k hk fun nm b hb=>hn nm b (hs nm b hb),names:=hT.names,ros:=hT.ros,
      img:=fun nm b k q1 q2 q3=>by
       rcases h2 nm b q1 with q|⟨r1,r2⟩
       ·obtain⟨nm0,b0,c1,c2⟩:=hT.img nm b k q q2 q3
        exact⟨nm0,b0,hs _ _ c1,c2⟩
       ·rw[(rest nm b r1 r2).2.1]at q2
        exact⟨nm,b,r2,q2⟩,
      rob:=fun k q1 q2=>by
       rcases hT.rob k q1 q2 with q|⟨nm0,b0,c1,c2⟩
       ·exact .inl q
       ·exact .inr ⟨nm0,b0,hs _ _ c1,c2⟩ }
end Go.AL
namespace Go.AL
open Go
variable{P:Program}{G:Nat->Option (List D)}{T:Tab}{r:Option Nat}{n b:Nat}{ms:List Nat}{st:St}
theorem zh4{c:Code}{k:Exit->St->Prop}(h:AWP r P G n b c st ms fun e st' ms'=>ms'=ms /\ ∃ st'',Sub G b ms st' st''/\k e st''):AWP r P G n b c st ms fun e st' ms'=>ms'=ms/\k e st':=by
 intro X C a hR hX
 refine wpIn_mono (h X C a hR hX) ?_
 rintro e a' w' ⟨st',ms',C',rfl,⟨rfl,st'',hs,hk⟩,h3,h4⟩
 obtain⟨C'',e1,r1,t1⟩:=hs n C' a' h3
 exact⟨st'',ms',C'',e1,⟨rfl,hk⟩,r1,h4.trans (t1 X (xu hX h4))⟩
inductive RegVC (P:Program) (G:Nat->Option (List D)) (n b:Nat) (ms:List Nat) (id:Nat) (ops:Array Oper) (st:St) (k:Exit->St->Prop):Prop
 | mk (h:∀ r,AWP r P G n b (.region id ops true) st ms fun e st' ms'=>ms'=ms /\ ∃ st'',Sub G b ms st' st''/\k e st'')
noncomputable def xcodeR(P:Program)(ID:Nat)(T:Tab)(G:Nat->Option (List D))(n b:Nat)(ms:List Nat)(c:Code):XC omP :=
 @Code.rec (fun _=>XC omP)
  (fun st k=>k .normal st)
  (fun id ops draw=>match draw,Nat.beq id ID with
   | true,true=>fun st k=>RegVC P G n b ms id ops st k
   | draw,_=>xregion omP T G (cPm P G) (dPm P G) ops draw)
  (fun _ _ ihc ihd st k=>ihc st fun e st'=>nextK e st' (fun st'=>ihd st' k) k)
  (fun c _ _ ihx ihy st k=>xcond omP G c st (ihx st k) (ihy st k))
  (fun id _ ih st k=>ih st fun e st'=>blockK id e st' k)
  (fun c _ st k=>(lPm P G n b ms) c st k)
  (fun _ _ _ _ _ _ _ _=>omP.bad)
  (fun id st k=>k (.exit id) st)
  (fun _ ih st k=>ih st fun e st'=>scopeK e st' k)
  (fun _ st k=>k .normal st)
  (fun _ _ _=>omP.bad)
  (fun st k=>k .ret st)
  (fun _ _ _=>omP.bad) c
theorem zb7(hp:POk P T){ID:Nat}:∀(c:Code) (st:St) (k:Exit->St->Prop),chkCode n c=true->xcodeR P ID T G n b ms c st k ->
  AWP r P G n b c st ms fun e st' ms'=>ms'=ms/\k e st'
 | .skip,st,k,_,h=>zi7 ⟨rfl,h⟩
 | .ret,st,k,_,h=>zh3 ⟨rfl,h⟩
 | .exit id,st,k,_,h=>zi9 ⟨rfl,h⟩
 | .seq c d,st,k,hc,h=>by
  simp only[chkCode,Bool.and_eq_true]at hc
  refine ze3 (zay (zb7 hp c st _ hc.1 h) ?_)
  rintro e s m ⟨hm,h⟩
  rw[hm]
  cases e with
  | normal=>exact zb7 hp d s k hc.2 h
  | _=>exact⟨rfl,h⟩
 | .cond c x y,st,k,hc,h=>by
  simp only[chkCode,Bool.and_eq_true]at hc
  change xcond omP G c st (xcodeR P ID T G n b ms x st k) (xcodeR P ID T G n b ms y st k) at h
  unfold xcond at h
  split at h
  ·rename_i hv;exact zdo hv (fun _=>zb7 hp x st k hc.1 h) (fun e=>by cases e)
  ·rename_i hv;exact zdo hv (fun e=>by cases e) (fun _=>zb7 hp y st k hc.2 h)
  ·exact h.elim
 | .block id c,st,k,hc,h=>by
  refine zgn (zay (zb7 hp c st _ hc h) ?_)
  rintro e s m ⟨hm,h⟩
  rw[hm]
  cases e with
  | exit i =>
   simp only[blockQ]
   simp only[blockK]at h
   split at h
   ·exact qbc
   ·exact qbc
  | _=>exact⟨rfl,h⟩
 | .region id ops false,st,k,hc,h=>za0 (hd:=fun p:omP.W=>p) (xPm hp) loopPm (.region id ops false) st k hc h
 | .region id ops true,st,k,hc,h=>by
  cases q:Nat.beq id ID with
  | true =>
   change (match true,Nat.beq id ID with
    | true,true=>fun st k=>RegVC P G n b ms id ops st k
    | draw,_=>xregion omP T G (cPm P G) (dPm P G) ops draw:XC omP) st k at h
   rw[q]at h
   obtain⟨h⟩:=(show RegVC P G n b ms id ops st k from h)
   exact zh4 (h r)
  | false =>
   change (match true,Nat.beq id ID with
    | true,true=>fun st k=>RegVC P G n b ms id ops st k
    | draw,_=>xregion omP T G (cPm P G) (dPm P G) ops draw:XC omP) st k at h
   rw[q]at h
   exact za0 (hd:=fun p:omP.W=>p) (xPm hp) loopPm (.region id ops true) st k hc h
 | .loop c,st,k,hc,h=>loopPm c st k hc h
 | .rangeFunc ..,st,k,_,h=>h.elim
 | .scope c,st,k,hc,h=>by
  refine zgl (zay (zb7 hp c st _ hc h) ?_)
  rintro e s m ⟨hm,h⟩
  rw[hm]
  cases e with
  | goto l=>exact h.elim
  | _=>exact⟨rfl,h⟩
 | .label _,st,k,_,h=>zgm ⟨rfl,h⟩
 | .goto _,st,k,_,h=>h.elim
 | .refuse _,st,k,_,h=>h.elim
theorem for_useR(hp:POk P T)(ID:Nat){c:Code}{k:Exit->St->Prop}(I:Nat->St)(N:Nat)(Inv:Nat->Prop)(h0:Inv 0)(hs:Sub G b ms st (I 0))(hc:chkCode n c=true)
  (round:∀(i:Nat) (A:St->Prop),i<N->Inv i->(∀ st',Inv (i+1)->Sub G b ms st' (I (i+1))->A st')->xcodeR P ID T G n b ms c (I i) fun e st'=>nextK e st' A k)
  (last:∀(A:St->Prop),Inv N->xcodeR P ID T G n b ms c (I N) fun e st'=>nextK e st' A k):LoopVC P G n b ms c st k:=by
 refine⟨fun r=>zi8 (Q:=fun e st' ms'=>ms'=ms/\k e st') (σ:={ i:Nat // i<=N/\Inv i }) (fun s=>I s.1) (fun s=>N-s.1) ⟨0,Nat.zero_le _,h0⟩ hs ?_⟩
 rintro⟨i,hi,hI⟩
 have key:∀(A:St->Prop),(∀ st',A st'->∃ t:{ i:Nat // i<=N/\Inv i },Sub G b ms st' (I t.1)/\N-t.1<N-i)->(xcodeR P ID T G n b ms c (I i) fun e st'=>nextK e st' A k) ->
   AWP r P G n b c (I i) ms (nextQ (fun s' m'=>m'=ms /\ ∃ t:{ i:Nat // i<=N/\Inv i },Sub G b ms s' (I t.1)/\N-t.1<N-i) (fun e st' ms'=>ms'=ms/\k e st')):=fun A hA h=>by
  refine zay (zb7 hp c (I i) _ hc h) ?_
  rintro e s' m' ⟨hm,h⟩
  cases e with
  | normal=>exact⟨hm,hA _ h⟩
  | _=>exact⟨hm,h⟩
 rcases Nat.lt_or_ge i N with h|h
 ·exact key _ (fun _ h=>h) (round i (fun st'=>∃ t:{ i:Nat // i<=N/\Inv i },Sub G b ms st' (I t.1)/\N-t.1<N-i) h hI fun st' h1 h2=>⟨⟨i+1,h,h1⟩,h2,by show N-(i+1)<N-i;omega⟩)
 ·have:i=N:=by omega
  subst this
  exact key (fun _=>False) (fun _ h=>h.elim) (last _ hI)
end Go.AL
