import Derived.Test.YtehjjpbpdfnnfaaGreatDoorM00
import Derived.Test.YtehjjpbpdfnnfaaGreatDoorM01
import Derived.ChangeKeysEq
import Derived.Laws.StructEq
import Derived.OrdersIn
import Derived.StillTail
namespace Go.AL
open Go
variable{G:Nat->Option (List D)}{P:Program}{st:St}{o:Oper}
variable{r:Option Nat}{n b:Nat}{ms:List Nat}{Q:Exit->St->List Nat->Prop}
mutual
def AV.ren(ρ:Nat->Nat):AV->AV
 | .d x=>.d x
 | .top=>.top
 | .ptr nm sz i o=>.ptr (ρ nm) sz i o
 | .sl nm sz lo len room t=>.sl (ρ nm) sz lo len room t
 | .map nm=>.map (ρ nm)
 | .yld nm=>.yld (ρ nm)
 | .fn f a c=>.fn f (AV.rens ρ a) (AV.rens ρ c)
 | .agg l=>.agg (AV.rens ρ l)
 | .tup l=>.tup (AV.rens ρ l)
termination_by structural x=>x
def AV.rens(ρ:Nat->Nat):List AV->List AV
 | []=>[]
 | v::r=>v.ren ρ::AV.rens ρ r
termination_by structural x=>x
end
mutual
def AV.bel(k:Nat):AV->Bool
 | .d _=>true
 | .top=>true
 | .ptr nm _ _ _=>Nat.blt nm k
 | .sl nm _ _ _ _ _=>Nat.blt nm k
 | .map nm=>Nat.blt nm k
 | .yld nm=>Nat.blt nm k
 | .fn _ a c=>AV.bels k a&&AV.bels k c
 | .agg l=>AV.bels k l
 | .tup l=>AV.bels k l
termination_by structural x=>x
def AV.bels(k:Nat):List AV->Bool
 | []=>true
 | v::r=>v.bel k&&AV.bels k r
termination_by structural x=>x
end
theorem fO(ρ:Nat->Nat):∀(l:List AV) (i:Nat) (v:AV),l[i]?=some v->(AV.rens ρ l)[i]?=some (v.ren ρ)
 | [],i,v,h=>by simp at h
 | a::l,0,v,h=>by simp at h;subst h;simp[AV.rens]
 | a::l,i+1,v,h=>by simp only[AV.rens];simpa using fO ρ l i v uz
theorem bQ(ρ:Nat->Nat):∀ l:List AV,(AV.rens ρ l).length=l.length
 | []=>rfl
 | a::l=>by simp[AV.rens,bQ ρ l]
theorem lr(k:Nat):∀(l:List AV) (i:Nat) (v:AV),AV.bels k l=true->l[i]?=some v->v.bel k=true
 | [],i,v,_,h=>by simp at h
 | a::l,0,v,hb,h=>by simp at h;subst h;simp[AV.bels]at hb;exact hb.1
 | a::l,i+1,v,hb,h=>by simp[AV.bels]at hb;exact lr k l i v hb.2 uz
theorem Rt{k nm sz i o:Nat}(h:AV.bel k (.ptr nm sz i o)=true):nm<k:=qfp
theorem Mh{k nm sz lo len room:Nat}{t:Bool}(h:AV.bel k (.sl nm sz lo len room t)=true):nm<k:=qfp
theorem Ru{k nm:Nat}(h:AV.bel k (.yld nm)=true):nm<k:=qfp
theorem Rs{k nm:Nat}(h:AV.bel k (.map nm)=true):nm<k:=qfp
theorem xV{C C':Ctx}{ρ:Nat->Nat}{k:Nat}(hw:C'.w=C.w)(hro:∀ i,C.RO i->C'.RO i)(hU:∀ m,m<k->C.U (ρ m)->C'.U m)(hβ:∀ m,m<k->C.U (ρ m)->C'.β m=C.β (ρ m)){u:AV}{x:Value}(h:O9 C u x) :
  ∀ v:AV,u=v.ren ρ->v.bel k=true->O9 C' v x:=by
 induction h with
 | d y _ hd =>
  intro v he hb;cases v<;>simp[AV.ren]at he;subst he;exact .d _ _ (hd.mono (fun i _=>by rw[hw]) hro)
 | top _ =>
  intro v he hb;cases v<;>simp[AV.ren]at he;exact .top _
 | ptr nm sz idx off j h1 h2 =>
  intro v he hb;cases v<;>simp[AV.ren]at he;obtain⟨rfl,rfl,rfl,rfl⟩:=he;have hlt:=Rt hb;exact .ptr _ _ _ _ j (hU _ hlt h1) ((hβ _ hlt h1).trans h2)
 | sl nm sz lo len room t j c cs e fz h1 h2 h3 h4 h5 h6 h7 =>
  intro v he hb;cases v<;>simp[AV.ren]at he;obtain⟨rfl,rfl,rfl,rfl,rfl,rfl⟩:=he;have hlt:=Mh hb;exact .sl _ _ _ _ _ _ j c cs e fz (hU _ hlt h1) ((hβ _ hlt h1).trans h2) h3 h4 h5 (by rw[hw];exact h6) h7
 | sl0 nm sz lo t a h1 =>
  intro v he hb;cases v<;>simp[AV.ren]at he;obtain⟨rfl,rfl,rfl,rfl,rfl,rfl⟩:=he;have hlt:=Mh hb;exact .sl0 _ _ _ _ a (hU _ hlt h1)
 | map nm j h1 h2 =>
  intro v he hb;cases v<;>simp[AV.ren]at he;subst he;have hlt:=Rs hb;exact .map _ j (hU _ hlt h1) ((hβ _ hlt h1).trans h2)
 | yld nm j h1 h2 =>
  intro v he hb;cases v<;>simp[AV.ren]at he;subst he;have hlt:=Ru hb;exact .yld _ j (hU _ hlt h1) ((hβ _ hlt h1).trans h2)
 | fn f first cap fi ca hf hc _ _ ih1 ih2 =>
  intro v he hb;cases v<;>simp[AV.ren]at he;obtain⟨rfl,rfl,rfl⟩:=he;simp[AV.bel]at hb;exact .fn _ _ _ _ _ (by rw[hf,bQ]) (by rw[hc,bQ]) (fun i d hi=>ih1 i _ (fO ρ _ i d hi) d rfl (lr k _ i d hb.1 hi))
   (fun i d hi=>ih2 i _ (fO ρ _ i d hi) d rfl (lr k _ i d hb.2 hi))
 | agg l cs hs _ ih =>
  intro v he hb;cases v<;>simp[AV.ren]at he;subst he;simp[AV.bel]at hb;exact .agg _ _ (by rw[hs,bQ]) (fun i d hi=>ih i _ (fO ρ _ i d hi) d rfl (lr k _ i d hb hi))
 | tup l cs hs _ ih =>
  intro v he hb;cases v<;>simp[AV.ren]at he;subst he;simp[AV.bel]at hb;exact .tup _ _ (by rw[hs,bQ]) (fun i d hi=>ih i _ (fO ρ _ i d hi) d rfl (lr k _ i d hb hi))
def KO(ρ:Nat->Nat):List (Nat×AV)->List (Nat×AV)
 | []=>[]
 | (t,v)::e=>(t,v.ren ρ)::KO ρ e
theorem Bo(ρ:Nat->Nat)(t:Nat):∀ e:List (Nat×AV),Du (KO ρ e) t=(Du e t).ren ρ
 | []=>rfl
 | (k,v)::e=>by
  simp only[KO,Du];split
  ·rfl
  ·exact Bo ρ t e
def Rr(k:Nat):List (Nat×AV)->Bool
 | []=>true
 | (_,v)::e=>v.bel k&&Rr k e
theorem HU{k:Nat}(t:Nat):∀{e:List (Nat×AV)},Rr k e=true->(Du e t).bel k=true
 | [],_=>rfl
 | (j,v)::e,h=>by
  simp only[Rr,li]at h;simp only[Du];split
  ·exact h.1
  ·exact HU t h.2
def Blk.ren(ρ:Nat->Nat):Blk->Blk
 | .arr sz els=>.arr sz (els.map (AV.rens ρ))
 | .map es=>.map es
 | .raw o=>.raw o
 | .lp env n ps assign body state pending dnm=>.lp (KO ρ env) n ps assign body state pending (ρ dnm)
def Blk.Below(k:Nat):Blk->Prop
 | .arr _ els=>∀ el,el∈els->AV.bels k el=true
 | .map _=>True
 | .raw _=>True
 | .lp env _ _ _ _ _ _ dnm=>Rr k env=true/\dnm<k
theorem Mm{C C':Ctx}{ρ:Nat->Nat}{k nm:Nat}{bl:Blk}(hw:C'.w=C.w)(hro:∀ i,C.RO i->C'.RO i)(hU:∀ m,m<k->C.U (ρ m)->C'.U m)(hβ:∀ m,m<k->C.U (ρ m)->C'.β m=C.β (ρ m))
  (hnm:C'.β nm=C.β (ρ nm)) (hb:bl.Below k) (hnro:∀ j,C.β (ρ nm)=some j->¬ C'.RO j) (h:iL C (ρ nm) (bl.ren ρ)):iL C' nm bl:=by
 cases bl with
 | arr sz els =>
  rcases h with⟨h1,h2⟩|⟨j,cs,e,h1,h2,h3,h4,h5,h6⟩
  ·exact .inl ⟨hnm.trans h1,by simpa using h2⟩
  ·refine .inr ⟨j,cs,e,hnm.trans h1,by rw[hw];exact h2,hnro j h1,by simpa using h4,fun el hel=>?_,fun i q el v a1 a2=>?_⟩
   ·have:=h5 (AV.rens ρ el) (bm.2 ⟨el,hel,rfl⟩);rw[bQ]at this;exact this
   ·obtain⟨x,g1,g2⟩:=h6 i q (AV.rens ρ el) (v.ren ρ) (by simp[a1]) (fO ρ el q v a2);exact⟨x,g1,xV hw hro hU hβ g2 v rfl (lr k el q v (hb el (ye a1)) a2)⟩
 | map es =>
  obtain⟨j,ents,cl,h1,h2,h3,h4,h5⟩:=h;refine⟨j,ents,cl,hnm.trans h1,by rw[hw];exact h2,hnro j h1,h4,fun i x y a1=>?_⟩;obtain⟨en,g1,g2,g3⟩:=h5 i x y a1;exact⟨en,g1,g2.mono (fun i _=>by rw[hw]) hro,g3.mono (fun i _=>by rw[hw]) hro⟩
 | raw o =>
  obtain⟨j,h1,h2,h3,h4⟩:=h;exact⟨j,hnm.trans h1,by rw[hw];exact h2,hnro j h1,h4⟩
 | lp env n ps assign body state pending dnm =>
  obtain⟨j,r,h1,h2,h3,h4,h5,h6,h7,h8,h9,h10,h11,h12⟩:=h;exact⟨j,r,hnm.trans h1,by rw[hw];exact h2,hnro j h1,h4,h5,h6,h7,h8,h9,fun t=>xV hw hro hU hβ (h10 t) _ (Bo ρ t env) (HU t hb.1),hU _ hb.2 h11,(hβ _ hb.2 h11).trans h12⟩
def AllP{α:Type}(f:α->Prop):List α->Prop
 | []=>True
 | a::l=>f a/\AllP f l
theorem AllP.mem{α:Type}{f:α->Prop}:∀{l:List α},AllP f l->∀ a,a∈l->f a
 | [],_,a,h=>by cases h
 | x::l,h,a,ha=>by
  rcases jJ.1 ha with e|e
  ·exact e ▸ h.1
  ·exact h.2.mem a e
theorem Gh:∀{e:List (Nat×AV)} {t:Nat},lk e t = .top\/(t,lk e t)∈e
 | [],t=>.inl rfl
 | (k,v)::e,t=>by
  by_cases h:t=k
  ·subst h;rw[ba];exact .inr aR
  ·rw[aV _ _ h];rcases Gh (e:=e) (t:=t) with q|q
   ·exact .inl q
   ·exact .inr (by simp[q])
theorem get_mem:∀{H:AHeap} {nm:Nat} {bl:Blk},H.get nm=some bl->(nm,some bl)∈H
 | [],nm,bl,h=>by simp[AHeap.get]at h
 | (k,v)::H,nm,bl,h=>by
  by_cases e:nm=k
  ·subst e;rw[ao]at h;subst h;simp
  ·rw[ai _ _ e]at h;simp[get_mem h]
theorem pj{st':St}(ρ:Nat->Nat)(hρ:∀ m,m<b->ρ m=m)(hbn:b<=st'.nx)
  (henv:AllP (fun p:Nat×AV=>lk st.env p.1=p.2.ren ρ/\p.2.bel st'.nx=true) st'.env)
  (hheap:AllP (fun p:Nat×Option Blk=>p.1<st'.nx /\ ∃ bl,p.2=some bl/\st.heap.get (ρ p.1)=some (bl.ren ρ)/\bl.Below st'.nx) st'.heap)
  (hinj:AllP (fun p:Nat×Option Blk=>AllP (fun q:Nat×Option Blk=>ρ p.1=ρ q.1->p.1=q.1) st'.heap) st'.heap)
  (hms:AllP (fun m=>m<st'.nx/\ρ m=m) ms):Sub G b ms st st':=by
 intro n C a hR
 let C':Ctx:={ U:=fun m=>m<st'.nx/\C.U (ρ m),β:=fun m=>C.β (ρ m),RO:=C.RO,w:=C.w }
 have hU:∀ m,m<st'.nx->C.U (ρ m)->C'.U m:=fun m h1 h2=>⟨h1,h2⟩
 have hmem:∀ nm bl,st'.heap.get nm=some bl->nm<st'.nx/\st.heap.get (ρ nm)=some (bl.ren ρ)/\bl.Below st'.nx:=fun nm bl h=>by
  obtain⟨h1,bl',h2,h3,h4⟩:=hheap.mem _ (get_mem h);cases h2;exact⟨h1,h3,h4⟩
 refine⟨C',rfl,⟨⟨?_,?_,hR.heap.ro,hR.heap.glob⟩,⟨hR.env.size,fun t=>?_⟩,fun m h=>h.1,fun m h=>?_,?_⟩,fun X hX=>?_⟩
 ·intro nm bl h;obtain⟨h1,h3,h4⟩:=hmem nm bl h;obtain⟨g1,g2⟩:=hR.heap.blk _ _ h3;exact⟨⟨h1,g1⟩,Mm (C:=C) (C':=C') rfl (fun _ h=>h) hU (fun _ _ _=>rfl) rfl h4 (fun j hj hro=>hR.heap.ro_apart hro _ _ h3 hj) g2⟩
 ·intro nm nm' bl bl' k h1 h2 e1 e2;have:=hR.heap.inj _ _ _ _ k (hmem nm bl h1).2.1 (hmem nm' bl' h2).2.1 e1 e2;exact(hinj.mem _ (get_mem h1)).mem _ (get_mem h2) this
 ·rcases Gh (e:=st'.env) (t:=t) with q|q
  ·rw[q];exact .top _
  ·obtain⟨h1,h2⟩:=henv.mem _ q;have:=hR.env.env t;exact xV (C:=C) (C':=C') rfl (fun _ h=>h) hU (fun _ _ _=>rfl) this _ h1 h2
 ·obtain⟨h1,h2⟩:=hms.mem m h;exact⟨h1,by rw[h2];exact hR.marks m h⟩
 ·rw[hR.defers];apply xX;intro m h;simp[kW,C',(hms.mem m h).2]
 ·refine{ os:=rfl,tape:=rfl,output:=rfl,size:=cF _,shape:=fun k cs e fz h=>⟨cs,fz,h,rfl⟩,frame:=fun _ _ _=>rfl,names:=fun m hm=>?_,ros:=fun _ h=>h,img:=fun nm bl k h1 h2 _=>?_,rob:=fun _ h _=>.inl h }
  ·obtain⟨h1,h2⟩:=hX m hm;exact⟨⟨by omega,by rw[hρ m h2];exact h1⟩,by simp[C',hρ m h2]⟩
  ·exact⟨ρ nm,_,(hmem nm bl h1).2.1,h2⟩
mutual
theorem GS:∀ v:AV,v.ren (fun m=>m)=v
 | .d _=>rfl
 | .top=>rfl
 | .ptr .. => rfl
 | .sl .. => rfl
 | .map _=>rfl
 | .yld _=>rfl
 | .fn f a c=>by simp only[AV.ren];rw[pf a,pf c]
 | .agg l=>by simp only[AV.ren];rw[pf l]
 | .tup l=>by simp only[AV.ren];rw[pf l]
theorem pf:∀ l:List AV,AV.rens (fun m=>m) l=l
 | []=>rfl
 | v::r=>by simp only[AV.rens];rw[GS v,pf r]
end
theorem JC:∀ e:List (Nat×AV),KO (fun m=>m) e=e
 | []=>rfl
 | (t,v)::e=>by simp only[KO];rw[GS v,JC e]
theorem Fy(bl:Blk):bl.ren (fun m=>m)=bl:=by
 cases bl with
 | arr sz els=>simp only[Blk.ren];rw[(xX fun l _=>pf l:els.map (AV.rens fun m=>m)=els.map (fun l=>l)),List.map_id']
 | map _=>rfl
 | raw _=>rfl
 | lp env n ps assign body state pending dnm=>simp only[Blk.ren,JC]
theorem PW{st':St}(hbn:b<=st'.nx)(henv:AllP (fun p:Nat×AV=>lk st.env p.1=p.2/\p.2.bel st'.nx=true) st'.env)
  (hheap:AllP (fun p:Nat×Option Blk=>p.1<st'.nx /\ ∃ bl,p.2=some bl/\st.heap.get p.1=some bl/\bl.Below st'.nx) st'.heap) (hms:AllP (fun m=>m<st'.nx) ms):Sub G b ms st st':=by
 have conv:∀{α:Type} {f g:α->Prop} (h:∀ a,f a->g a) (l:List α),AllP f l->AllP g l:=fun h l=>by
  induction l with
  | nil=>exact fun _=>trivial
  | cons a l ih=>exact fun q=>⟨h a q.1,ih q.2⟩
 have triv:∀{α:Type} {f:α->Prop} (h:∀ a,f a) (l:List α),AllP f l:=fun h l=>by
  induction l with
  | nil=>trivial
  | cons a l ih=>exact⟨h a,ih⟩
 refine pj (fun m=>m) (fun _ _=>rfl) hbn (conv (fun p h=>⟨by rw[GS];exact h.1,h.2⟩) _ henv) (conv (fun p h=>?_) _ hheap) (triv (fun p=>triv (fun q h=>h) _) _) (conv (fun m h=>⟨h,rfl⟩) _ hms);obtain⟨h1,bl,h2,h3,h4⟩:=h;exact⟨h1,bl,h2,by rw[Fy];exact h3,h4⟩
end Go.AL
namespace Go.AL
open Go
variable{G:Nat->Option (List D)}{P:Program}{st:St}{o:Oper}
variable{r:Option Nat}{n b:Nat}{ms:List Nat}{Q:Exit->St->List Nat->Prop}
inductive AsD (H:AHeap):AV->D->Prop
 | d (x:D):AsD H (.d x) x
 | any (v:AV):AsD H v .any
 | sl (nm sz lo len room:Nat) (t:Bool) (els:List (List AV)) (es:List (List D)) (hg:H.get nm=some (.arr sz els)) (hl:es.length=els.length) (hel:∀(i:Nat) (el:List AV) (dl:List D),els[i]?=some el->es[i]?=some dl->el.length=dl.length)
   (h:∀(i j:Nat) (el:List AV) (dl:List D) (v:AV) (d:D),els[i]?=some el->es[i]?=some dl->el[j]?=some v->dl[j]?=some d->AsD H v d) (hf:lo+len<=els.length) :
   AsD H (.sl nm sz lo len room t) (.sl ((es.drop lo).take len) (t&&decide (room=len)))
 | ptr (nm sz idx off:Nat) (els:List (List AV)) (el:List AV) (dl:List D) (hg:H.get nm=some (.arr sz els)) (he:els[idx]?=some el) (hl:el.length=dl.length)
   (h:∀(j:Nat) (v:AV) (d:D),el[j]?=some v->dl[j]?=some d->AsD H v d):AsD H (.ptr nm sz idx off) (.rop dl off)
 | agg (l:List AV) (ds:List D) (hl:l.length=ds.length) (h:∀(j:Nat) (v:AV) (d:D),l[j]?=some v->ds[j]?=some d->AsD H v d):AsD H (.agg l) (.agg ds)
 | tup (l:List AV) (ds:List D) (hl:l.length=ds.length) (h:∀(j:Nat) (v:AV) (d:D),l[j]?=some v->ds[j]?=some d->AsD H v d):AsD H (.tup l) (.tup ds)
 | fn (f:FuncId) (a c:List AV) (a' c':List D) (hl:a.length=a'.length) (hl':c.length=c'.length) (h:∀(j:Nat) (v:AV) (d:D),a[j]?=some v->a'[j]?=some d->AsD H v d)
   (h':∀(j:Nat) (v:AV) (d:D),c[j]?=some v->c'[j]?=some d->AsD H v d):AsD H (.fn f a c) (.fn f a' c')
theorem dw{α β:Type}{l:List α}{m:List β}(hl:l.length=m.length){j:Nat}{d:β}(h:m[j]?=some d):∃ v,l[j]?=some v:=by
 have:=(nt.1 h).1;exact⟨l[j]'qad,ew _⟩
theorem jR{C:Ctx}{H:AHeap}(hH:P0 G C H){RO:Nat->Prop}(r1:∀ k,C.RO k->RO k)(r2:∀ nm b k,H.get nm=some b->C.β nm=some k->RO k){v:AV}{d:D}(h:AsD H v d):∀ x,O9 C v x->P1 C.w RO d x:=by
 induction h with
 | d y=>exact fun x hx=>(bZ hx).mono (fun _ _=>rfl) r1
 | any v=>exact fun x _=>.any x
 | sl nm sz lo len room t els es hg hl hel _ hf ih =>
  intro x hx;rcases fS hx with⟨k,c,cs,e',fz,hU,hb,hlc,hr,ht,hh,hs,hxv⟩|⟨_,h1,h2,a,hxv⟩
  ·obtain⟨cs',e,hh',hro,hsz,hcl,hcs⟩:=lv (hH.blk nm _ hg).2 hb;subst hxv;have hlen:((es.drop lo).take len).length=len:=fF;have hget:∀ i dl,((es.drop lo).take len)[i]?=some dl->es[lo+i]?=some dl:=fun i dl hi=>by
    rw[Fb]at hi;split at hi
    ·exact B3
    ·cases hi
   have hall:∀ dl,dl∈es->dl.length=sz:=fun dl hdl=>by
    obtain⟨i,hi⟩:=List.mem_iff_getElem?.1 hdl;obtain⟨el,he⟩:=dw hl.symm hi;rw[<- hel i el dl he hi];exact hsz el (ye he)
   have key:∀ i j dl d,((es.drop lo).take len)[i]?=some dl->dl[j]?=some d->∃ y:Value,C.w.cell? ⟨k,lo*sz+i*sz+j,none⟩=some y/\P1 C.w RO d y:=by
    intro i j dl d hi hj;have hi':=hget i dl hi;obtain⟨el,he⟩:=dw hl.symm hi';obtain⟨v,hv⟩:=dw (hel _ el dl he hi') hj;obtain⟨y,y1,y2⟩:=hcs _ v (ir hsz he hv);refine⟨y,?_,ih _ j el dl v d he hi' hv hj y y2⟩;have:lo*sz+i*sz+j=(lo+i)*sz+j:=by rw[QH]
    simp[World.cell?,hh',this,y1]
   have:=P1.sl (w:=C.w) (RO:=RO) ((es.drop lo).take len) (t&&decide (room=len)) k (lo*sz) c sz
    (fun i j=>((C.w.cell? ⟨k,lo*sz+i*sz+j,none⟩).getD undef)) (r2 nm _ k hg hb) qad
    (fun q=>by simp at q;have:=ht q.1;omega) (fun el hel=>hall el (wds (Ci hel)))
    (fun i j el d h1 h2=>by obtain⟨y,y1,_⟩:=key i j el d h1 h2;rw[y1];rfl)
    (fun i j el d h1 h2=>by obtain⟨y,y1,y2⟩:=key i j el d h1 h2;rw[y1];exact y2)
   rw[hlen]at this;exact this
  ·subst hxv h1 h2;simp only[List.take_zero];exact .sl0 _ a 0 (fun _=>rfl)
 | ptr nm sz idx off els el dl hg he hl _ ih =>
  intro x hx;obtain⟨k,hU,hb,rfl⟩:=jg hx;obtain⟨_,hB⟩:=hH.blk nm _ hg;obtain⟨_,hc⟩:=oQ hB hb he;have key:∀ j d,dl[j]?=some d->∃ y:Value,C.w.cell? ⟨k,idx*sz+j,none⟩=some y/\P1 C.w RO d y:=by
   intro j d hj;obtain⟨v,hv⟩:=dw hl hj;obtain⟨y,y1,y2⟩:=hc j v hv;exact⟨y,y1,ih j v d hv hj y y2⟩
  exact .rop dl off k (idx*sz) (fun j=>(C.w.cell? ⟨k,idx*sz+j,none⟩).getD undef) (r2 nm _ k hg hb)
   (fun j d h1=>by obtain⟨y,y1,_⟩:=key j d h1;rw[y1];rfl) (fun j d h1=>by obtain⟨y,y1,y2⟩:=key j d h1;rw[y1];exact y2)
 | agg l ds hl _ ih =>
  intro x hx;obtain⟨cs,rfl,h1,h2⟩:=EW hx;exact .agg _ _ qad (fun j d hj=>by obtain⟨v,hv⟩:=dw hl hj;exact ih j v d hv hj _ (h2 j v hv))
 | tup l ds hl _ ih =>
  intro x hx;cases hx with
  | tup _ cs h1 h2=>exact .tup _ _ qad (fun j d hj=>by obtain⟨v,hv⟩:=dw hl hj;exact ih j v d hv hj _ (h2 j v hv))
 | fn f a c a' c' hl hl' _ _ ih ih' =>
  intro x hx;cases hx with
  | fn _ _ _ A B h1 h2 h3 h4 =>
   exact .fn f _ _ A B qad qad (fun j d hj=>by obtain⟨v,hv⟩:=dw hl hj;exact ih j v d hv hj _ (h3 j v hv))
    (fun j d hj=>by obtain⟨v,hv⟩:=dw hl' hj;exact ih' j v d hv hj _ (h4 j v hv))
theorem HS{C:Ctx}{H:AHeap}(hH:P0 G C H){v:AV}{d:D}(h:AsD H v d):∀ x,O9 C v x->P1 C.w (fun k=>k<C.w.heap.size) d x :=
 jR hH (fun k hk=>hH.ro k hk) (fun nm b k hg hb=>gD (hH.blk nm b hg).2 hb) h
theorem dt{H:AHeap}{nm sz lo len room:Nat}{t:Bool}{es:List (List D)}(hg:H.get nm=some (.arr sz (es.map (·.map .d))))(hf:lo+len<=es.length) :
  AsD H (.sl nm sz lo len room t) (.sl ((es.drop lo).take len) (t&&decide (room=len))):=by
 refine .sl nm sz lo len room t _ es hg aR (fun i el dl h1 h2=>?_) (fun i j el dl v d h1 h2 h3 h4=>?_) (by simpa using hf)
 ·simp only[mV,h2,LP,tU]at h1;subst h1;simp
 ·simp only[mV,h2,LP,tU]at h1;subst h1;simp only[mV,h4,LP,tU]at h3;subst h3;exact .d d
mutual
def D.flat:D->Bool
 | .sl [] _=>true
 | .sl (_::_) _=>false
 | .rop _ _=>false
 | .fn _ a c=>D.flats a&&D.flats c
 | .agg l=>D.flats l
 | .tup l=>D.flats l
 | .bool _=>true
 | .int _ _=>true
 | .str _=>true
 | .nilp=>true
 | .nilf=>true
 | .nilm=>true
 | .opq _=>true
 | .any=>true
termination_by structural x=>x
def D.flats:List D->Bool
 | []=>true
 | v::r=>v.flat&&D.flats r
termination_by structural x=>x
end
theorem lA:∀(l:List D) (i:Nat) (v:D),D.flats l=true->l[i]?=some v->v.flat=true
 | [],i,v,_,h=>by simp at h
 | a::l,0,v,hb,h=>by simp at h;subst h;simp[D.flats]at hb;exact hb.1
 | a::l,i+1,v,hb,h=>by simp[D.flats]at hb;exact lA l i v hb.2 uz
theorem wB{w:World}{RO RO':Nat->Prop}{d:D}{x:Value}(h:P1 w RO d x):d.flat=true->P1 w RO' d x:=by
 induction h with
 | bool b=>exact fun _=>.bool b
 | int k n=>exact fun _=>.int k n
 | str s=>exact fun _=>.str s
 | nilp=>exact fun _=>.nilp
 | nilf=>exact fun _=>.nilf
 | nilm=>exact fun _=>.nilm
 | opq v=>exact fun _=>.opq v
 | any v=>exact fun _=>.any v
 | sl0 t a c ht=>exact fun _=>.sl0 t a c ht
 | sl es t b o c sz vs hro hc ht hsz hm _ ih =>
  intro hf;cases es with
  | nil=>exact .sl0 t _ c ht
  | cons a l=>simp[D.flat]at hf
 | rop cs off b o vs hro hm _ ih=>intro hf;simp[D.flat]at hf
 | fn f first cap fi ca hf hc _ _ ih1 ih2 =>
  intro h;simp[D.flat]at h;exact .fn f first cap fi ca hf hc (fun i d hi=>ih1 i d hi (lA _ i d h.1 hi)) (fun i d hi=>ih2 i d hi (lA _ i d h.2 hi))
 | agg l cs hs _ ih=>intro h;simp[D.flat]at h;exact .agg l cs hs (fun i d hi=>ih i d hi (lA _ i d h hi))
 | tup l cs hs _ ih=>intro h;simp[D.flat]at h;exact .tup l cs hs (fun i d hi=>ih i d hi (lA _ i d h hi))
mutual
def AV.flat:AV->Bool
 | .d x=>x.flat
 | .top=>true
 | .ptr .. => true
 | .sl .. => true
 | .map _=>true
 | .yld _=>true
 | .fn _ a c=>AV.flats a&&AV.flats c
 | .agg l=>AV.flats l
 | .tup l=>AV.flats l
termination_by structural x=>x
def AV.flats:List AV->Bool
 | []=>true
 | v::r=>v.flat&&AV.flats r
termination_by structural x=>x
end
theorem il:∀(l:List AV) (i:Nat) (v:AV),AV.flats l=true->l[i]?=some v->v.flat=true
 | [],i,v,_,h=>by simp at h
 | a::l,0,v,hb,h=>by simp at h;subst h;simp[AV.flats]at hb;exact hb.1
 | a::l,i+1,v,hb,h=>by simp[AV.flats]at hb;exact il l i v hb.2 uz
theorem tS{C C':Ctx}{ρ:Nat->Nat}(hw:C'.w=C.w)(hU:∀ m,C.U m->C'.U (ρ m))(hβ:∀ m,C.U m->C'.β (ρ m)=C.β m){v:AV}{x:Value}(h:O9 C v x)
  (hd:(∀ i,C.RO i->C'.RO i)\/v.flat=true):O9 C' (v.ren ρ) x:=by
 induction h with
 | d y _ hdr =>
  simp only[AV.ren];rcases hd with hd|hd
  ·exact .d _ _ (hdr.mono (fun i _=>by rw[hw]) hd)
  ·have:=wB (RO':=C'.RO) hdr (by simpa[AV.flat] using hd);rw[<- hw]at this;exact .d _ _ this
 | top _=>exact .top _
 | ptr nm sz idx off j h1 h2=>exact .ptr _ _ _ _ j (hU _ h1) ((hβ _ h1).trans h2)
 | sl nm sz lo len room t j c cs e fz h1 h2 h3 h4 h5 h6 h7=>exact .sl _ _ _ _ _ _ j c cs e fz (hU _ h1) ((hβ _ h1).trans h2) h3 h4 h5 (by rw[hw];exact h6) h7
 | sl0 nm sz lo t a h1=>exact .sl0 _ _ _ _ a (hU _ h1)
 | map nm j h1 h2=>exact .map _ j (hU _ h1) ((hβ _ h1).trans h2)
 | yld nm j h1 h2=>exact .yld _ j (hU _ h1) ((hβ _ h1).trans h2)
 | fn f first cap fi ca hf hc _ _ ih1 ih2 =>
  have get:∀(l:List AV) (i:Nat) (y:AV),(AV.rens ρ l)[i]?=some y->∃ v,l[i]?=some v/\y=v.ren ρ:=fun l i y h=>by
   have:=(nt.1 h).1;rw[bQ]at this;have h2:=fO ρ l i l[i] (ew this);rw[h]at h2;exact⟨l[i],ew this,by simpa using h2⟩
  refine .fn _ _ _ _ _ (by rw[bQ];exact hf) (by rw[bQ];exact hc) (fun i d hi=>?_) (fun i d hi=>?_)
  ·obtain⟨v,h1,rfl⟩:=get _ i d hi;exact ih1 i v h1 (hd.imp id fun q=>by simp[AV.flat]at q;exact il _ i v q.1 h1)
  ·obtain⟨v,h1,rfl⟩:=get _ i d hi;exact ih2 i v h1 (hd.imp id fun q=>by simp[AV.flat]at q;exact il _ i v q.2 h1)
 | agg l cs hs _ ih =>
  refine .agg _ _ (by rw[bQ];exact hs) (fun i d hi=>?_);have:=(nt.1 hi).1;rw[bQ]at this;have h1:l[i]?=some l[i]:=ew this;have h2:=fO ρ l i l[i] h1;rw[hi]at h2;cases h2;exact ih i _ h1 (hd.imp id fun q=>by simp[AV.flat]at q;exact il _ i _ q h1)
 | tup l cs hs _ ih =>
  refine .tup _ _ (by rw[bQ];exact hs) (fun i d hi=>?_);have:=(nt.1 hi).1;rw[bQ]at this;have h1:l[i]?=some l[i]:=ew this;have h2:=fO ρ l i l[i] h1;rw[hi]at h2;cases h2;exact ih i _ h1 (hd.imp id fun q=>by simp[AV.flat]at q;exact il _ i _ q h1)
def IC:List (Nat×AV)->Bool
 | []=>true
 | (_,v)::e=>v.flat&&IC e
theorem CX(t:Nat):∀{e:List (Nat×AV)},IC e=true->(Du e t).flat=true
 | [],_=>rfl
 | (j,v)::e,h=>by
  simp only[IC,li]at h;simp only[Du];split
  ·exact h.1
  ·exact CX t h.2
def Blk.flat:Blk->Bool
 | .arr _ els=>els.all AV.flats
 | .map es=>es.all fun p=>p.1.flat&&p.2.flat
 | .raw _=>true
 | .lp env _ _ _ _ _ _ _=>IC env
def AHeap.shift(k:Nat):AHeap->AHeap
 | []=>[]
 | (m,bl)::r=>(m+k,bl.map (Blk.ren (· + k)))::AHeap.shift k r
theorem pi(k:Nat)(H:AHeap):∀(N:AHeap) (m:Nat),AHeap.get (N.shift k++H) m=if k<=m/\(N.map (·.1)).contains (m-k)=true then(AHeap.get N (m-k)).map (Blk.ren (· + k)) else AHeap.get H m
 | [],m=>by simp[AHeap.shift]
 | (j,bl)::N,m=>by
  simp only[AHeap.shift,yf];by_cases e:m=j+k
  ·subst e;rw[ao];simp[ao]
  ·rw[ai _ _ e,pi k H N m];by_cases hk:k<=m
   ·have e2:m-k≠j:=by omega
    rw[ai _ _ e2];have:(List.map (fun x=>x.fst) ((j,bl)::N)).contains (m-k)=(List.map (fun x=>x.fst) N).contains (m-k):=by
     simp[e2]
    simp only[this]
   ·simp[hk]
theorem uH:∀{N:AHeap} {m:Nat} {bl:Blk},N.get m=some bl->(N.map (·.1)).contains m=true:=fun h=>by
 have:=get_mem h;simp only[List.contains_iff_exists_mem_beq,bm];exact⟨_,⟨_,this,rfl⟩,by simp⟩
end Go.AL
namespace Go.AL
open Go
variable{G:Nat->Option (List D)}{P:Program}{st:St}{o:Oper}
variable{r:Option Nat}{n b:Nat}{ms:List Nat}{Q:Exit->St->List Nat->Prop}
theorem tr{C C0 C0':Ctx}{H N:AHeap}{nx k:Nat}{v:AV}{x:Value}(hH:P0 G C H)(hU:∀ m,C.U m->¬(nx<=m/\m<nx+k))(hw:C0.w=C.w)(hT:Tr C0.U C0 [] C0' N)(hN:P0 G C0' N)(hv:O9 C0' v x)(hk:∀ m,C0'.U m->m<k)
  (hd:(C0.RO=C.RO)\/(v.flat=true /\ ∀ m bl,N.get m=some bl->bl.flat=true)) :
  ∃ C',C'.w=C0'.w/\O9 C' (v.ren (· + nx)) x/\P0 G C' (N.shift nx++H)/\(∀ m,C'.U m->C.U m\/(nx<=m/\m<nx+k))/\Tr C.U C H C' (N.shift nx++H):=by
 let C':Ctx:={ U:=fun m=>C.U m\/(nx<=m/\C0'.U (m-nx)),β:=fun m=>if nx<=m/\m<nx+k then C0'.β (m-nx) else C.β m,RO:=fun j=>(j<C.w.heap.size/\C.RO j)\/(C.w.heap.size<=j/\C0'.RO j),w:=C0'.w }
 have hsame:∀ j,j<C.w.heap.size->C0'.w.heap[j]?=C.w.heap[j]?:=fun j hj=>by rw[<- hw]at hj⊢;exact hT.frame j hj (fun nm b h=>by simp[AHeap.get]at h)
 have hnew:∀ m bl j,N.get m=some bl->C0'.β m=some j->C.w.heap.size<=j:=fun m bl j h1 h2=>by
  rcases wa1 j C.w.heap.size with q|q
  ·obtain⟨_,_,h3,_⟩:=hT.img m bl j h1 h2 (by rw[hw];exact q);simp[AHeap.get]at h3
  ·exact q
 have hUρ:∀ m,C0'.U m->C'.U (m+nx):=fun m h=>.inr ⟨by omega,by simpa using h⟩;have hβρ:∀ m,C0'.U m->C'.β (m+nx)=C0'.β m:=fun m h=>by
  have h1:=hk m h;have:nx<=m+nx/\m+nx<nx+k:=qad;simp[C',this]
 have hincl:(∀ i,C0'.RO i->C'.RO i)\/(v.flat=true /\ ∀ m bl,N.get m=some bl->bl.flat=true):=by
  rcases hd with hd|hd
  ·left;intro i hi;rcases wa1 i C.w.heap.size with q|q
   ·rcases hT.rob i hi (by rw[hw];exact q) with h|⟨_,_,h,_⟩
    ·exact .inl ⟨q,hd ▸ h⟩
    ·simp[AHeap.get]at h
   ·exact .inr ⟨q,hi⟩
  ·exact .inr hd
 have hget:∀ m bl,AHeap.get (N.shift nx++H) m=some bl->(∃ bl0,(nx<=m/\m<nx+k)/\N.get (m-nx)=some bl0/\bl=bl0.ren (· + nx))\/(¬(nx<=m/\m<nx+k)/\H.get m=some bl):=by
  intro m bl h;rw[pi]at h;split at h
  ·rename_i q;left;simp only[tT]at h;obtain⟨bl0,h1,h2⟩:=h;have hkk:=hk _ (hN.blk _ _ h1).1;exact⟨bl0,⟨q.1,by have:=q.1;omega⟩,h1,h2.symm⟩
  ·exact .inr ⟨hU m (hH.blk m bl h).1,h⟩
 have htr:Tr C.U C H C' (N.shift nx++H):={
  os:=by have:=hT.os;rw[hw]at this;exact this
  tape:=by have:=hT.tape;rw[hw]at this;exact this
  output:=by have:=hT.output;rw[hw]at this;exact this
  size:=by have:=hT.size;rw[hw]at this;exact this
  shape:=fun j cs e fz h=>⟨cs,fz,(hsame j (jE h)).trans h,rfl⟩
  frame:=fun j hj _=>hsame j hj
  names:=fun m h=>⟨.inl h,by simp[C',hU m h]⟩
  ros:=fun j h=>.inl ⟨hH.ro j h,h⟩
  img:=fun m bl j h1 h2 hj=>by
   rcases hget m bl h1 with⟨bl0,q1,q2,q3⟩|⟨q1,q2⟩
   ·have:C0'.β (m-nx)=some j:=by simpa[C',q1] using h2
    have:=hnew _ _ _ q2 this;omega
   ·exact⟨m,bl,q2,by simpa[C',q1] using h2⟩
  rob:=fun j h hj=>by
   rcases h with h|h
   ·exact .inl h.2
   ·omega }
 refine⟨C',rfl,tS (C:=C0') (C':=C') rfl hUρ hβρ hv (hincl.imp id And.left),⟨?_,?_,?_,?_⟩,?_,htr⟩
 ·intro m bl h;rcases hget m bl h with⟨bl0,q1,q2,rfl⟩|⟨q1,q2⟩
  ·obtain⟨u1,u2⟩:=hN.blk _ _ q2;have e1:m-nx+nx=m:=by have:=q1.1;omega
   have hb:∀ j,C0'.β (m-nx)=some j->C'.β m=some j:=fun j h=>by simpa[C',q1] using h
   have hnr:∀ j,C0'.β (m-nx)=some j->¬ C0'.RO j->¬ C'.RO j:=fun j h1 h2 h3=>by
    have:=hnew _ _ _ q2 h1;rcases h3 with h3|h3
    ·exact qad
    ·exact h2 h3.2
   have hUm:C'.U m:=.inr ⟨q1.1,u1⟩;refine⟨hUm,?_⟩;have hfl:(∀ i,C0'.RO i->C'.RO i)\/bl0.flat=true:=hincl.imp id fun q=>q.2 _ _ q2;cases bl0 with
   | arr sz els =>
    rcases u2 with⟨a1,a2⟩|⟨j,cs,e,a1,a2,a3,a4,a5,a6⟩
    ·exact .inl ⟨by simpa[C',q1] using a1,by simp[a2]⟩
    ·refine .inr ⟨j,cs,e,hb j a1,a2,hnr j a1 a3,by simpa using a4,fun el hel=>?_,fun i q el u b1 b2=>?_⟩
     ·obtain⟨l,hl,rfl⟩:=bm.1 hel;rw[bQ];exact a5 l hl
     ·simp only[mV,tT]at b1;obtain⟨l,hl,rfl⟩:=b1;have hq:=(nt.1 b2).1;rw[bQ]at hq;have h1:l[q]?=some l[q]:=ew hq;have h2:=fO (· + nx) l q l[q] h1;rw[b2]at h2;cases h2;obtain⟨y,y1,y2⟩:=a6 i q l _ hl h1;refine⟨y,y1,tS (C:=C0') (C':=C') rfl hUρ hβρ y2 (hfl.imp id fun q'=>?_)⟩;simp only[Blk.flat,lh]at q';exact il l q _ (q' l (ye hl)) h1
   | map es =>
    obtain⟨j,ents,cl,a1,a2,a3,a4,a5⟩:=u2;refine⟨j,ents,cl,hb j a1,a2,hnr j a1 a3,a4,fun i p q b1=>?_⟩;obtain⟨en,c1,c2,c3⟩:=a5 i p q b1;rcases hfl with hfl|hfl
    ·exact⟨en,c1,c2.mono (fun _ _=>rfl) hfl,c3.mono (fun _ _=>rfl) hfl⟩
    ·simp only[Blk.flat,lh,li]at hfl;have:=hfl _ (ye b1);exact⟨en,c1,wB c2 this.1,wB c3 this.2⟩
   | raw o =>
    obtain⟨j,a1,a2,a3,a4⟩:=u2;exact⟨j,hb j a1,a2,hnr j a1 a3,a4⟩
   | lp env n ps assign body state pending dnm =>
    obtain⟨j,r,a1,a2,a3,a4,a5,a6,a7,a8,a9,a10,a11,a12⟩:=u2;have hkd:=hk _ a11;refine⟨j,r,hb j a1,a2,hnr j a1 a3,a4,a5,a6,a7,a8,a9,fun t=>?_,.inr ⟨Nat.le_add_left _ _,by simpa using a11⟩,?_⟩;rotate_left
    ·show C'.β (dnm+nx)=_;have hlt:nx<=dnm+nx/\dnm+nx<nx+k:=⟨Nat.le_add_left _ _,by have:=hkd;omega⟩
     simpa[C',hlt] using a12
    rw[Bo];refine tS (C:=C0') (C':=C') rfl hUρ hβρ (a10 t) (hfl.imp id fun q'=>?_);simp only[Blk.flat]at q';exact CX t q'
  ·obtain⟨u1,u2⟩:=hH.blk m bl q2;refine⟨.inl u1,eD hH htr u1 u2 fun j hj=>?_⟩;have hlt:=gD u2 hj;refine⟨hsame j hlt,fun h3=>?_⟩;rcases h3 with h3|h3
   ·exact hH.ro_apart h3.2 m bl q2 hj
   ·exact qad
 ·intro m m' b1 b2 j h1 h2 e1 e2;rcases hget m b1 h1 with⟨c1,p1,p2,p3⟩|⟨p1,p2⟩
  ·have f1:C0'.β (m-nx)=some j:=by simpa[C',p1] using e1
   have g1:=hnew _ _ _ p2 f1;rcases hget m' b2 h2 with⟨c2,q1,q2,q3⟩|⟨q1,q2⟩
   ·have f2:C0'.β (m'-nx)=some j:=by simpa[C',q1] using e2
    have:=hN.inj _ _ _ _ j p2 q2 f1 f2;omega
   ·have f2:C.β m'=some j:=by simpa[C',q1] using e2
    have:=gD (hH.blk m' b2 q2).2 f2;omega
  ·have f1:C.β m=some j:=by simpa[C',p1] using e1
   have g1:=gD (hH.blk m b1 p2).2 f1;rcases hget m' b2 h2 with⟨c2,q1,q2,q3⟩|⟨q1,q2⟩
   ·have f2:C0'.β (m'-nx)=some j:=by simpa[C',q1] using e2
    have:=hnew _ _ _ q2 f2;omega
   ·have f2:C.β m'=some j:=by simpa[C',q1] using e2
    exact hH.inj _ _ _ _ j p2 q2 f1 f2
 ·intro j h;rcases h with h|h
  ·exact uU h.1 htr.size
  ·exact hN.ro j h.2
 ·intro g ds hg;exact(hH.glob g ds hg).mono (fun i hi=>hsame i (hH.ro i hi)) (fun i hi=>.inl ⟨hH.ro i hi,hi⟩)
 ·intro m h;rcases h with h|h
  ·exact .inl h
  ·have:=hk _ h.2;exact .inr qad
theorem vS{C:Ctx}{H:AHeap}(hH:P0 G C H)(RO:Nat->Prop)(h1:∀ i,C.RO i->RO i)(h2:∀ i,RO i->i<C.w.heap.size):P0 G { U:=fun _=>False,β:=fun _=>none,RO:=RO,w:=C.w } [] where
 blk nm b h:=by simp[AHeap.get]at h
 inj nm nm' b b' k h:=by simp[AHeap.get]at h
 ro:=h2
 glob g ds hg:=(hH.glob g ds hg).mono (fun _ _=>rfl) h1
theorem fc{f:FuncId}{ds:List D}{H:AHeap}{nx:Nat}{K0 K:AV->AHeap->Nat->Prop}(h:bq P G f (ds.map .d) [] 0 K0)(hK:∀ v N k,K0 v N k->K (v.ren (· + nx)) (N.shift nx++H) (nx+k)) :
  bq P G f (ds.map .d) H nx K:=by
 intro C vs hH hU hs hr;refine(h { U:=fun _=>False,β:=fun _=>none,RO:=C.RO,w:=C.w } vs (vS hH C.RO (fun _ h=>h) hH.ro) (fun m hm=>hm.elim) hs (fun i v hi=>?_)).mono ?_
 ·simp only[mV,tT]at hi;obtain⟨d,hd,rfl⟩:=hi;have hh:P1 C.w C.RO d (vs.getD i undef):=bZ (hr i (.d d) (by simp[hd]));exact .d _ _ hh
 ·rintro e w' ⟨x,v,N,k,C0',rfl,rfl,hk,hv,hN,hk2,hT⟩;obtain⟨C',e1,g1,g2,g3,g4⟩:=tr (nx:=nx) (k:=k) (C0:={ U:=fun _=>False,β:=fun _=>none,RO:=C.RO,w:=C.w }) hH (fun m h=>by have:=hU m h;omega) rfl hT hN hv hk2 (.inl rfl);exact⟨x,_,_,_,C',rfl,e1,hK v N k hk,g1,g2,(fun m h=>by rcases g3 m h with q|q;(have:=hU m q;omega);omega),g4⟩
theorem vK{f:FuncId}{args:List AV}{ds:List D}{H:AHeap}{nx:Nat}{K0 K:AV->AHeap->Nat->Prop}(h:bq P G f (ds.map .d) [] 0 K0)(hl:args.length=ds.length)(ha:∀(i:Nat) (v:AV) (d:D),args[i]?=some v->ds[i]?=some d->AsD H v d)
  (hK:∀ v N k,K0 v N k->v.flat=true/\(∀ m bl,N.get m=some bl->bl.flat=true)/\K (v.ren (· + nx)) (N.shift nx++H) (nx+k)):bq P G f args H nx K:=by
 intro C vs hH hU hs hr;refine(h { U:=fun _=>False,β:=fun _=>none,RO:=fun k=>k<C.w.heap.size,w:=C.w } vs (vS hH _ hH.ro (fun _ h=>h)) (fun m hm=>hm.elim) (by simpa using hs.trans hl) (fun i v hi=>?_)).mono ?_
 ·simp only[mV,tT]at hi;obtain⟨d,hd,rfl⟩:=hi;obtain⟨u,hu⟩:=dw hl hd;have hh:=HS hH (ha i u d hu hd) _ (hr i u hu);exact .d _ _ hh
 ·rintro e w' ⟨x,v,N,k,C0',rfl,rfl,hk,hv,hN,hk2,hT⟩;obtain⟨q1,q2,q3⟩:=hK v N k hk;obtain⟨C',e1,g1,g2,g3,g4⟩:=tr (nx:=nx) (k:=k) (C0:={ U:=fun _=>False,β:=fun _=>none,RO:=fun k=>k<C.w.heap.size,w:=C.w }) hH (fun m h=>by have:=hU m h;omega) rfl hT hN hv hk2 (.inr ⟨q1,q2⟩);exact⟨x,_,_,_,C',rfl,e1,q3,g1,g2,(fun m h=>by rcases g3 m h with q|q;(have:=hU m q;omega);omega),g4⟩
end Go.AL
namespace Go.AL
open Go
variable{G:Nat->Option (List D)}{P:Program}{o:Oper}
variable{r:Option Nat}{n b:Nat}{ms:List Nat}{Q:Exit->St->List Nat->Prop}
structure HE where
 v:AV
 N:AHeap
 W:Option (Nat×Blk)
 rd:List Nat
 hi:Nat
def wr(W:Option (Nat×Blk))(H:AHeap):AHeap:=match W with
 | some (nm,bl)=>(nm,some bl)::H
 | none=>H
def vG(r:Option Nat)(P:Program)(G:Nat->Option (List D))(o:Oper)(ev:Operand->AV)(need:List (Nat×Blk))(v:AV)(N:AHeap)(W:Option (Nat×Blk))(lo hi:Nat):Prop :=
 ∀(H2:AHeap) (C:Ctx) (a:Act) (next:Act->World->Prop) (Q:Exit->Act->World->Prop),P0 G C H2->(∀ p,p∈need->H2.get p.1=some p.2)->(∀ x,O9 C (ev x) (a.eval x)\/x ∉ o.op.operands) ->
  (∀ m,lo<=m->m<hi->¬ C.U m) ->
  (∀ C' x,P0 G C' (wr W (N++H2))->Tr C.U C H2 C' (wr W (N++H2))->O9 C' v x->(∀ m,C'.U m->C.U m\/(lo<=m/\m<hi))->next (a.put o.dst x) C'.w)->o.wpIn (Fr r) 0 P a C.w next Q
def sD(G:Nat->Option (List D))(env:List (Nat×AV)):Operand->AV:=St.ev G { env:=env,heap:=[],nx:=0 }
theorem Ns{st st':St}(h:st.env=st'.env)(x:Operand):st.ev G x=st'.ev G x:=by cases x<;>simp[St.ev,h]
theorem qZ{env:List (Nat×AV)}{need:List (Nat×Blk)}{v:AV}{N:AHeap}{W:Option (Nat×Blk)}{lo hi:Nat}(hd:∀ c,o.op ≠ .defer c)
  (h:∀ H2:AHeap,(∀ p,p∈need->H2.get p.1=some p.2)->StepOp G P { env:=env,heap:=H2,nx:=0 } o v (wr W (N++H2)) (fun m=>lo<=m/\m<hi)):vG r P G o (sD G env) need v N W lo hi:=by
 intro H2 C a next Q hH hneed hop hfr hn
 refine⟨iM r,?_⟩;obtain⟨C',rr,h1,h2,h3,h4,h5⟩:=h H2 hneed C a hH (fun x hx=>(hop x).resolve_right (fun h=>h hx)) (fun m hm=>hfr m hm.1 hm.2);rw[Oper.semAt_eq _ _ _ hd,h1];rcases h2 with⟨x,rfl,hx⟩|⟨rfl,hv⟩
 ·exact hn C' x h3 h4 hx h5
 ·exact hn C' undef h3 h4 (hv ▸ .top _) h5
theorem Ny{env:List (Nat×AV)}{need:List (Nat×Blk)}{v:AV}{lo:Nat}(hd:∀ c,o.op ≠ .defer c)
  (h:∀ H2:AHeap,(∀ p,p∈need->H2.get p.1=some p.2)->PureOp G P { env:=env,heap:=H2,nx:=0 } o v):vG r P G o (sD G env) need v [] none lo lo :=
 qZ hd fun H2 hn C a hH hop _=>by
  obtain⟨C',r,h1,h2,h3,h4,h5⟩:=(h H2 hn).step C a hH hop (fun _ h=>h.elim);exact⟨C',r,h1,h2,h3,h4,fun m hm=>(h5 m hm).imp id (fun h=>h.elim)⟩
theorem CU{env:List (Nat×AV)}{need:List (Nat×Blk)}{g:Operand}{args:Array Operand}{tys:Array TypeId}{f:FuncId}{fi ca l:List AV}{ds:List D}{v:AV}{N:AHeap}{lo k:Nat}
  (ho:o.op = .call { callee:=.value g,args:=args,argTypes:=tys }) (hg:Aw (sD G env g)=some (f,fi,ca)) (hf:jw P f) (hl:fi++args.toList.map (sD G env)++ca=l)
  (hc:bq P G f (ds.map .d) [] 0 fun v' N' k'=>v'=v/\N'=N/\k'=k) (hlen:l.length=ds.length)
  (ha:(∀(H2:AHeap),(∀ p,p∈need->H2.get p.1=some p.2)->∀(i:Nat) (v:AV) (d:D),l[i]?=some v->ds[i]?=some d->AsD H2 v d))
  (hfl:l=ds.map .d\/(v.flat=true /\ ∀ m bl,N.get m=some bl->bl.flat=true)):vG r P G o (sD G env) need (v.ren (· + lo)) (N.shift lo) none lo (lo+k):=by
 intro H2 C a next Q hH hneed hop hfr hn
 refine⟨iM r,?_⟩;have hd:∀ c,o.op ≠ .defer c:=fun c h=>by rw[ho]at h;cases h
 have hop':∀ x,x∈o.op.operands->O9 C (sD G env x) (a.eval x):=fun x hx=>(hop x).resolve_right (fun h=>h hx);have hgm:g∈o.op.operands:=Pu;obtain⟨A,B,e1,e2,e3,e4,e5⟩:=wD hg (hop' g hgm);have hargs:∀ i d,(args.toList.map (sD G env))[i]?=some d->O9 C d ((args.map a.eval).getD i undef):=by
  intro i d h;simp only[mV,tT]at h;obtain⟨p,hp,rfl⟩:=h;have hp':args[i]?=some p:=qhu;have hlt:=(BU.1 hp').1;have:(args.map a.eval).getD i undef=a.eval p:=by
   have he:=(BU.1 hp').2;simp[Array.getD,hlt,he]
  rw[this];refine hop' p ?_;have:p∈args:=xW hp';simp[ho,Op.operands,Call.operands,this]
 have hrun:(execOp a.eval o).run P C.w = .ok (.enter f (A++args.map a.eval++B)) C.w:=by
  simp only[execOp,ho,resolve,e1,Deferred.ofValue];simp[invoke,mQ hf]
 have hsz:(A++args.map a.eval++B).size=l.length:=by rw[<- hl];simp[e2,e3]
 have hrel:∀ i d,l[i]?=some d->O9 C d ((A++args.map a.eval++B).getD i undef):=by
  rw[<- hl];exact iB (by simp[e2]) (iB e2 e4 hargs) e5
 rw[Oper.semAt_eq _ _ _ hd,hrun];obtain⟨RO,hro1,hro2,hro3,hmode⟩:∃ RO:Nat->Prop,(∀ i,C.RO i->RO i)/\(∀ i,RO i->i<C.w.heap.size)/\(∀ i d,ds[i]?=some d->P1 C.w RO d ((A++args.map a.eval++B).getD i undef)) ∧
   (RO=C.RO\/(v.flat=true /\ ∀ m bl,N.get m=some bl->bl.flat=true)):=by
  rcases hfl with hfl|hfl
  ·exact⟨C.RO,fun _ h=>h,hH.ro,fun i d hi=>bZ (hrel i (.d d) (by rw[hfl];simp[hi])),.inl rfl⟩
  ·exact⟨fun k=>k<C.w.heap.size,hH.ro,fun _ h=>h,fun i d hi=>by
    obtain⟨u,hu⟩:=dw hlen hi;exact HS hH (ha H2 hneed i u d hu hi) _ (hrel i u hu),.inr hfl⟩
 have hcall:=hc { U:=fun _=>False,β:=fun _=>none,RO:=RO,w:=C.w } (A++args.map a.eval++B) (vS hH RO hro1 hro2) (fun m hm=>hm.elim) (by rw[hsz,hlen];simp) (fun i v hi=>by
  simp only[mV,tT]at hi;obtain⟨d,hd,rfl⟩:=hi;have hh:=hro3 i d hd;exact .d _ _ hh)
 refine⟨(fun h=>by cases h),(vH hcall).mono ?_⟩;rintro e w' ⟨x,v',N',k',C0',rfl,rfl,⟨rfl,rfl,rfl⟩,hv,hN,hk2,hT⟩;obtain⟨C',q1,g1,g2,g3,g4⟩:=tr (nx:=lo) (k:=k') (C0:={ U:=fun _=>False,β:=fun _=>none,RO:=RO,w:=C.w }) hH (fun m hm hh=>hfr m hh.1 hh.2 hm) rfl hT hN hv hk2 hmode;have:=hn C' x g2 g4 g1 g3;rw[q1]at this;exact this
end Go.AL
namespace Go.AL
open Go
variable{G:Nat->Option (List D)}{P:Program}{o:Oper}
variable{r:Option Nat}{n b:Nat}{ms:List Nat}{Q:Exit->St->List Nat->Prop}
def zR(p:Nat->Bool):List Edge->Bool
 | []=>false
 | e::l=>match Region.binds .any e with
  | true=>match p e.on with
   | true=>true
   | false=>zR p l
  | false=>zR p l
theorem yN{p:Nat->Bool}:∀{l:List Edge},zR p l=true->∃ e,e∈l/\Region.binds .any e=true/\p e.on=true
 | [],h=>by cases h
 | a::l,h=>by
  unfold zR at h;have up:zR p l=true->∃ e,e∈a::l/\Region.binds .any e=true/\p e.on=true:=fun h=>by
   obtain⟨e,h1,h2⟩:=yN h;exact⟨e,eJ _ h1,h2⟩
  split at h
  ·rename_i hb;split at h
   ·rename_i hp;exact⟨a,by simp,hb,hp⟩
   ·exact up h
  ·exact up h
theorem sK{p q:Nat->Bool}(hpq:∀ n,p n=true->q n=true):∀{l:List Edge},zR p l=true->zR q l=true
 | [],h=>h
 | a::l,h=>by
  unfold zR at h⊢;split at h
  ·split at h
   ·rename_i hp;rw[hpq _ hp]
   ·split
    ·rfl
    ·exact sK hpq h
  ·exact sK hpq h
def dN(ops:Array Oper):Nat->Nat->Nat->Bool
 | 0,_,_=>false
 | f+1,j,i=>match ops[i]? with
  | some o=>zR (fun t=>match Nat.beq t j with
   | true=>true
   | false=>dN ops f j t) o.after.toList
  | none=>false
theorem GN{ops:Array Oper}{f j i:Nat}(h:dN ops (f+1) j i=true):∃ o e,ops[i]?=some o/\e∈o.after/\Region.binds .any e=true/\(e.on=j\/dN ops f j e.on=true):=by
 unfold dN at h;split at h
 ·rename_i o ho;obtain⟨e,h1,h2,h3⟩:=yN h;refine⟨o,e,ho,by simpa using h1,h2,?_⟩;split at h3
  ·rename_i hb;exact .inl (waf hb)
  ·exact .inr h3
 ·cases h
theorem BV{ops:Array Oper}{listed:Array Bool}{i j:Nat}(hw:Region.waitsFor .any ops i j=true)(h:∀ o,ops[i]?=some o->∀ e∈o.after,Region.binds .any e=true->listed.getD e.on false=true):listed.getD j false=true:=by
 obtain⟨o,ho,e,he,hb,hon⟩:=Region.waitsFor_spec hw;rw[<- hon];exact h o ho e he hb
theorem gU{ops:Array Oper}{listed:Array Bool}(hc:∀ j oj,ops[j]?=some oj->listed.getD j false=true->∀ e∈oj.after,Region.binds .any e=true->listed.getD e.on false=true) :
  ∀(f j i:Nat),dN ops f j i=true->(∀ o,ops[i]?=some o->∀ e∈o.after,Region.binds .any e=true->listed.getD e.on false=true)->listed.getD j false=true
 | 0,_,_,h,_=>by simp[dN]at h
 | f+1,j,i,h,hi=>by
  obtain⟨o,e,h1,h2,h3,h4⟩:=GN h;have hl:=hi o h1 e h2 h3;rcases h4 with h4|h4
  ·rw[<- h4];exact hl
  ·exact gU hc f j e.on h4 fun o ho=>hc e.on o ho hl
def jt(ops:Array Oper)(i:Nat):Option Tmp:=(ops[i]?).bind (·.dst)
def kg(m k:Nat):Array Bool:=(Array.range k).map fun i=>decide (i<m)
def rQ(o:Oper)(d:Tmp):Bool:=o.op.operands.toList.any fun x=>match x with
 | .tmp t=>Nat.beq t d
 | _=>false
def zf(ops:Array Oper)(m n:Nat):Bool :=
 decide (m<=ops.size) &&
 ((List.range m).all fun i=>match ops[i]? with
  | some o=>eO o.dst n&&(match o.guard with
    | some (j,_)=>Region.waitsFor .any ops i j&&decide (j<m)
    | none=>true) &&
   (o.after.all fun e=>!Region.binds .any e||decide (e.on<i)) &&
   ((List.range m).all fun j=>match jt ops j with
    | some d=>(!rQ o d||Nat.beq j i||(match Nat.blt j i with
     | true=>Region.waitsFor .any ops i j
     | false=>Region.waitsFor .any ops j i))&&(Nat.beq j i || !(match o.dst with
     | some d'=>Nat.beq d' d
     | none=>false))
    | none=>true)
  | none=>false) &&
 ((Nat.beq m ops.size&&(Region.ready .any ops (kg m ops.size)).isEmpty)||(decide (m<ops.size)&&Region.sinkB .any ops m&&Region.chainB .any ops m&&Region.seqB .any ops (ops.size-m) m (kg m ops.size)))
structure HeadOk (ops:Array Oper) (m n:Nat):Prop where
 le:m<=ops.size
 dst:∀ i o,i<m->ops[i]?=some o->eO o.dst n=true
 guard:∀ i o j w,i<m->ops[i]?=some o->o.guard=some (j,w)->Region.waitsFor .any ops i j=true/\j<m
 before:∀ i o,i<m->ops[i]?=some o->∀ e∈o.after,Region.binds .any e=true->e.on<i
 reads:∀ i o j d,i<m->j<m->ops[i]?=some o->jt ops j=some d->Operand.tmp d∈o.op.operands->(j<i->Region.waitsFor .any ops i j=true)/\(i<j->Region.waitsFor .any ops j i=true)
 apart:∀ i o j d,i<m->j<m->ops[i]?=some o->jt ops j=some d->o.dst=some d->j=i
 tail:(m=ops.size/\Region.ready .any ops (kg m ops.size)=[])\/(m<ops.size/\Region.sinkB .any ops m=true/\Region.chainB .any ops m=true/\Region.seqB .any ops (ops.size-m) m (kg m ops.size)=true)
theorem NZ{ops:Array Oper}{m n:Nat}(h:zf ops m n=true):HeadOk ops m n:=by
 simp only[zf,li,decide_eq_true_eq,lh,cJ,zG]at h;obtain⟨⟨h1,h2⟩,h3⟩:=h;have key:∀ i o,i<m->ops[i]?=some o->eO o.dst n=true/\(match o.guard with
    | some (j,_)=>Region.waitsFor .any ops i j&&decide (j<m)
    | none=>true)=true/\(∀ e∈o.after,Region.binds .any e=true->e.on<i) /\ ∀ j,j<m->(match jt ops j with
    | some d=>(!rQ o d||Nat.beq j i||(match Nat.blt j i with
     | true=>Region.waitsFor .any ops i j
     | false=>Region.waitsFor .any ops j i))&&(Nat.beq j i || !(match o.dst with
     | some d'=>Nat.beq d' d
     | none=>false))
    | none=>true)=true:=by
  intro i o hi ho;have:=h2 i hi;rw[ho]at this;simp only[li,lh,cJ]at this;obtain⟨⟨⟨a1,a2⟩,a3⟩,a4⟩:=this;refine⟨a1,a2,fun e he hb=>?_,a4⟩;have:=Array.all_eq_true_iff_forall_mem.1 a3 e he;simpa[hb] using this
 refine⟨h1,fun i o hi ho=>(key i o hi ho).1,fun i o j w hi ho hg=>?_,fun i o hi ho=>(key i o hi ho).2.2.1,fun i o j d hi hj ho hd hm=>?_,fun i o j d hi hj ho hd hod=>?_,?_⟩
 ·have:=(key i o hi ho).2.1;rw[hg]at this;simpa using this
 ·have:=(key i o hi ho).2.2.2 j hj;rw[hd]at this;simp only[li,zG]at this;rcases this.1 with(q|q)|q
  ·have:rQ o d=true:=by
    unfold rQ;rw[yF];exact⟨.tmp d,by simpa using hm,by simp⟩
   rw[this]at q;cases q
  ·have:=waf q;exact⟨fun h=>by omega,fun h=>by omega⟩
  ·split at q
   ·rename_i hb;have hb:j<i:=by simpa using hb
    exact⟨fun _=>q,fun h=>by omega⟩
   ·rename_i hb;have hb:¬ j<i:=fun h=>by rw[show j.blt i=true by simpa using h]at hb;cases hb
    exact⟨fun h=>absurd h hb,fun _=>q⟩
 ·have:=(key i o hi ho).2.2.2 j hj;rw[hd,hod]at this;simp only[li,zG]at this;rcases this.2 with q|q
  ·exact waf q
  ·simp at q
 ·rcases h3 with q|q
  ·exact .inl ⟨waf q.1,by simpa using q.2⟩
  ·exact .inr ⟨q.1.1.1,q.1.1.2,q.1.2,q.2⟩
def yU(d:Option Tmp)(v:AV)(env:List (Nat×AV)):List (Nat×AV):=match d with
 | some t=>(t,v)::env
 | none=>env
def kF(ops:Array Oper)(env:List (Nat×AV))(o:Oper):Option Bool:=match o.guard with
 | none=>some true
 | some (j,w)=>match mu ops { env:=env,heap:=[],nx:=0 } j with
  | some t=>some (t==w)
  | none=>match mt ops { env:=env,heap:=[],nx:=0 } j with
   | true=>some false
   | false=>none
inductive HOk (r:Option Nat) (P:Program) (G:Nat->Option (List D)) (ops:Array Oper) (H0:AHeap) (i:Nat) (o:Oper) (env:List (Nat×AV)) (effs:List HE) (lo:Nat):HE->Prop
 | go (he:HE) (need:List (Nat×Blk)) (hg:kF ops env o=some true) (hhi:lo<=he.hi) (hk:∀ p,p∈he.N->lo<=p.1/\p.1<he.hi)
   (hn:∀ p,p∈need->((H0.get p.1=some p.2 \/ ∃(j:Nat) (e:HE),dN ops ops.size j i=true/\effs[j]?=some e/\e.N.get p.1=some p.2) /\ ∀(j:Nat) (e:HE) (q:Nat×Blk),effs[j]?=some e->e.W=some q->q.1≠p.1) ∨
    ∃(j:Nat) (e:HE),dN ops ops.size j i=true/\effs[j]?=some e/\e.W=some p /\ ∀(j':Nat) (e':HE) (q:Nat×Blk),j<j'->effs[j']?=some e'->e'.W=some q->q.1≠p.1)
   (hrd:∀ p,p∈need->p.1∈he.rd)
   (hw:∀ q,he.W=some q->q.1<lo /\ ∀(j:Nat) (e:HE),effs[j]?=some e->(∀ q':Nat×Blk,e.W=some q'->q'.1=q.1->dN ops ops.size j i=true)/\(q.1∈e.rd->dN ops ops.size j i=true))
   (h:vG r P G o (sD G env) need he.v he.N he.W lo he.hi):HOk r P G ops H0 i o env effs lo he
 | no (hg:kF ops env o=some false):HOk r P G ops H0 i o env effs lo ⟨.d (.tup []),[],none,[],lo⟩
def ua(r:Option Nat)(P:Program)(G:Nat->Option (List D))(ops:Array Oper)(H0:AHeap)(K:List (Nat×AV)->List HE->Nat->Prop):List Oper->Nat->List (Nat×AV)->List HE->Nat->Prop
 | [],_,env,effs,lo=>K env effs lo
 | o::rest,i,env,effs,lo=>∃ he,HOk r P G ops H0 i o env effs lo he/\ua r P G ops H0 K rest (i+1) (yU o.dst he.v env) (effs++[he]) he.hi
def dS(effs:List HE)(H0:AHeap):AHeap:=effs.foldl (fun H he=>wr he.W (he.N++H)) H0
structure P8 (r:Option Nat) (P:Program) (G:Nat->Option (List D)) (ops:Array Oper) (H0:AHeap) (m:Nat) (env0:List (Nat×AV)) (nx0:Nat) (E:List HE) (ENV:Nat->List (Nat×AV)) (LO:Nat->Nat):Prop where
 len:E.length=m
 env0:ENV 0=env0
 lo0:LO 0=nx0
 ok:∀ i o,i<m->ops[i]?=some o->∃ he,E[i]?=some he/\HOk r P G ops H0 i o (ENV i) (E.take i) (LO i) he/\ENV (i+1)=yU o.dst he.v (ENV i)/\LO (i+1)=he.hi
theorem qE{ops:Array Oper}{H0:AHeap}{K:List (Nat×AV)->List HE->Nat->Prop}:∀(l:List Oper) (i:Nat) (env:List (Nat×AV)) (effs:List HE) (lo:Nat),effs.length=i->ua r P G ops H0 K l i env effs lo ->
  ∃(E:List HE) (ENV:Nat->List (Nat×AV)) (LO:Nat->Nat),E.length=i+l.length/\E.take i=effs/\ENV i=env/\LO i=lo ∧
   (∀ k o,l[k]?=some o->∃ he,E[i+k]?=some he/\HOk r P G ops H0 (i+k) o (ENV (i+k)) (E.take (i+k)) (LO (i+k)) he/\ENV (i+k+1)=yU o.dst he.v (ENV (i+k))/\LO (i+k+1)=he.hi)/\K (ENV (i+l.length)) E (LO (i+l.length))
 | [],i,env,effs,lo,hl,h=>⟨effs,fun _=>env,fun _=>lo,by simpa using hl,by rw[<- hl];simp,rfl,rfl,fun k o hk=>by simp at hk,h⟩
 | o::l,i,env,effs,lo,hl,h=>by
  obtain⟨he,h1,h2⟩:=h;obtain⟨E,ENV,LO,g1,g2,g3,g4,g5,g6⟩:=qE l (i+1) _ _ _ H5 h2;have hEi:E[i]?=some he:=by
   have:=congrArg (·[i]?) g2;simp only[Fb,if_pos (Ck i)]at this;rw[this,VV qad];simp[hl]
  have hti:E.take i=effs:=by
   have:=congrArg (List.take i) g2;rw[List.take_take,Uv (Nat.le_succ i),List.take_append_of_le_length qad,pT (l:=effs) qad]at this;exact this
  refine⟨E,fun k=>if k=i then env else ENV k,fun k=>if k=i then lo else LO k,by simp[g1];omega,hti,by simp,by simp,fun k o' hk=>?_,?_⟩
  ·cases k with
   | zero =>
    simp only[List.getElem?_cons_zero,tU]at hk;subst hk;refine⟨he,by simpa using hEi,?_,?_,?_⟩
    ·simp only[Lq,if_pos,hti];exact h1
    ·simp[g3]
    ·simp[g4]
   | succ k =>
    obtain⟨he',q1,q2,q3,q4⟩:=g5 k o' (by simpa using hk);have e1:i+(k+1)=i+1+k:=qad;have e2:¬(i+1+k=i):=qad;have e3:¬(i+1+k+1=i):=qad;rw[e1];refine⟨he',q1,?_,?_,?_⟩
    ·simp only[if_neg e2];exact q2
    ·simp only[if_neg e2,if_neg e3];exact q3
    ·simp only[if_neg e3];exact q4
  ·have e1:i+(o::l).length=i+1+l.length:=by simp;omega
   have e2:¬(i+1+l.length=i):=qad;simp only[e1,if_neg e2];exact g6
theorem FX{ops:Array Oper}{H0:AHeap}{K:List (Nat×AV)->List HE->Nat->Prop}{m nx0:Nat}{env0:List (Nat×AV)}(hm:m<=ops.size)(h:ua r P G ops H0 K (ops.toList.take m) 0 env0 [] nx0) :
  ∃ E ENV LO,P8 r P G ops H0 m env0 nx0 E ENV LO/\K (ENV m) E (LO m):=by
 obtain⟨E,ENV,LO,g1,_,g3,g4,g5,g6⟩:=qE _ 0 _ _ _ rfl h;have hl:(ops.toList.take m).length=m:=fF;rw[hl]at g1 g6;simp only[jj]at g1 g5 g6;exact⟨E,ENV,LO,⟨g1,g3,g4,fun i o hi ho=>g5 i o (by rw[Fb,if_pos hi];simpa using ho)⟩,g6⟩
end Go.AL
namespace Go.AL
open Go
variable{G:Nat->Option (List D)}{P:Program}{o:Oper}
variable{r:Option Nat}{n b:Nat}{ms:List Nat}{Q:Exit->St->List Nat->Prop}
variable{ops:Array Oper}{H0:AHeap}{m nx0:Nat}{env0:List (Nat×AV)}{E:List HE}{ENV:Nat->List (Nat×AV)}{LO:Nat->Nat}
theorem rF(hm:m<=ops.size){i:Nat}(hi:i<m):∃ o,ops[i]?=some o:=⟨ops[i]'qad,wdy _⟩
theorem HOk.range{i:Nat}{env:List (Nat×AV)}{effs:List HE}{lo:Nat}{he:HE}(h:HOk r P G ops H0 i o env effs lo he):lo<=he.hi /\ ∀ p,p∈he.N->lo<=p.1/\p.1<he.hi:=by
 cases h with
 | go he need hg hhi hk hn hrd hw h=>exact⟨hhi,hk⟩
 | no hg=>exact⟨cF _,fun p hp=>by cases hp⟩
theorem mw(hR:P8 r P G ops H0 m env0 nx0 E ENV LO)(hm:m<=ops.size):∀ j i,i<=j->j<=m->LO i<=LO j
 | 0,i,h,_=>by rw[Nat.le_zero.1 h];exact cF _
 | j+1,i,h,hj=>by
  by_cases e:i=j+1
  ·rw[e];exact cF _
  ·obtain⟨o,ho⟩:=rF (ops:=ops) hm (i:=j) qad;obtain⟨he,_,h2,_,h4⟩:=hR.ok j o qad ho;have:=mw hR hm j i qad qad;have:=h2.range.1;rw[h4];omega
theorem Gg(hR:P8 r P G ops H0 m env0 nx0 E ENV LO)(hm:m<=ops.size)(t:Nat):∀ i,i<=m->(∃ j he,j<i/\jt ops j=some t/\E[j]?=some he/\lk (ENV i) t=he.v)\/((∀ j,j<i->jt ops j≠some t)/\lk (ENV i) t=lk env0 t)
 | 0,_=>.inr ⟨fun j h=>by omega,by rw[hR.env0]⟩
 | i+1,hi=>by
  obtain⟨o,ho⟩:=rF (ops:=ops) hm (i:=i) qad;obtain⟨he,h1,_,h3,_⟩:=hR.ok i o qad ho;have hd:jt ops i=o.dst:=by simp[jt,ho]
  by_cases e:o.dst=some t
  ·left;refine⟨i,he,Ck i,hd.trans e,h1,?_⟩;rw[h3,e];exact ba _ _ _
  ·have hl:lk (ENV (i+1)) t=lk (ENV i) t:=by
    rw[h3];cases q:o.dst with
    | none=>rfl
    | some d=>exact aV _ _ (fun h=>e (by rw[q,h]))
   rcases Gg hR hm t i qad with⟨j,he',a1,a2,a3,a4⟩|⟨a1,a2⟩
   ·exact .inl ⟨j,he',by omega,a2,a3,hl.trans a4⟩
   ·refine .inr ⟨fun j hj=>?_,hl.trans a2⟩;by_cases hji:j=i
    ·rw[hji,hd];exact e
    ·exact a1 j qad
structure RelL (G:Nat->Option (List D)) (n:Nat) (ops:Array Oper) (H0:AHeap) (m:Nat) (env0:List (Nat×AV)) (nx0:Nat) (E:List HE) (LO:Nat->Nat) (ms:List Nat) (listed:Array Bool) (C:Ctx) (H:AHeap) (a:Act):Prop where
 heap:P0 G C H
 size:a.tmps.size=n
 own:∀ t j he,j<m->listed.getD j false=true->E[j]?=some he->jt ops j=some t->O9 C he.v (a.tmps.getD t undef)
 old:∀ t,(∀ j,j<m->listed.getD j false=true->jt ops j≠some t)->O9 C (lk env0 t) (a.tmps.getD t undef)
 sup0:∀ nm bl,H0.get nm=some bl->(∀ j he q,j<m->listed.getD j false=true->E[j]?=some he->he.W=some q->q.1≠nm)->H.get nm=some bl
 supN:∀ j he nm bl,j<m->listed.getD j false=true->E[j]?=some he->he.N.get nm=some bl->(∀ j he q,j<m->listed.getD j false=true->E[j]?=some he->he.W=some q->q.1≠nm)->H.get nm=some bl
 supW:∀ j he nm bl,j<m->listed.getD j false=true->E[j]?=some he->he.W=some (nm,bl)->(∀ j' he' q,j<j'->j'<m->listed.getD j' false=true->E[j']?=some he'->he'.W=some q->q.1≠nm)->H.get nm=some bl
 names:∀ k,C.U k->k<nx0 \/ ∃ j,j<m/\listed.getD j false=true/\LO j<=k/\k<LO (j+1)
 marks:∀ k,k∈ms->C.U k
 defers:a.defers=ms.map (kW C)
theorem FU{N H:AHeap}{nm:Nat}(h:∀ p,p∈N->p.1≠nm):AHeap.get (N++H) nm=H.get nm:=by
 induction N with
 | nil=>rfl
 | cons p N ih =>
  obtain⟨k,v⟩:=p;rw[yf,ai _ _ (Ne.symm (h (k,v) aR))];exact ih fun q hq=>h q (by simp[hq])
theorem uJ{N H:AHeap}{nm:Nat}{bl:Blk}(h:N.get nm=some bl):AHeap.get (N++H) nm=some bl:=by
 induction N with
 | nil=>simp[AHeap.get]at h
 | cons p N ih =>
  obtain⟨k,v⟩:=p;rw[yf];by_cases e:nm=k
  ·subst e;rw[ao]at h⊢;exact h
  ·rw[ai _ _ e]at h⊢;exact ih h
theorem lC{N H:AHeap}{nm:Nat}{bl:Blk}(h:AHeap.get (N++H) nm=some bl):N.get nm=some bl\/(H.get nm=some bl):=by
 induction N with
 | nil=>exact .inr h
 | cons p N ih =>
  obtain⟨k,v⟩:=p;rw[yf]at h;by_cases e:nm=k
  ·subst e;rw[ao]at h;left;rw[ao];exact h
  ·rw[ai _ _ e]at h;rcases ih h with q|q
   ·left;rw[ai _ _ e];exact q
   ·exact .inr q
theorem sc{listed:Array Bool}{i j:Nat}(hs:i<listed.size):(listed.setIfInBounds i true).getD j false=true ↔ j=i\/listed.getD j false=true:=by
 by_cases e:j=i
 ·subst e;simp[hs]
 ·rw[getD_set_ne false (Ne.symm e)];simp[e]
theorem Kw(hR:P8 r P G ops H0 m env0 nx0 E ENV LO)(hk:HeadOk ops m n){X:Nat->Prop}{C:Ctx}{H:AHeap}{a:Act}{listed:Array Bool}(hL:RelL G n ops H0 m env0 nx0 E LO ms listed C H a)(hX:∀ k,X k->C.U k/\k<b)
  (inv:HeadInv .any ops m listed) {i:Nat} (hi:i<m) (hr:i∈Region.ready .any ops listed) {K:Act->World->Prop} {Q:Exit->Act->World->Prop}
  (hK:∀ C' H' a',RelL G n ops H0 m env0 nx0 E LO ms (listed.setIfInBounds i true) C' H' a'->Tr X C H C' H'->K a' C'.w):wpOpIn (Fr r) 0 P ops Q i K a C.w:=by
 obtain⟨hun,o,ho,hall⟩:=mem_ready.1 hr;have hall':∀ o',ops[i]?=some o'->∀ e∈o'.after,Region.binds .any e=true->listed.getD e.on false=true:=fun o' ho' e he hb=>by
  rw[ho]at ho';cases ho';exact hall e he hb
 have hsz:i<listed.size:=by rw[inv.size];exact uU hi hk.le
 obtain⟨he,hE,hok,hENV,hLO⟩:=hR.ok i o hi ho;have hwait:∀ j,Region.waitsFor .any ops i j=true->listed.getD j false=true/\j<i:=fun j hw=>by
  refine⟨BV hw hall',?_⟩;obtain⟨o',ho',e,he',hb,hon⟩:=Region.waitsFor_spec hw;rw[ho]at ho';cases ho';rw[<- hon];exact hk.before i o hi ho e he' hb
 have hreadt:∀ t,(Operand.tmp t∈o.op.operands \/ ∃ j w,o.guard=some (j,w)/\jt ops j=some t)->O9 C (lk (ENV i) t) (a.tmps.getD t undef):=by
  intro t ht;have hw:∀ j,j<m->jt ops j=some t->listed.getD j false=true->Region.waitsFor .any ops i j=true:=fun j hj hd hlj=>by
   rcases ht with ht|⟨j',w,hg,hd'⟩
   ·obtain⟨r1,r2⟩:=hk.reads i o j t hi hj ho hd ht;rcases Ra j i with c|c|c
    ·exact r1 c
    ·subst c;rw[getD_both hun]at hlj;cases hlj
    ·obtain⟨oj,hoj,e,he',hb,hon⟩:=Region.waitsFor_spec (r2 c);have:=inv.closed j oj hoj hlj e he' hb;rw[hon,getD_both hun]at this;cases this
   ·obtain⟨q1,q2⟩:=hk.guard i o j' w hi ho hg;obtain⟨oj',hoj'⟩:=rF (ops:=ops) hk.le q2;have:j=j':=hk.apart j' oj' j t q2 hj hoj' hd (by simpa[jt,hoj'] using hd');rw[this];exact q1
  rcases Gg hR hk.le t i (Nat.le_of_lt hi) with⟨j,he',a1,a2,a3,a4⟩|⟨a1,a2⟩
  ·rw[a4];have hlj:listed.getD j false=true:=by
    rcases ht with ht|⟨j',w,hg,hd'⟩
    ·exact(hwait j ((hk.reads i o j t hi qad ho a2 ht).1 a1)).1
    ·obtain⟨q1,q2⟩:=hk.guard i o j' w hi ho hg;obtain⟨oj',hoj'⟩:=rF (ops:=ops) hk.le q2;have:j=j':=hk.apart j' oj' j t q2 qad hoj' a2 (by simpa[jt,hoj'] using hd');rw[this];exact(hwait j' q1).1
   exact hL.own t j he' qad hlj a3 a2
  ·rw[a2];exact hL.old t fun j hj hlj hd=>a1 j (hwait j (hw j hj hd hlj)).2 hd
 have hops:∀ x,O9 C (sD G (ENV i) x) (a.eval x)\/x ∉ o.op.operands:=by
  intro x;by_cases hx:x∈o.op.operands
  ·left;cases x with
   | tmp t=>exact hreadt t (.inl hx)
   | const v=>exact .d _ _ (mn _ _ v)
   | global g =>
    simp only[sD,St.ev];split
    ·rename_i ds hg;exact .d _ _ (hL.heap.glob g ds hg)
    ·exact .top _
   | func f=>exact .d _ _ (.fn f [] [] #[] #[] rfl rfl (fun i d h=>by simp at h) (fun i d h=>by simp at h))
  ·exact .inr hx
 have hfresh:∀ k,LO i<=k->k<LO (i+1)->¬ C.U k:=by
  intro k h1 h2 hU;rcases hL.names k hU with q|⟨j,hj,hlj,q1,q2⟩
  ·have:=mw hR hk.le i 0 (dW _) (Nat.le_of_lt hi);rw[hR.lo0]at this;omega
  ·have hji:j≠i:=fun e=>by rw[e]at hlj;rw[getD_both hun]at hlj;cases hlj
   rcases Nat.lt_or_gt_of_ne hji with c|c
   ·have:=mw hR hk.le i (j+1) c (Nat.le_of_lt hi);omega
   ·have:=mw hR hk.le j (i+1) c (Nat.le_of_lt hj);omega
 -- a store that has been carried out,to the same name,is an earlier one
 have huniq:∀ j q q' hj',j<m->listed.getD j false=true->E[j]?=some hj'->hj'.W=some q->he.W=some q'->q.1=q'.1->j<i:=by
  intro j q q' hj' hj hlj hEj hq hq' heq;have hji:j≠i:=fun e=>by rw[e]at hlj;rw[getD_both hun]at hlj;cases hlj
  rcases Nat.lt_or_gt_of_ne hji with c|c
  ·exact c
  ·obtain⟨oj,hoj⟩:=rF (ops:=ops) hk.le hj;obtain⟨he2,g1,g2,_,_⟩:=hR.ok j oj hj hoj;rw[hEj]at g1;cases g1;cases g2 with
   | go he need hg hhi hkeys hn hrd hw hext =>
    have hr2:=((hw q hq).2 i _ (by rw[Fb,if_pos c];exact hE)).1 q' hq' heq.symm;have:=gU inv.closed ops.size i j hr2 (fun o' ho' e he' hb=>inv.closed j o' ho' hlj e he' hb);rw[getD_both hun]at this;cases this
   | no hg=>cases hq
 -- behind the operation
 have done:∀ C' x,P0 G C' (wr he.W (he.N++H))->Tr C.U C H C' (wr he.W (he.N++H))->O9 C' he.v x->(∀ k,C'.U k->C.U k\/(LO i<=k/\k<LO (i+1)))->K (a.put o.dst x) C'.w:=by
  intro C' x h1 h2 h3 h4;have hkeys:=hok.range.2;have hdst:=hk.dst i o hi ho;have hN:∀ nm bl,H.get nm=some bl->AHeap.get (he.N++H) nm=some bl:=fun nm bl h=>by
   rw[FU fun p hp e=>?_]
   ·exact h
   ·have hU:=(hL.heap.blk nm bl h).1;have:=hkeys p hp;exact hfresh nm qad (by rw[hLO];omega) hU
  have hW:∀(H1:AHeap) nm bl,H1.get nm=some bl->(∀ q,he.W=some q->q.1≠nm)->(wr he.W H1).get nm=some bl:=fun H1 nm bl h hne=>by
   unfold wr;cases q:he.W with
   | none=>exact h
   | some q0 =>
    obtain⟨n0,b0⟩:=q0;simp only;rw[ai _ _ (fun e=>hne (n0,b0) q e.symm)];exact h
  have hput:∀ t,o.dst≠some t->(a.put o.dst x).tmps.getD t undef=a.tmps.getD t undef:=fun t ht=>by
   cases q:o.dst with
   | none=>rfl
   | some d =>
    have:d≠t:=fun e=>ht (by rw[q,e]);simp[Act.put,JT,wdl,this]
  have hput':∀ t,o.dst=some t->(a.put o.dst x).tmps.getD t undef=x:=fun t ht=>by
   rw[ht]at hdst⊢;have:t<a.tmps.size:=by rw[hL.size];simpa[eO] using hdst
   simp[Act.put,this]
  have hdi:jt ops i=o.dst:=by simp[jt,ho]
  have hsi:(listed.setIfInBounds i true).getD i false=true:=(sc hsz).2 (.inl rfl);have hold:∀ j,listed.getD j false=true->(listed.setIfInBounds i true).getD j false=true:=fun j h=>(sc hsz).2 (.inr h);refine hK C' (wr he.W (he.N++H)) _ ⟨h1,?_,?_,?_,?_,?_,?_,?_,?_,?_⟩ (h2.weaken fun k hk'=>(hX k hk').1)
  ·rw[<- hL.size];cases o.dst<;>simp[Act.put]
  ·intro t j he' hj hlj hEj hd;rw[sc hsz]at hlj;by_cases hji:j=i
   ·subst hji;rw[hE]at hEj;cases hEj;rw[hput' t (by rw[<- hdi];exact hd)];exact h3
   ·have hlj':=hlj.resolve_left hji;rw[hput t (fun e=>hji (hk.apart i o j t hi hj ho hd e))];exact(hL.own t j he' hj hlj' hEj hd).later h2 hL.heap
  ·intro t hno;have h5:=hno i hi hsi;rw[hput t (by rw[<- hdi];exact h5)];exact(hL.old t fun j hj hlj=>hno j hj (hold j hlj)).later h2 hL.heap
  ·intro nm bl h hno;exact hW _ nm bl (hN nm bl (hL.sup0 nm bl h fun j hj' q a1 a2 a3 a4=>hno j hj' q a1 (hold j a2) a3 a4)) fun q hq=>hno i he q hi hsi hE hq
  ·intro j he' nm bl hj hlj hEj hg hno;rw[sc hsz]at hlj;refine hW _ nm bl ?_ fun q hq=>hno i he q hi hsi hE hq;by_cases hji:j=i
   ·subst hji;rw[hE]at hEj;cases hEj;exact uJ hg
   ·exact hN nm bl (hL.supN j he' nm bl hj (hlj.resolve_left hji) hEj hg fun j hj' q a1 a2 a3 a4=>hno j hj' q a1 (hold j a2) a3 a4)
  ·intro j he' nm bl hj hlj hEj hq hlast;rw[sc hsz]at hlj;by_cases hji:j=i
   ·subst hji;rw[hE]at hEj;cases hEj;unfold wr;rw[hq];exact ao _ _ _
   ·have hlj':=hlj.resolve_left hji;refine hW _ nm bl (hN nm bl (hL.supW j he' nm bl hj hlj' hEj hq fun j' hj2 q a0 a1 a2 a3 a4=>hlast j' hj2 q a0 a1 (hold j' a2) a3 a4)) fun q hq' heq=>?_;have hlt:=huniq j (nm,bl) q he' hj hlj' hEj hq hq' heq.symm;exact hlast i he q hlt hi hsi hE hq' heq
  ·intro k hU;rcases h4 k hU with q|q
   ·rcases hL.names k q with q|⟨j,q1,q2,q3⟩
    ·exact .inl q
    ·exact .inr ⟨j,q1,hold j q2,q3⟩
   ·exact .inr ⟨i,hi,hsi,q⟩
  ·exact fun k h=>(h2.names k (hL.marks k h)).1
  ·rw[eo h2 hL.marks,<- hL.defers];cases o.dst<;>rfl
 have hguard:∀ j w t,o.guard=some (j,w)->mu ops { env:=ENV i,heap:=[],nx:=0 } j=some t->yielded ops a.tmps j=some t:=by
  intro j w t hg hv;unfold mu at hv;split at hv
  ·rename_i d hd;split at hv
   ·rename_i bb hb;cases hv;have:=hreadt d (.inr ⟨j,w,hg,hd⟩);have hlk:lk (ENV i) d = .d (.bool t):=hb;rw[hlk]at this;have hv:=fC this;unfold yielded;rw[hd];have hlt:d<a.tmps.size:=by
     rcases wa1 d a.tmps.size with q|q
     ·exact q
     ·simp[Array.getD,Nat.not_lt.2 q]at hv;simp[undef]at hv
    simp only[Option.bind_some];simp[Array.getD,hlt]at hv;simp[hlt,hv]
   ·cases hv
  ·cases hv
 have hguardU:∀ j w,o.guard=some (j,w)->mt ops { env:=ENV i,heap:=[],nx:=0 } j=true->yielded ops a.tmps j=none:=by
  intro j w hg hv;unfold mt at hv;split at hv
  ·rename_i d hd;split at hv
   ·rename_i hb;have hlk:lk (ENV i) d = .d (.tup []):=hb;exact pV hd (zB (hlk ▸ hreadt d (.inr ⟨j,w,hg,hd⟩)))
   ·cases hv
  ·cases hv
 unfold wpOpIn;simp only[ho];cases hok with
 | go he need hg hhi hkeys hn hrd hwr hext =>
  have hw:Region.wanted o (yielded ops a.tmps)=true:=by
   unfold kF at hg;unfold Region.wanted;split at hg
   ·rename_i q;rw[q]
   ·rename_i j w q;simp only[q];split at hg
    ·exact qjw
    ·split at hg
     ·cases hg
     ·cases hg
  rw[if_pos hw];refine hext H C a K Q hL.heap (fun p hp=>?_) hops (fun k h1 h2=>hfresh k h1 (by rw[hLO];exact h2)) (fun C' x q1 q2 q3 q4=>done C' x q1 q2 q3 (fun k hk'=>(q4 k hk').imp id fun h=>⟨h.1,by rw[hLO];exact h.2⟩))
  -- a store that has been carried out and is later in the text has waited for this one
  have hlate:∀ j hj' q,j<m->listed.getD j false=true->E[j]?=some hj'->hj'.W=some q->i<j->q.1 ∉ he.rd:=by
   intro j hj' q hj hlj hEj hq hij hmem;obtain⟨oj,hoj⟩:=rF (ops:=ops) hk.le hj;obtain⟨he2,g1,g2,_,_⟩:=hR.ok j oj hj hoj;rw[hEj]at g1;cases g1;cases g2 with
   | go he2 need2 hg2 hhi2 hkeys2 hn2 hrd2 hw2 hext2 =>
    have hr2:=((hw2 q hq).2 i he (by rw[Fb,if_pos hij];exact hE)).2 hmem;have:=gU inv.closed ops.size i j hr2 (fun o' ho' e he' hb=>inv.closed j o' ho' hlj e he' hb);rw[getD_both hun]at this;cases this
   | no hg2=>cases hq
  have back:∀ j e,(E.take i)[j]?=some e->j<i/\E[j]?=some e:=fun j e q2=>by
   have hji:j<i:=by
    have:=(nt.1 q2).1;simp at this;omega
   rw[Fb,if_pos hji]at q2;exact⟨hji,q2⟩
  rcases hn p hp with⟨q,hno⟩|⟨j,e,q1,q2,q3,qlast⟩
  ·have hno':∀ j he' q,j<m->listed.getD j false=true->E[j]?=some he'->he'.W=some q->q.1≠p.1:=by
    intro j he' q0 hj hlj hEj hq0;rcases Ra j i with c|c|c
    ·exact hno j he' q0 (by rw[Fb,if_pos c];exact hEj) hq0
    ·subst c;rw[getD_both hun]at hlj;cases hlj
    ·exact fun e=>hlate j he' q0 hj hlj hEj hq0 c (by rw[e];exact hrd p hp)
   rcases q with q|⟨j,e,q1,q2,q3⟩
   ·exact hL.sup0 _ _ q hno'
   ·obtain⟨hji,hEj⟩:=back j e q2;have hlj:=gU inv.closed ops.size j i q1 hall';exact hL.supN j e _ _ qad hlj hEj q3 hno'
  ·obtain⟨hji,hEj⟩:=back j e q2;have hlj:=gU inv.closed ops.size j i q1 hall';refine hL.supW j e _ _ qad hlj hEj q3 fun j' he' q0 hjj hj' hlj' hEj' hq0=>?_;rcases Ra j' i with c|c|c
   ·exact qlast j' he' q0 hjj (by rw[Fb,if_pos c];exact hEj') hq0
   ·subst c;rw[getD_both hun]at hlj';cases hlj'
   ·exact fun e=>hlate j' he' q0 hj' hlj' hEj' hq0 c (by rw[e];exact hrd p hp)
 | no hg =>
  have hw:¬(Region.wanted o (yielded ops a.tmps)=true):=by
   unfold kF at hg;unfold Region.wanted;split at hg
   ·simp at hg
   ·rename_i j w q;simp only[q];split at hg
    ·exact qjw
    ·split at hg
     ·rename_i hu;rw[hguardU j w q hu];simp
     ·cases hg
  rw[if_neg hw];exact⟨iM r,done C undef hL.heap (Tr.refl fun _ h=>h) (.d _ _ (.tup _ _ rfl fun i d h=>by simp at h)) (fun k h=>.inl h)⟩
end Go.AL
namespace Go.AL
open Go
variable{G:Nat->Option (List D)}{P:Program}{o:Oper}
variable{r:Option Nat}{n b:Nat}{ms:List Nat}{Q:Exit->St->List Nat->Prop}
variable{ops:Array Oper}{H0:AHeap}{m nx0:Nat}{env0:List (Nat×AV)}{E:List HE}{ENV:Nat->List (Nat×AV)}{LO:Nat->Nat}
theorem oE{F:Fence}{n:Nat}{md:Region.Mode}{Q':Exit->Act->World->Prop}:∀(g k:Nat) (listed:Array Bool) (a:Act) (w:World),k+g=ops.size ->
  Region.seqB md ops g k listed=true->wpOpsIn F n P ops Q' (List.range' k g) a w->wpAnyIn F n P md ops Q' g listed a w
 | 0,_,_,_,_,_,hB,h=>⟨by simpa[Region.seqB] using hB,by simpa[wpOpsIn] using h⟩
 | g+1,k,listed,a,w,hk,hB,h=>by
  simp only[Region.seqB,li,decide_eq_true_eq]at hB;refine⟨fun h1=>(by rw[hB.1]at h1;cases h1),fun i hi=>?_⟩;rw[hB.1]at hi;have hik:i=k:=B3;subst hik;rw[List.range'_succ,wpOpsIn_cons]at h;exact wpOpIn_mono (fun a' w' h'=>oE g (i+1) _ a' w' qad hB.2 h') h
def cnt(m:Nat)(p:Nat->Bool):Nat:=(List.range m).countP p
theorem Ab:∀(m i:Nat) (p p':Nat->Bool),i<m->p i=true->p' i=false->(∀ j,j≠i->p' j=p j)->cnt m p=cnt m p'+1
 | 0,_,_,_,h,_,_,_=>by omega
 | m+1,i,p,p',h,h1,h2,h3=>by
  simp only[cnt,Fa,QY,wdo];by_cases e:i=m
  ·subst e;have:List.countP p (List.range i)=List.countP p' (List.range i):=List.countP_congr fun x hx=>by
    rw[h3 x (by have:=cJ.1 hx;omega)]
   rw[this,h1,h2];simp
  ·have:=Ab m i p p' qad h1 h2 h3;simp only[cnt]at this;rw[this,h3 m qad];omega
theorem wh{m:Nat}{p:Nat->Bool}(h:cnt m p=0):∀ i,i<m->p i=false:=by
 intro i hi;have:=List.countP_eq_zero.1 h i (cJ.2 hi);simpa using this
theorem RE{m:Nat}{p:Nat->Bool}{c:Nat}(h:cnt m p=c+1):∃ i,i<m/\p i=true /\ ∀ j,j<i->p j=false:=by
 induction m generalizing c with
 | zero=>simp[cnt]at h
 | succ m ih =>
  by_cases e:cnt m p=0
  ·refine⟨m,Ck m,?_,fun j hj=>wh e j hj⟩;simp only[cnt,Fa,QY,wdo]at h e;rw[e]at h;cases q:p m with
   | true=>rfl
   | false=>rw[q]at h;simp at h
  ·obtain⟨c',hc'⟩:=Nat.exists_eq_succ_of_ne_zero e;obtain⟨i,h1,h2,h3⟩:=ih hc';exact⟨i,by omega,h2,h3⟩
theorem Dg(E:List HE)(he:HE)(H:AHeap):dS (E++[he]) H=wr he.W (he.N++dS E H):=by simp[dS]
theorem qk(hR:P8 r P G ops H0 m env0 nx0 E ENV LO)(hm:m<=ops.size){nm:Nat}{bl:Blk}:∀ k,k<=m->(dS (E.take k) H0).get nm=some bl ->
  (∃(j:Nat) (he:HE),j<k/\E[j]?=some he/\he.W=some (nm,bl) /\ ∀(j':Nat) (he':HE) (q:Nat×Blk),j<j'->j'<k->E[j']?=some he'->he'.W=some q->q.1≠nm)\/((∀(j:Nat) (he:HE) (q:Nat×Blk),j<k->E[j]?=some he->he.W=some q->q.1≠nm)/\(H0.get nm=some bl \/ ∃(j:Nat) (he:HE),j<k/\E[j]?=some he/\he.N.get nm=some bl))
 | 0,_,h=>.inr ⟨fun j he q hj=>by omega,.inl (by simpa[dS] using h)⟩
 | k+1,hk,h=>by
  obtain⟨o,ho⟩:=rF (ops:=ops) hm (i:=k) qad;obtain⟨he,hE,hok,_,hLO⟩:=hR.ok k o qad ho;have ht:E.take (k+1)=E.take k++[he]:=by
   rw[List.take_add_one,hE];rfl
  rw[ht,Dg]at h;cases hW:he.W with
  | some q0 =>
   obtain⟨n0,b0⟩:=q0;rw[hW]at h;simp only[wr]at h;by_cases e:nm=n0
   ·subst e;rw[ao]at h;cases h;exact .inl ⟨k,he,Ck k,hE,hW,fun j' he' q a1 a2=>by omega⟩
   ·rw[ai _ _ e]at h;have hn0:n0≠nm:=fun x=>e x.symm;rcases lC h with q|q
    ·refine .inr ⟨fun j he' q' hj hEj hq' hq=>?_,.inr ⟨k,he,Ck k,hE,q⟩⟩;by_cases hjk:j=k
     ·subst hjk;rw[hE]at hEj;cases hEj;rw[hW]at hq';cases hq';exact hn0 hq
     ·exact qid
    ·rcases qk hR hm k qad q with⟨j,he',a1,a2,a3,a4⟩|⟨a1,a2⟩
     ·refine .inl ⟨j,he',by omega,a2,a3,fun j' he2 q' b1 b2 b3 b4=>?_⟩;by_cases hjk:j'=k
      ·subst hjk;rw[hE]at b3;cases b3;rw[hW]at b4;cases b4;exact hn0
      ·exact a4 j' he2 q' b1 qad b3 b4
     ·refine .inr ⟨fun j he' q' hj hEj hq'=>?_,a2.imp id fun⟨j,he',b1,b2⟩=>⟨j,he',by omega,b2⟩⟩;by_cases hjk:j=k
      ·subst hjk;rw[hE]at hEj;cases hEj;rw[hW]at hq';cases hq';exact hn0
      ·exact a1 j he' q' qad hEj hq'
  | none =>
   rw[hW]at h;simp only[wr]at h;rcases lC h with q|q
   ·refine .inr ⟨fun j he' q' hj hEj hq' hq=>?_,.inr ⟨k,he,Ck k,hE,q⟩⟩;by_cases hjk:j=k
    ·subst hjk;rw[hE]at hEj;cases hEj;rw[hW]at hq';cases hq'
    ·exact qid
   ·rcases qk hR hm k qad q with⟨j,he',a1,a2,a3,a4⟩|⟨a1,a2⟩
    ·refine .inl ⟨j,he',by omega,a2,a3,fun j' he2 q' b1 b2 b3 b4=>?_⟩;by_cases hjk:j'=k
     ·subst hjk;rw[hE]at b3;cases b3;rw[hW]at b4;cases b4
     ·exact a4 j' he2 q' b1 qad b3 b4
    ·refine .inr ⟨fun j he' q' hj hEj hq'=>?_,a2.imp id fun⟨j,he',b1,b2⟩=>⟨j,he',by omega,b2⟩⟩;by_cases hjk:j=k
     ·subst hjk;rw[hE]at hEj;cases hEj;rw[hW]at hq';cases hq'
     ·exact a1 j he' q' qad hEj hq'
theorem P0.anti{C:Ctx}{H H':AHeap}(h:P0 G C H)(hs:∀ nm bl,H'.get nm=some bl->H.get nm=some bl):P0 G C H' where
 blk nm bl hb:=h.blk nm bl (hs nm bl hb)
 inj nm nm' b b' k h1 h2:=h.inj nm nm' b b' k (hs _ _ h1) (hs _ _ h2)
 ro:=h.ro
 glob:=h.glob
theorem Tr.anti{X:Nat->Prop}{C C':Ctx}{H H' H'':AHeap}(h:Tr X C H C' H')(hs:∀ nm bl,H''.get nm=some bl->H'.get nm=some bl):Tr X C H C' H'' :=
 { h with img:=fun nm b k h1 h2 h3=>h.img nm b k (hs nm b h1) h2 h3 }
theorem yn{listed:Array Bool}(inv:HeadInv .any ops m listed)(hm:m<=ops.size)(h:∀ i,i<m->listed.getD i false=true):listed=kg m ops.size:=by
 apply Array.ext
 ·simp[kg,inv.size]
 ·intro i h1 h2;simp only[kg,Array.getElem_map,Array.getElem_range];by_cases e:i<m
  ·have:=h i e;simpa[h1,e] using this
  ·have:=inv.tail i qad (by rw[<- inv.size];exact h1);simpa[h1,e] using this
theorem Oa(hR:P8 r P G ops H0 m env0 nx0 E ENV LO)(hk:HeadOk ops m n){C:Ctx}{H:AHeap}{a:Act}{listed:Array Bool}(hL:RelL G n ops H0 m env0 nx0 E LO ms listed C H a)(h:∀ i,i<m->listed.getD i false=true) :
  Rel G n { env:=ENV m,heap:=dS E H0,nx:=LO m } ms C a /\ ∀ nm bl,(dS E H0).get nm=some bl->H.get nm=some bl:=by
 have hsub:∀ nm bl,(dS E H0).get nm=some bl->H.get nm=some bl:=fun nm bl hg=>by
  have he:E=E.take m:=by rw[pT (by rw[hR.len];exact cF m)]
  rw[he]at hg;rcases qk hR hk.le m (cF m) hg with⟨j,he',a1,a2,a3,a4⟩|⟨a1,a2|⟨j,he',b1,b2,b3⟩⟩
  ·exact hL.supW j he' nm bl a1 (h j a1) a2 a3 fun j' he2 q c1 c2 _ c3 c4=>a4 j' he2 q c1 c2 c3 c4
  ·exact hL.sup0 nm bl a2 fun j he' q hj _ hEj hq=>a1 j he' q hj hEj hq
  ·exact hL.supN j he' nm bl b1 (h j b1) b2 b3 fun j he' q hj _ hEj hq=>a1 j he' q hj hEj hq
 refine⟨⟨hL.heap.anti hsub,⟨hL.size,fun t=>?_⟩,fun k hU=>?_,hL.marks,hL.defers⟩,hsub⟩
 ·rcases Gg hR hk.le t m (cF m) with⟨j,he,a1,a2,a3,a4⟩|⟨a1,a2⟩
  ·show O9 C (lk (ENV m) t) _;rw[a4];exact hL.own t j he a1 (h j a1) a3 a2
  ·show O9 C (lk (ENV m) t) _;rw[a2];exact hL.old t fun j hj _=>a1 j hj
 ·have h0:=mw hR hk.le m 0 (dW _) (cF _);rw[hR.lo0]at h0;rcases hL.names k hU with q|⟨j,hj,_,_,q⟩
  ·show k<LO m;omega
  ·have:=mw hR hk.le m (j+1) hj (cF _);show k<LO m;omega
theorem JW(hR:P8 r P G ops H0 m env0 nx0 E ENV LO)(hk:HeadOk ops m n){X:Nat->Prop}{Q:Exit->Act->World->Prop}{C0:Ctx}
  (hT:∀ C a,Rel G n { env:=ENV m,heap:=dS E H0,nx:=LO m } ms C a->(∀ k,X k->C.U k/\k<b)->Tr X C0 H0 C (dS E H0)->wpOpsIn (Fr r) 0 P ops Q (List.range' m (ops.size-m)) a C.w) :
  ∀(c:Nat) (C:Ctx) (H:AHeap) (a:Act) (listed:Array Bool),cnt m (fun i=>!listed.getD i false)=c->RelL G n ops H0 m env0 nx0 E LO ms listed C H a->(∀ k,X k->C.U k/\k<b)->Tr X C0 H0 C H->HeadInv .any ops m listed ->
   wpAnyIn (Fr r) 0 P .any ops Q (c+(ops.size-m)) listed a C.w
 | 0,C,H,a,listed,hc,hL,hX,ht,inv=>by
  have hall:∀ i,i<m->listed.getD i false=true:=fun i hi=>by
   have:=wh hc i hi;simpa using this
  obtain⟨h1,h2⟩:=Oa hR hk hL hall;rw[jj];have hlm:=yn inv hk.le hall;refine oE (ops.size-m) m listed a C.w (by have:=hk.le;omega) ?_ (hT C a h1 hX (ht.anti h2));rw[hlm];rcases hk.tail with⟨q1,q2⟩|⟨_,_,_,q⟩
  ·rw[<- q1,Wc];simp only[Region.seqB,List.isEmpty_iff];rw[q1];rw[q1]at q2;exact q2
  ·exact q
 | c+1,C,H,a,listed,hc,hL,hX,ht,inv=>by
  obtain⟨i,hi,hpi,hmin⟩:=RE hc;have hun:∀ j,j<ops.size->listed.getD j false=false->listed.getD j true=false:=fun j hj h=>getD_in (by rw[inv.size];exact hj) h;have hms:=hk.le;have huni:listed.getD i true=false:=hun i qad (by simpa using hpi);have hready:i∈Region.ready .any ops listed:=by
   obtain⟨o,ho⟩:=rF (ops:=ops) hk.le hi;refine mem_ready.2 ⟨huni,o,ho,fun e he hb=>?_⟩;have:=hmin e.on (hk.before i o hi ho e he hb);simpa using this
  rw[show c+1+(ops.size-m)=(c+(ops.size-m))+1 by omega];refine⟨fun h=>(by rw[h]at hready;cases hready),fun j hj=>?_⟩;have hjm:j<m:=by
   rcases wa1 j m with q|q
   ·exact q
   ·rcases hk.tail with⟨q1,_⟩|⟨q1,q2,q3,_⟩
    ·obtain⟨_,oj,hoj,_⟩:=mem_ready.1 hj;have:=(BU.1 hoj).1;omega
    ·exact absurd hj (tail_waits q2 q3 q1 inv _ i rfl hi huni j q)
  have hjun:=getD_both (mem_ready.1 hj).1;have hjs:j<listed.size:=by rw[inv.size];omega
  refine Kw hR hk hL hX inv hjm hj fun C' H' a' h1 h2=>?_;refine JW hR hk hT c C' H' a' _ ?_ h1 (xu hX h2) (ht.trans h2) (inv.set hj hjm);have:=Ab m j (fun i=>!listed.getD i false) (fun i=>!(listed.setIfInBounds j true).getD i false) hjm (by simpa using hjun) (by simp[hjs]) (fun k hkj=>by
   rw[getD_set_ne false (Ne.symm hkj)])
  omega
theorem CB{st:St}{id:Nat}(m:Nat)(hm:P.follows .mixedOrders=true)(hB:zf ops m n=true)
  (h:ua r P G ops st.heap (fun env effs nx=>∃ y:AHeap,(∀ nm bl,y.get nm=some bl->(dS effs st.heap).get nm=some bl)/\vF r P G n b ops ms (fun st'=>Q .normal st' ms) (ops.toList.drop m) { env:=env,heap:=y,nx:=nx }) (ops.toList.take m) 0 st.env [] st.nx) :
  kw r P G n b (.region id ops true) st ms Q:=by
 intro X C a hR hX;have hk:=NZ hB;obtain⟨E,ENV,LO,hRun,y,hy,hK⟩:=FX hk.le h;refine wpIn_region_any hm ?_;have hd:C.drew.w={ C.w with drawn:=C.w.drawn+1 }:=rfl;rw[<- hd];have hcnt:cnt m (fun i=>!(Array.replicate ops.size false).getD i false)=m:=by
  have:∀ m,cnt m (fun i=>!(Array.replicate ops.size false).getD i false)=m:=fun m=>by
   induction m with
   | zero=>rfl
   | succ m ih =>
    simp only[cnt]at ih;rw[cnt,Fa,QY,wdo,ih,getD_replicate_false];simp
  exact this m
 have hTr:=jH (C:=C) (H:=st.heap);have hL:RelL G n ops st.heap m st.env st.nx E LO ms (Array.replicate ops.size false) C.drew st.heap a :=
  ⟨iu hR.heap,hR.env.size,fun t j he _ hl=>qde,fun t _=>(hR.env.env t).later hTr hR.heap,fun _ _ h _=>h,fun j he nm bl _ hl=>qde,fun j he nm bl _ hl=>qde,fun k hU=>.inl (hR.names k hU),hR.marks,hR.defers⟩
 have hInv:HeadInv .any ops m (Array.replicate ops.size false) :=
  ⟨by simp,fun j oj _ hl=>qde,fun t _ ht=>getD_in nb (getD_replicate_false _ _)⟩
 have hT:∀ C' a',Rel G n { env:=ENV m,heap:=dS E st.heap,nx:=LO m } ms C' a'->(∀ k,X k->C'.U k/\k<b)->Tr X C st.heap C' (dS E st.heap)->wpOpsIn (Fr r) 0 P ops (uc G X n C st.heap Q) (List.range' m (ops.size-m)) a' C'.w:=by
  intro C' a' h1 h2 h3;have q:=vM (r:=r) (P:=P) (b:=b) _ m _ rfl hK X C' a' (uc G X n C st.heap Q) ⟨h1.heap.anti hy,⟨h1.env.size,h1.env.env⟩,h1.names,h1.marks,h1.defers⟩ h2 (fun st' C'' a'' g1 g2 g3=>⟨st',ms,C'',rfl,g1,g2,(h3.anti hy).trans g3⟩);have hl:(ops.toList.drop m).length=ops.size-m:=aR;rw[hl]at q;exact q
 have:=JW hRun hk hT m C.drew st.heap a (Array.replicate ops.size false) (hcnt) hL hX (hTr.weaken fun k hk'=>(hX k hk').1) hInv;rw[show m+(ops.size-m)=ops.size by have:=hk.le;omega]at this;exact this
end Go.AL
namespace Go.AL
open Go
variable{P:Program}
def iW(l:List Int):Array Value:=(l.map (Value.int .i64)).toArray
theorem gV{w:World}{t:TypeId}{k:IntKind}{l:List Int}{j:Nat}{n:Int}(hu:P.underlying t=some (.int k))(h:l[j]?=some n):(part t (iW l) j).run P w = .ok (.int .i64 n) w:=by
 have:(iW l)[j]?=some (.int .i64 n):=by simp[iW,h]
 simp[part,Go.isAgg,run_underlying hu,this]
theorem CM{l m:List Int}{j:Nat}{a b:Int}(h1:l[j]?=some a)(h2:m[j]?=some b):(l.drop j==m.drop j)=((a==b)&&(l.drop (j+1)==m.drop (j+1))):=by
 have e1:l.drop j=a::l.drop (j+1):=by
  obtain⟨h,rfl⟩:=nt.1 h1;exact wc9 h
 have e2:m.drop j=b::m.drop (j+1):=by
  obtain⟨h,rfl⟩:=nt.1 h2;exact wc9 h
 rw[e1,e2];rfl
theorem pH {w : World} (d : Nat) (as bs : List Int) : ∀ (fs : List Field) (j : Nat), (∀ i f, fs[i]? = some f → f.name ≠ "_" ∧ f.offset = j + i ∧ ∃ k, P.underlying f.type = some (.int k)) →
  j+fs.length=as.length->as.length=bs.length->(Op.eqFields (d+1) (iW as) (iW bs) fs).run P w = .ok (as.drop j==bs.drop j) w
 | [],j,_,h1,h2=>by
  have e1:as.drop j=[]:=List.drop_eq_nil_of_le (by simp at h1;omega);have e2:bs.drop j=[]:=List.drop_eq_nil_of_le (by simp at h1;omega);simp[Op.eqFields,e1,e2]
 | f::fs,j,hf,h1,h2=>by
  obtain⟨g1,g2,k,g3⟩:=hf 0 f rfl;simp only[Ln]at h1;have ha:as[j]?=some as[j]:=ew qad;have hb:bs[j]?=some bs[j]:=ew qad;rw[CM ha hb];have ih:=pH (w:=w) d as bs fs (j+1) (fun i f' h=>by
   obtain⟨q1,q2,q3⟩:=hf (i+1) f' uz;exact⟨q1,by omega,q3⟩) qad h2
  simp only[Lq]at g2;simp only[Op.eqFields,g1,ne_eq,not_false_eq_true,if_true,Sem.run_bind,g2,gV g3 ha,gV g3 hb,Result.andThen_ok,run_equalIn_int w d f.type .i64 k _ _ g3];by_cases e:as[j]=bs[j]
  ·simp[e,ih]
  ·simp[e]
theorem qY{w:World}(d:Nat){e:TypeId}{k:IntKind}(hu:P.underlying e=some (.int k))(as bs:List Int):∀(n j:Nat),j+n=as.length->as.length=bs.length ->
  (Op.eqItems (d+1) e 1 (iW as) (iW bs) (List.range' j n)).run P w = .ok (as.drop j==bs.drop j) w
 | 0,j,h1,h2=>by
  have e1:as.drop j=[]:=List.drop_eq_nil_of_le qad;have e2:bs.drop j=[]:=List.drop_eq_nil_of_le qad;simp[Op.eqItems,e1,e2]
 | n+1,j,h1,h2=>by
  have ha:as[j]?=some as[j]:=ew qad;have hb:bs[j]?=some bs[j]:=ew qad;rw[CM ha hb];have ih:=qY (w:=w) d hu as bs n (j+1) qad h2;rw[List.range'_succ];simp only[Op.eqItems,Sem.run_bind,UA,gV hu ha,gV hu hb,Result.andThen_ok,run_equalIn_int w d e .i64 k _ _ hu];by_cases h:as[j]=bs[j]
  ·simp[h,ih]
  ·exact GJ
def nC(P:Program)(t S:Nat):Prop:=P.eqGuardType P.depth t=false /\ ∀(w:World) (as bs:List Int),as.length=S->bs.length=S->(Op.equalIn 10000 t (.agg (iW as)) (.agg (iW bs))).run P w = .ok (as==bs) w
def jZ(P:Program):Nat->List Field->Bool
 | _,[]=>true
 | j, f :: fs => !(f.name == "_") && Nat.beq f.offset j && (match P.underlying f.type with
  | some (.int _)=>true
  | _=>false)&&jZ P (j+1) fs
def flatB(P:Program)(t S:Nat):Bool:=!(P.eqGuardType P.depth t)&&match P.underlying t with
 | some (.struct l)=>!(P.stoodInHeld t)&&Nat.beq l.toList.length S&&jZ P 0 l.toList
 | some (.array n e)=>Nat.beq n S&&Nat.beq (P.cellsOf e) 1&&(match P.underlying e,P.info? e with
  | some (.int _),some _=>true
  | _,_=>false)
 | _=>false
theorem kR : ∀ {fs : List Field} {j : Nat}, jZ P j fs = true → ∀ i f, fs[i]? = some f → f.name ≠ "_" ∧ f.offset = j + i ∧ ∃ k, P.underlying f.type = some (.int k)
 | [],_,_,i,f,h=>by simp at h
 | g::fs,j,hb,i,f,h=>by
  simp only[jZ,li]at hb;obtain⟨⟨⟨h1,h2⟩,h3⟩,h4⟩:=hb;cases i with
  | zero =>
   simp at h;subst h;refine⟨by simpa using h1,by have:=waf h2;omega,?_⟩;split at h3
   ·exact⟨_,by assumption⟩
   ·cases h3
  | succ i =>
   obtain⟨q1,q2,q3⟩:=kR h4 i f uz;exact⟨q1,by omega,q3⟩
theorem wz{t S:Nat}(h:flatB P t S=true):nC P t S:=by
 simp only[flatB,li,web]at h;obtain⟨h0,h⟩:=h;refine⟨h0,fun w as bs ha hb=>?_⟩;split at h
 ·rename_i l hu;simp only[li,web]at h;obtain⟨⟨h1,h2⟩,h3⟩:=h;have h2:=waf h2;have hf:P.fieldsOf t=l:=by simp[Program.fieldsOf,hu]
  rw[run_equalIn_struct w 9999 t _ _ (by rw[hf];exact hu) h1,hf];have:=pH (w:=w) 9998 as bs l.toList 0 (kR h3) qad qad;simpa using this
 ·rename_i n e hu;simp only[li]at h;obtain⟨⟨h1,h2⟩,h3⟩:=h;have h1:=waf h1;have h2:=waf h2;split at h3
  ·rename_i k ti hk hi;rw[run_equalIn_array w 9999 _ _ hu hi,h2,List.range_eq_range'];have:=qY (w:=w) 9998 hk as bs n 0 qad qad;simpa using this
  ·cases h3
 ·cases h
end Go.AL
namespace Go.AL
open Go
variable{P:Program}
def iZ(ag:Bool)(as:List Int):Value:=if ag then .agg (iW as) else .int .i64 (as.headD 0)
def lz(as:List Int):List (List Int)->List MapEntry->Nat->Option (Nat×Value)
 | ks::kss,e::es,i=>if as==ks then some (i,e.val) else lz as kss es (i+1)
 | _,_,_=>none
structure Q1 (P:Program) (kt:TypeId) (ag:Bool) (S:Nat):Prop where
 check:∀(w:World) (em:Bool) (as:List Int),as.length=S->(Instr.checkKey em 10000 kt (iZ ag as)).run P w = .ok () w
 find:∀(w:World) (as:List Int) (kss:List (List Int)) (ents:List MapEntry),as.length=S->kss.length=ents.length->(∀(i:Nat) (ks:List Int) (e:MapEntry),kss[i]?=some ks->ents[i]?=some e->ks.length=S/\e.key=iZ ag ks) ->
  (Instr.findKey kt (iZ ag as) ents).run P w = .ok (lz as kss ents 0) w
theorem mX{kt S:Nat}(hf:nC P kt S)(w:World)(as:List Int)(ha:as.length=S):∀(kss:List (List Int)) (ents:List MapEntry) (i:Nat),kss.length=ents.length->(∀(i:Nat) (ks:List Int) (e:MapEntry),kss[i]?=some ks->ents[i]?=some e->ks.length=S/\e.key=iZ true ks) ->
  (Instr.findAsking kt (iZ true as) ents i).run P w = .ok (lz as kss ents i) w
 | [],[],i,_,_=>by simp[Instr.findAsking,lz]
 | [],_::_,i,h,_=>by simp at h
 | _::_,[],i,h,_=>by simp at h
 | ks::kss,e::ents,i,h,hk=>by
  obtain⟨h1,h2⟩:=hk 0 ks e rfl rfl;have he:(Op.equal kt (iZ true as) e.key).run P w = .ok (as==ks) w:=by rw[h2];exact hf.2 w as ks ha h1
  have ih:=mX hf w as ha kss ents (i+1) uz (fun j k' e' a1 a2=>hk (j+1) k' e' (by simpa using a1) qfq);simp only[Instr.findAsking,Sem.run_bind,he,Result.andThen_ok,lz];by_cases e0:as=ks
  ·simp[e0]
  ·simp[e0,ih]
theorem un{k:IntKind}(n:Int):∀(kss:List (List Int)) (ents:List MapEntry) (i:Nat),kss.length=ents.length->(∀(i:Nat) (ks:List Int) (e:MapEntry),kss[i]?=some ks->ents[i]?=some e->ks.length=1/\e.key=iZ false ks) ->
  Instr.findNow (.int k) (iZ false [n]) ents i=some (lz [n] kss ents i)
 | [],[],i,_,_=>rfl
 | [],_::_,i,h,_=>by simp at h
 | _::_,[],i,h,_=>by simp at h
 | ks::kss,e::ents,i,h,hk=>by
  obtain⟨h1,h2⟩:=hk 0 ks e rfl rfl;have ih:=un (k:=k) n kss ents (i+1) uz (fun j k' e' a1 a2=>hk (j+1) k' e' (by simpa using a1) qfq)
  match ks,h1 with
  | [m],_ =>
   simp only[iZ,QZ,if_false,List.headD_cons]at h2 ih⊢;simp only[Instr.findNow,h2,Instr.sameNow,if_true,lz];by_cases e0:n=m
   ·subst e0;simp
   ·have hb:(n==m)=false:=by simp[e0]
    simp only[hb];rw[ih];simp[e0]
theorem Kf{w:World}{em:Bool}(d:Nat){kt:TypeId}{k:IntKind}{v:Int}(hu:P.underlying kt=some (.int k)):(Instr.checkKey em (d+1) kt (.int .i64 v)).run P w = .ok () w:=by
 simp[Instr.checkKey,run_underlying hu]
theorem KB{kt:TypeId}{k:IntKind}(hu:P.underlying kt=some (.int k)):Q1 P kt false 1 where
 check w em as ha:=by
  exact Kf 9999 hu
 find w as kss ents ha hl hk:=by
  match as,ha with
  | [n],_ =>
   simp[Instr.findKey,run_underlying hu,un n kss ents 0 hl hk]
theorem uj {w : World} {em : Bool} {d : Nat} (as : List Int) : ∀ (fs : List Field) (j : Nat), (∀ i f, fs[i]? = some f → f.name ≠ "_" ∧ f.offset = j + i ∧ ∃ k, P.underlying f.type = some (.int k)) → j + fs.length ≤ as.length →
  ((forIn fs PUnit.unit fun(f:Field) (_:PUnit)=>(do
   if f.name ≠ "_" then
    Instr.checkKey em (d+1) f.type (<- part f.type (iW as) f.offset)
   pure (ForInStep.yield PUnit.unit):Sem (ForInStep PUnit))):Sem PUnit).run P w = .ok PUnit.unit w
 | [],j,_,_=>by simp
 | f::fs,j,hf,hl=>by
  obtain⟨g1,g2,k,g3⟩:=hf 0 f rfl;simp only[Ln]at hl;have ha:as[j]?=some as[j]:=ew qad;have ih:=uj (w:=w) (em:=em) (d:=d) as fs (j+1) (fun i f' h=>by
   obtain⟨q1,q2,q3⟩:=hf (i+1) f' uz;exact⟨q1,by omega,q3⟩) qad
  simp only[Lq]at g2;have hp:=gV (w:=w) g3 ha;have hc:(Instr.checkKey em (d+1) f.type (.int .i64 as[j])).run P w = .ok () w:=by simp[Instr.checkKey,run_underlying g3]
  simp only[List.forIn_cons,Sem.run_bind,g1,ne_eq,not_false_eq_true,if_true,g2,hp,Result.andThen_ok,hc,Sem.run_pure];exact ih
theorem zX{w:World}{em:Bool}(d:Nat){kt:TypeId}{l:Array Field}{as:List Int}(hu:P.underlying kt=some (.struct l))(h3:jZ P 0 l.toList=true)(hl:l.toList.length<=as.length) :
  (Instr.checkKey em (d+1+1) kt (.agg (iW as))).run P w = .ok () w:=by
 have hc:=uj (P:=P) (w:=w) (em:=em) (d:=d) as l.toList 0 (kR h3) qad;unfold Instr.checkKey;simp only[Sem.run_bind,run_underlying hu,Result.andThen_ok];rw[<- Array.forIn_toList];simp only[hc,Result.andThen_ok];rfl
theorem Gc{kt S:TypeId}(h:flatB P kt S=true)(hs:∃ l,P.underlying kt=some (.struct l)):Q1 P kt true S where
 check w em as ha:=by
  obtain⟨l,hu⟩:=hs;simp only[flatB,li,hu]at h;obtain⟨_,⟨_,h2⟩,h3⟩:=h;have h2:=waf h2;exact zX 9998 hu h3 qad
 find w as kss ents ha hl hk:=by
  obtain⟨l,hu⟩:=hs;have hf:=mX (wz h) w as ha kss ents 0 hl hk;simp only[Instr.findKey,Sem.run_bind,run_underlying hu,Result.andThen_ok];cases ents with
  | nil =>
   simp[Instr.findNow];cases kss with
   | nil=>rfl
   | cons _ _=>simp at hl
  | cons e es =>
   obtain⟨ks,kss',rfl⟩:∃ ks kss',kss=ks::kss':=by
    cases kss with
    | nil=>simp at hl
    | cons a b=>exact⟨a,b,rfl⟩
   have:Instr.findNow (.struct l) (iZ true as) (e::es) 0=none:=by simp[Instr.findNow,Instr.sameNow]
   rw[this];exact hf
end Go.AL
namespace Go.AL
open Go
variable{G:Nat->Option (List D)}{P:Program}{st:St}{o:Oper}
inductive TK where
 | oth
 | int (k:IntKind)
 | bool
 | st (fs:List (Nat×Nat×Bool))
 | arr (n e:Nat)
 | sl (e:Nat)
 | map (kt et:Nat) (ag:Bool) (S:Nat)
structure Ty where
 eq:Bool
 S:Nat
 B:Nat
 z:D
 k:TK
abbrev Tab:=List (Nat×Ty)
def Tab.get:Tab->Nat->Option Ty
 | [],_=>none
 | (k,b)::r,n=>match Nat.beq k n with
  | true=>some b
  | false=>Tab.get r n
theorem Tab.get_mem:∀{T:Tab} {n:Nat} {ty:Ty},T.get n=some ty->(n,ty)∈T
 | [],n,ty,h=>by cases h
 | (k,b)::r,n,ty,h=>by
  unfold Tab.get at h;split at h
  ·rename_i e;cases h;rw[waf e];simp
  ·exact eJ _ (Tab.get_mem h)
def TK.ag:TK->Bool
 | .st _=>true
 | .arr _ _=>true
 | _=>false
def TyOk(P:Program)(t:Nat)(ty:Ty):Prop :=
 EOk P t ty.S ty.B ty.z/\match ty.k with
 | .oth=>∃ desc,P.underlying t=some desc/\qD desc=false
 | .int k=>P.underlying t=some (.int k)
 | .bool=>P.underlying t=some .bool
 | .sl e=>P.underlying t=some (.slice e)
 | .arr n e=>P.underlying t=some (.array n e)
 | .map kt et ag S=>P.underlying t=some (.map kt et)/\Q1 P kt ag S
 | .st fs=>∃ l:Array Field,P.underlying t=some (.struct l)/\(∀(i off S:Nat) (ag:Bool),fs[i]?=some (off,S,ag)->∃ f B z,l[i]?=some f/\f.offset=off/\0<S/\TOk P f.type ag S B z) ∧
   ∀ w,(l.mapM (fun f=>do pure (f.offset,<- sizeOf f.type):Field->Sem (Nat×Nat))).run P w = .ok (fs.map fun x=>(x.1,x.2.1)).toArray w
def TabOk(P:Program)(T:Tab):Prop:=AllP (fun p:Nat×Ty=>TyOk P p.1 p.2/\(p.2.eq=true->nC P p.1 p.2.S)) T
theorem TabOk.get{T:Tab}{t:Nat}{ty:Ty}(h:TabOk P T)(hg:T.get t=some ty):TyOk P t ty:=(AllP.mem h _ (Tab.get_mem hg)).1
theorem TabOk.flat{T:Tab}{t:Nat}{ty:Ty}(h:TabOk P T)(hg:T.get t=some ty)(he:ty.eq=true):nC P t ty.S:=(AllP.mem h _ (Tab.get_mem hg)).2 he
theorem TyOk.tok{t:Nat}{ty:Ty}(h:TyOk P t ty):TOk P t ty.k.ag ty.S ty.B ty.z:=by
 obtain⟨h1,h2⟩:=h;refine⟨h1,?_⟩;cases hk:ty.k with
 | oth=>rw[hk]at h2;exact h2
 | int k=>rw[hk]at h2;exact⟨_,h2,rfl⟩
 | bool=>rw[hk]at h2;exact⟨_,h2,rfl⟩
 | st fs=>rw[hk]at h2;obtain⟨l,h2,_⟩:=h2;exact⟨_,h2,rfl⟩
 | arr n e=>rw[hk]at h2;exact⟨_,h2,rfl⟩
 | sl e=>rw[hk]at h2;exact⟨_,h2,rfl⟩
 | map kt et ag S=>rw[hk]at h2;exact⟨_,h2.1,rfl⟩
theorem TyOk.fld{t i off S:Nat}{ag:Bool}{ty:Ty}{fs:List (Nat×Nat×Bool)}(h:TyOk P t ty)(hk:ty.k = .st fs)(hf:fs[i]?=some (off,S,ag)):Re P t i off ag S:=by
 obtain⟨h1,h2⟩:=h;rw[hk]at h2;obtain⟨l,h2,h3,_⟩:=h2;obtain⟨f,B,z,a1,a2,a3,a4⟩:=h3 i off S ag hf;exact⟨l,f,B,z,h2,a1,a2,a3,a4⟩
def AV.force{W:Type}(v:AV)(k:AV->W):W:=match v with
 | .d x=>k (.d x)
 | .top=>k .top
 | .ptr n1 n2 n3 n4=>k (.ptr n1 n2 n3 n4)
 | .sl n1 n2 n3 n4 n5 n6=>k (.sl n1 n2 n3 n4 n5 n6)
 | .map n1=>k (.map n1)
 | .yld n1=>k (.yld n1)
 | .fn n1 n2 n3=>k (.fn n1 n2 n3)
 | .agg l=>k (.agg l)
 | .tup l=>k (.tup l)
theorem AV.force_eq{W:Type}(v:AV)(k:AV->W):v.force k=k v:=by cases v<;>rfl
def dZ{W:Type}:List AV->(List AV->W)->W
 | [],k=>k []
 | v::l,k=>v.force fun v=>dZ l fun l=>k (v::l)
theorem bI{W:Type}:∀(l:List AV) (k:List AV->W),dZ l k=k l
 | [],_=>rfl
 | v::l,k=>by rw[dZ,AV.force_eq,bI l]
def dP{α W:Type}:List α->(List α->W)->W
 | [],k=>k []
 | v::l,k=>dP l fun l=>k (v::l)
theorem cR{α W:Type}:∀(l:List α) (k:List α->W),dP l k=k l
 | [],_=>rfl
 | v::l,k=>by rw[dP,cR l]
def re{W:Type}:List (List AV)->(List (List AV)->W)->W
 | [],k=>k []
 | v::l,k=>dZ v fun v=>re l fun l=>k (v::l)
theorem qj{W:Type}:∀(l:List (List AV)) (k:List (List AV)->W),re l k=k l
 | [],_=>rfl
 | v::l,k=>by rw[re,bI,qj l]
structure Om where
 W:Type
 bad:W
 chk:(p:Prop)->[Decidable p]->W->W
 name:Bool->(Bool->W)->W
 look:{α:Type}->Option α->(α->W)->W
 shl:List (List AV)->(List (List AV)->W)->W
 shh:AHeap->(AHeap->W)->W
 unk:(p:Prop)->[Decidable p]->(Bool->W)->W
 hp:AHeap->(AHeap->W)->W
structure P4 (M:Om) (hd:M.W->Prop):Prop where
 h_bad:¬ hd M.bad
 h_chk:∀{p:Prop} [Decidable p] {k:M.W},hd (M.chk p k)->p/\hd k
 h_name:∀{b:Bool} {k:Bool->M.W},hd (M.name b k)->hd (k b)
 h_look:∀{α:Type} {x:Option α} {k:α->M.W},hd (M.look x k)->∃ a,x=some a/\hd (k a)
 h_shl:∀{l:List (List AV)} {k:List (List AV)->M.W},hd (M.shl l k)->hd (k l)
 h_shh:∀{l:AHeap} {k:AHeap->M.W},hd (M.shh l k)->hd (k l)
 h_unk:∀{p:Prop} [Decidable p] {k:Bool->M.W},hd (M.unk p k)->∀ t,(p->t=false)->hd (k t)
 h_hp:∀{l:AHeap} {k:AHeap->M.W},hd (M.hp l k)->∃ y:AHeap,(∀ nm bl,y.get nm=some bl->l.get nm=some bl)/\hd (k y)
inductive O8 (l:List (List AV)) (k:List (List AV)->Prop):Prop
 | mk (y:List (List AV)) (h:l=y) (hk:k y)
inductive P5 (l:AHeap) (k:AHeap->Prop):Prop
 | mk (y:AHeap) (h:l=y) (hk:k y)
inductive HpP (l:AHeap) (k:AHeap->Prop):Prop
 | mk (y:AHeap) (h:∀ nm bl,y.get nm=some bl->l.get nm=some bl) (hk:k y)
inductive O6 {α:Type} (x:Option α) (k:α->Prop):Prop
 | mk (y:α) (h:x=some y) (hk:k y)
def np:Om where
 W:=Prop
 bad:=False
 chk p _ k:=p/\k
 name b k:=∀ t,b=t->k t
 look x k:=O6 x k
 shl l k:=O8 l k
 shh l k:=P5 l k
 unk p _ k:=∀ t,(p->t=false)->k t
 hp l k:=HpP l k
theorem Gr:P4 np fun p=>p where
 h_bad h:=h
 h_chk h:=h
 h_name h:=h _ rfl
 h_look h:=qhn
 h_shl h:=by obtain⟨_,h1,h2⟩:=h;subst h1;exact h2
 h_shh h:=by obtain⟨_,h1,h2⟩:=h;subst h1;exact h2
 h_unk h:=h
 h_hp h:=qhn
def wF{W:Type}:AHeap->(AHeap->W)->W
 | [],k=>k []
 | (n,b)::l,k=>match b with
  | some (.arr sz els)=>re els fun els=>wF l fun l=>k ((n,some (.arr sz els))::l)
  | b=>wF l fun l=>k ((n,b)::l)
theorem td{W:Type}:∀(l:AHeap) (k:AHeap->W),wF l k=k l
 | [],_=>rfl
 | (n,b)::l,k=>by
  unfold wF;split
  ·rw[qj,td l]
  ·rw[td l]
def DI(R:Type):Om where
 W:=Option R
 bad:=none
 chk p _ k:=match decide p with
  | true=>k
  | false=>none
 name b k:=k b
 look x k:=match x with
  | some a=>k a
  | none=>none
 shl l k:=re l k
 shh l k:=wF l k
 unk p _ k:=match decide p with
  | true=>k false
  | false=>none
 hp l k:=dP l k
theorem OH{R:Type}(r:R):P4 (DI R) fun w=>w=some r where
 h_bad h:=by cases h
 h_chk {p _ k} h:=by
  simp only[DI]at h;cases e:decide p with
  | true=>rw[e]at h;exact⟨of_decide_eq_true e,h⟩
  | false=>rw[e]at h;cases h
 h_name h:=h
 h_look {α x k} h:=by
  cases x with
  | some a=>exact⟨a,rfl,h⟩
  | none=>cases h
 h_shl {l k} h:=(qj l k).symm.trans h
 h_shh {l k} h:=(td l k).symm.trans h
 h_unk {p _ k} h t ht:=by
  simp only[DI]at h;cases e:decide p with
  | true=>rw[e]at h;rw[ht (of_decide_eq_true e)];exact h
  | false=>rw[e]at h;cases h
 h_hp {l k} h:=⟨l,fun _ _ h=>h,(cR l k).symm.trans h⟩
theorem HpP.force{l:AHeap}{k:AHeap->Prop}(h:dP l k):HpP l k:=⟨l,fun _ _ h=>h,by rw[<- cR l k];exact h⟩
theorem HpP.other{l:AHeap}{k:AHeap->Prop}(h:∀ y:AHeap,(∀ nm,y.get nm=l.get nm)->k y):HpP l k:=⟨l,fun _ _ h=>h,h l fun _=>rfl⟩
def AI:IntKind->IntKind->Bool
 | .i64,.i64=>true
 | .u8,.u8=>true
 | .u32,.u32=>true
 | .u64,.u64=>true
 | .i32,.i32=>true
 | _,_=>false
theorem tn:∀{a b:IntKind},AI a b=true->a=b:=by
 intro a b h;cases a<;>cases b<;>first|rfl|cases h
def jn:List D->Option (List Int)
 | []=>some []
 | .int .i64 n::l=>match jn l with
  | some r=>some (n::r)
  | none=>none
 | _::_=>none
theorem uq:∀{l:List D} {r:List Int},jn l=some r->l=r.map (.int .i64)
 | [],r,h=>by cases h;rfl
 | d::l,r,h=>by
  unfold jn at h;split at h
  ·rename_i h0;cases h0
  ·rename_i n l' h0;cases h0;split at h
   ·rename_i r' hr;cases h;rw[uq hr];rfl
   ·cases h
  ·cases h
theorem rt{C:Ctx}{l:List D}{as:List Int}{x:Value}(h:jn l=some as)(hx:O9 C (.d (.agg l)) x):x = .agg (iW as):=by
 obtain⟨cs,rfl,h1,h2⟩:=zE hx;have hl:=uq h;subst hl;congr 1;apply Array.ext
 ·simp[iW,h1]
 ·intro i q1 q2;have hi:i<as.length:=by simpa[iW] using q2
  have:=h2 i (.int .i64 as[i]) (by simp[hi]);simp only[JT,wdy q1,Hw]at this;generalize hc:cs[i]=y at this;cases this;simp[iW]
theorem Eg{G:Nat->Option (List D)}{P:Program}{st:St}{o:Oper}{t t':TypeId}{x y:Operand}{l m:List D}{as bs:List Int}{S:Nat}(ho:o.op = .binOp .eql t x y t')(hf:nC P t S)(hx:st.ev G x = .d (.agg l))(hy:st.ev G y = .d (.agg m))
  (ha:jn l=some as) (hb:jn m=some bs) (h1:as.length=S) (h2:bs.length=S):PureOp G P st o (.d (.bool (as==bs))):=by
 intro C a hH hop;have e1:=rt ha (hx ▸ hop x fI);have e2:=rt hb (hy ▸ hop y fI);refine⟨_,?_,fh _⟩;simp only[execOp,ho,e1,e2];simp[run_eqGuard_agg C.w .eql t x y _ _ hf.1,run_eql_struct C.w t,hf.2 C.w as bs h1 h2]
theorem Bl{G:Nat->Option (List D)}{P:Program}{st:St}{o:Oper}{t t':TypeId}{x y:Operand}{l m:List D}{as bs:List Int}{S:Nat}(ho:o.op = .binOp .neq t x y t')(hf:nC P t S)(hx:st.ev G x = .d (.agg l))(hy:st.ev G y = .d (.agg m))
  (ha:jn l=some as) (hb:jn m=some bs) (h1:as.length=S) (h2:bs.length=S):PureOp G P st o (.d (.bool (!(as==bs)))):=by
 intro C a hH hop;have e1:=rt ha (hx ▸ hop x fI);have e2:=rt hb (hy ▸ hop y fI);refine⟨_,?_,fh _⟩;simp only[execOp,ho,e1,e2];simp[run_eqGuard_agg C.w .neq t x y _ _ hf.1,run_neq_struct C.w t,hf.2 C.w as bs h1 h2]
def D6(M:Om)(T:Tab)(op:BinOp)(t:Nat)(x y:AV)(k:AV->M.W):M.W:=match x,y with
 | .d (.int kx p),.d (.int ky q)=>match op with
  | .shl=>M.chk (0<=q) (k (.d (.int kx (cU kx p q))))
  | .shr=>M.chk (0<=q) (k (.d (.int kx (iX kx p q))))
  | .quo=>match AI kx ky with
   | true=>M.chk (q≠0) (k (.d (.int kx (AF kx p q))))
   | false=>M.bad
  | .rem=>match AI kx ky with
   | true=>M.chk (q≠0) (k (.d (.int kx (p.tmod q))))
   | false=>M.bad
  | op=>match AI kx ky with
   | true=>match YE op kx p q with
    | some (.bool b)=>M.name b fun t=>k (.d (.bool t))
    | some (.int k' n)=>k (.d (.int k' n))
    | _=>M.bad
   | false=>M.bad
 | .d (.bool p),.d (.bool q)=>match T.get t with
  | some ⟨_,_,_,_,.bool⟩=>match op with
   | .eql=>k (.d (.bool (p==q)))
   | .neq=>k (.d (.bool (!(p==q))))
   | _=>M.bad
  | _=>M.bad
 | .d (.agg l),.d (.agg m)=>match T.get t with
  | some ⟨true,S,_,_,_⟩=>match jn l,jn m with
   | some as,some bs=>match Nat.beq as.length S,Nat.beq bs.length S with
    | true,true=>match op with
     | .eql=>M.name (as==bs) fun t=>k (.d (.bool t))
     | .neq=>M.name (!(as==bs)) fun t=>k (.d (.bool t))
     | _=>M.bad
    | _,_=>M.bad
   | _,_=>M.bad
  | _=>M.bad
 | _,_=>M.bad
def Ext(H H2:AHeap):Prop:=∀ nm bl,H.get nm=some bl->H2.get nm=some bl
theorem Ext.refl{H:AHeap}:Ext H H:=fun _ _ h=>h
variable{M:Om}{hd:M.W->Prop}{T:Tab}{k:AV->M.W}
theorem Hl(ok:P4 M hd){op:BinOp}{t t':TypeId}{x y:Operand}(hT:TabOk P T)(ho:o.op = .binOp op t x y t')(h:hd (D6 M T op t (st.ev G x) (st.ev G y) k)) :
  ∃ v,hd (k v) /\ ∀ H2,Ext st.heap H2->PureOp G P { st with heap:=H2 } o v:=by
 unfold D6 at h;split at h
 ·rename_i kx p ky q hx hy;split at h
  ·obtain⟨h1,h2⟩:=ok.h_chk h;exact⟨_,h2,fun H2 hE=>Pp (st:={ st with heap:=H2 }) ho hx hy h1⟩
  ·obtain⟨h1,h2⟩:=ok.h_chk h;exact⟨_,h2,fun H2 hE=>Pq (st:={ st with heap:=H2 }) ho hx hy h1⟩
  ·split at h
   ·rename_i e;have:=tn e;subst this;obtain⟨h1,h2⟩:=ok.h_chk h;exact⟨_,h2,fun H2 hE=>Pn (st:={ st with heap:=H2 }) ho hx hy h1⟩
   ·exact bX
  ·split at h
   ·rename_i e;have:=tn e;subst this;obtain⟨h1,h2⟩:=ok.h_chk h;exact⟨_,h2,fun H2 hE=>Po (st:={ st with heap:=H2 }) ho hx hy h1⟩
   ·exact bX
  ·split at h
   ·rename_i e;have:=tn e;subst this;split at h
    ·rename_i b hb;exact⟨_,ok.h_name h,fun H2 hE=>zq (st:={ st with heap:=H2 }) ho hx hy hb⟩
    ·rename_i k' n hb;exact⟨_,h,fun H2 hE=>zq (st:={ st with heap:=H2 }) ho hx hy hb⟩
    ·exact bX
   ·exact bX
 ·rename_i p q hx hy;split at h
  ·rename_i S B z hg;have hu:P.underlying t=some .bool:=(hT.get hg).2;split at h
   ·exact⟨_,h,fun H2 hE=>Bj (st:={ st with heap:=H2 }) ho hu hx hy⟩
   ·exact⟨_,h,fun H2 hE=>yr (st:={ st with heap:=H2 }) ho hu hx hy⟩
   ·exact bX
  ·exact bX
 ·rename_i l m hx hy;split at h
  ·rename_i S B z kk hg;have hf:=hT.flat hg rfl;split at h
   ·rename_i as bs ha hb;split at h
    ·rename_i e1 e2;have e1:=waf e1;have e2:=waf e2;split at h
     ·exact⟨_,ok.h_name h,fun H2 hE=>Eg (st:={ st with heap:=H2 }) ho hf hx hy ha hb e1 e2⟩
     ·exact⟨_,ok.h_name h,fun H2 hE=>Bl (st:={ st with heap:=H2 }) ho hf hx hy ha hb e1 e2⟩
     ·exact bX
    ·exact bX
   ·exact bX
  ·exact bX
 ·exact bX
def J8(ag:Bool)(S:Nat):Bool:=match ag with
 | true=>true
 | false=>Nat.beq S 1
theorem zK{ag:Bool}{S:Nat}(h:J8 ag S=true):ag=false->S=1:=by
 intro e;subst e;exact waf h
def qf{W:Type}(ag:Bool)(l:List AV)(k:AV->W):W:=match ag with
 | true=>(zl l).force k
 | false=>match l with
  | v::_=>v.force k
  | []=>k .top
theorem oW{W:Type}(ag:Bool)(l:List AV)(k:AV->W):qf ag l k=k (iG ag l):=by
 cases ag with
 | true=>simp[qf,AV.force_eq,iG]
 | false=>cases l<;>simp[qf,AV.force_eq,iG]
def Qv(M:Om)(T:Tab)(H:AHeap)(t:Nat)(x:AV)(k:AV->M.W):M.W:=match T.get t with
 | none=>M.bad
 | some ty=>match J8 ty.k.ag ty.S with
  | false=>M.bad
  | true=>match x with
   | .ptr nm sz idx off=>match H.get nm with
    | some (.arr sz' els)=>match Nat.beq sz' sz with
     | true=>M.look els[idx]? fun el=>match Nat.beq ((el.drop off).take ty.S).length ty.S with
      | true=>qf ty.k.ag ((el.drop off).take ty.S) k
      | false=>M.bad
     | false=>M.bad
    | _=>M.bad
   | .d (.rop cs off)=>match Nat.beq ((cs.drop off).take ty.S).length ty.S with
    | true=>match ty.k.ag with
     | true=>dP ((cs.drop off).take ty.S) fun l=>k (.d (.agg l))
     | false=>match (cs.drop off).take ty.S with
      | v::_=>k (.d v)
      | []=>k (.d (.bool false))
    | false=>M.bad
   | _=>M.bad
theorem ES(ok:P4 M hd){t:TypeId}{x:Operand}(hT:TabOk P T)(ho:o.op = .load t x)(h:hd (Qv M T st.heap t (st.ev G x) k)):∃ v,hd (k v) /\ ∀ H2,Ext st.heap H2->PureOp G P { st with heap:=H2 } o v:=by
 unfold Qv at h;split at h
 ·exact bX
 rename_i ty hg;have hTy:=(hT.get hg).tok;split at h
 ·exact bX
 rename_i hS;have hS:=zK hS;split at h
 ·rename_i nm sz idx off hx;split at h
  ·rename_i sz' els hh;split at h
   ·rename_i e;have e:=waf e;subst e;obtain⟨el,h1,h2⟩:=ok.h_look h;split at h2
    ·rename_i hl;rw[oW]at h2;exact⟨_,h2,fun H2 hE=>iz (st:={ st with heap:=H2 }) ho hTy hS hx (hE _ _ hh) h1 rfl (waf hl)⟩
    ·exact(ok.h_bad h2).elim
   ·exact bX
  ·exact bX
 ·rename_i cs off hx;split at h
  ·rename_i hl;have h2:hd (k (.d (xd ty.k.ag ((cs.drop off).take ty.S)))):=by
    split at h
    ·rename_i hag;rw[cR]at h;rw[hag];exact h
    ·rename_i hag;rw[hag];split at h
     ·rename_i hc;rw[hc];exact h
     ·rename_i hc;rw[hc];exact h
   exact⟨_,h2,fun H2 hE=>rN (st:={ st with heap:=H2 }) ho hTy hS hx rfl (waf hl)⟩
  ·exact bX
 ·exact bX
def qs(M:Om)(T:Tab)(s i:Nat)(x:AV)(k:AV->M.W):M.W:=match T.get s with
 | some ⟨_,_,_,_,.st fs⟩=>match fs[i]? with
  | some (off0,_,_)=>match x with
   | .ptr nm sz idx off=>k (.ptr nm sz idx (off+off0))
   | .d (.rop cs off)=>k (.d (.rop cs (off+off0)))
   | _=>M.bad
  | none=>M.bad
 | _=>M.bad
theorem tP(ok:P4 M hd){s i:Nat}{x:Operand}(hT:TabOk P T)(ho:o.op = .fieldAddr s x i)(h:hd (qs M T s i (st.ev G x) k)):∃ v,hd (k v) /\ ∀ H2,Ext st.heap H2->PureOp G P { st with heap:=H2 } o v:=by
 unfold qs at h;split at h
 ·rename_i S0 B0 z0 fs hg;split at h
  ·rename_i off0 S ag hf;have hF:=(hT.get hg).fld rfl hf;split at h
   ·rename_i hx;exact⟨_,h,fun H2 hE=>km (st:={ st with heap:=H2 }) ho hF hx⟩
   ·rename_i hx;exact⟨_,h,fun H2 hE=>rM (st:={ st with heap:=H2 }) ho hF hx⟩
   ·exact bX
  ·exact bX
 ·exact bX
def Hn(M:Om)(T:Tab)(s i:Nat)(x:AV)(k:AV->M.W):M.W:=match T.get s with
 | some ⟨_,_,_,_,.st fs⟩=>match fs[i]? with
  | some (off0,S,ag)=>match tm x with
   | true=>match Nat.beq ((x.cells.drop off0).take S).length S,J8 ag S with
    | true,true=>qf ag ((x.cells.drop off0).take S) k
    | _,_=>M.bad
   | false=>M.bad
  | none=>M.bad
 | _=>M.bad
theorem BL(ok:P4 M hd){s i:Nat}{x:Operand}(hT:TabOk P T)(ho:o.op = .field s x i)(h:hd (Hn M T s i (st.ev G x) k)):∃ v,hd (k v) /\ ∀ H2,Ext st.heap H2->PureOp G P { st with heap:=H2 } o v:=by
 unfold Hn at h;split at h
 ·rename_i S0 B0 z0 fs hg;split at h
  ·rename_i off0 S ag hf;have hF:=(hT.get hg).fld rfl hf;split at h
   ·rename_i hv;split at h
    ·rename_i h1 h2;rw[oW]at h;exact⟨_,h,fun H2 hE=>GC (st:={ st with heap:=H2 }) ho hF rfl hv rfl (waf h1) (zK h2)⟩
    ·exact bX
   ·exact bX
  ·exact bX
 ·exact bX
def xQ(M:Om)(x:AV)(i:Nat)(k:AV->M.W):M.W:=match x with
 | .tup l=>match l[i]? with
  | some v=>v.force k
  | none=>M.bad
 | .d (.tup l)=>match l[i]? with
  | some v=>k (.d v)
  | none=>M.bad
 | _=>M.bad
theorem xR(ok:P4 M hd){x:Operand}{i:Nat}(ho:o.op = .extract x i)(h:hd (xQ M (st.ev G x) i k)):∃ v,hd (k v) /\ ∀ H2,Ext st.heap H2->PureOp G P { st with heap:=H2 } o v:=by
 unfold xQ at h;split at h
 ·rename_i l hx;split at h
  ·rename_i v hv;rw[AV.force_eq]at h;exact⟨_,h,fun H2 hE=>Bk (st:={ st with heap:=H2 }) ho hx hv⟩
  ·exact bX
 ·rename_i l hx;split at h
  ·rename_i v hv;exact⟨_,h,fun H2 hE=>kl (st:={ st with heap:=H2 }) ho hx hv⟩
  ·exact bX
 ·exact bX
def qt(M:Om)(T:Tab)(t:Nat)(x y:AV)(k:AV->M.W):M.W:=match T.get t,y with
 | some ⟨_,_,_,_,.sl e⟩,.d (.int _ i)=>match T.get e with
  | some ty=>match x with
   | .sl nm sz lo len _ _=>match Nat.beq sz ty.S with
    | true=>M.chk (0<=i/\i<len) (k (.ptr nm sz (lo+i.toNat) 0))
    | false=>M.bad
   | .d (.sl es _)=>M.chk (0<=i) (M.look es[i.toNat]? fun cs=>match Nat.beq cs.length ty.S with
    | true=>k (.d (.rop cs 0))
    | false=>M.bad)
   | _=>M.bad
  | none=>M.bad
 | some ⟨_,_,_,_,.arr n e⟩,.d (.int _ i)=>match T.get e with
  | some ty=>match x with
   | .ptr nm sz idx off=>M.chk (0<=i/\i<n) (k (.ptr nm sz idx (off+i.toNat*ty.S)))
   | .d (.rop cs off)=>M.chk (0<=i/\i<n) (k (.d (.rop cs (off+i.toNat*ty.S))))
   | _=>M.bad
  | none=>M.bad
 | _,_=>M.bad
theorem tQ(ok:P4 M hd){t:TypeId}{x y:Operand}(hT:TabOk P T)(ho:o.op = .indexAddr t x y)(h:hd (qt M T t (st.ev G x) (st.ev G y) k)):∃ v,hd (k v) /\ ∀ H2,Ext st.heap H2->PureOp G P { st with heap:=H2 } o v:=by
 unfold qt at h;split at h
 ·rename_i S0 B0 z0 e ki i hg hy;split at h
  ·rename_i ty he;have hTS:cH P t e ty.S ty.B ty.z:=⟨(hT.get hg).2,(hT.get he).1⟩
   split at h
   ·rename_i hx;split at h
    ·rename_i hsz;obtain⟨h1,h2⟩:=ok.h_chk h;exact⟨_,h2,fun H2 hE=>xp (st:={ st with heap:=H2 }) ho hTS hx hy (waf hsz) h1.1 h1.2⟩
    ·exact bX
   ·rename_i es tg hx;obtain⟨h1,h2⟩:=ok.h_chk h;obtain⟨cs,h3,h4⟩:=ok.h_look h2;split at h4
    ·rename_i hl;exact⟨_,h4,fun H2 hE=>kJ (st:={ st with heap:=H2 }) ho hTS hx hy h1 h3 (waf hl)⟩
    ·exact(ok.h_bad h4).elim
   ·exact bX
  ·exact bX
 ·rename_i S0 B0 z0 n e ki i hg hy;split at h
  ·rename_i ty he;have hTA:Kb P t n e ty.k.ag ty.S ty.B ty.z:=⟨(hT.get hg).2,(hT.get he).tok⟩
   split at h
   ·rename_i hx;obtain⟨h1,h2⟩:=ok.h_chk h;exact⟨_,h2,fun H2 hE=>fX (st:={ st with heap:=H2 }) ho hTA hx hy h1.1 h1.2⟩
   ·rename_i hx;obtain⟨h1,h2⟩:=ok.h_chk h;exact⟨_,h2,fun H2 hE=>nq (st:={ st with heap:=H2 }) ho hTA hx hy h1.1 h1.2⟩
   ·exact bX
  ·exact bX
 ·exact bX
def Ho(M:Om)(T:Tab)(t:Nat)(x y:AV)(k:AV->M.W):M.W:=match T.get t,y with
 | some ⟨_,_,_,_,.arr n e⟩,.d (.int _ i)=>match T.get e with
  | some ty=>match tm x,J8 ty.k.ag ty.S with
   | true,true=>M.chk (0<=i/\i<n/\((x.cells.drop (i.toNat*ty.S)).take ty.S).length=ty.S/\0<ty.S) (qf ty.k.ag ((x.cells.drop (i.toNat*ty.S)).take ty.S) k)
   | _,_=>M.bad
  | none=>M.bad
 | _,_=>M.bad
theorem BM(ok:P4 M hd){t:TypeId}{x y:Operand}(hT:TabOk P T)(ho:o.op = .index t x y)(h:hd (Ho M T t (st.ev G x) (st.ev G y) k)):∃ v,hd (k v) /\ ∀ H2,Ext st.heap H2->PureOp G P { st with heap:=H2 } o v:=by
 unfold Ho at h;split at h
 ·rename_i S0 B0 z0 n e ki i hg hy;split at h
  ·rename_i ty he;have hTA:Kb P t n e ty.k.ag ty.S ty.B ty.z:=⟨(hT.get hg).2,(hT.get he).tok⟩
   split at h
   ·rename_i h1 h2;obtain⟨⟨a1,a2,a3,a4⟩,h3⟩:=ok.h_chk h;rw[oW]at h3;exact⟨_,h3,fun H2 hE=>xq (st:={ st with heap:=H2 }) ho hTA rfl h1 hy a1 a2 rfl a3 (zK h2) a4⟩
   ·exact bX
  ·exact bX
 ·exact bX
def uT(M:Om)(G:Nat->Option (List D))(st:St)(x:Option Operand)(d:Nat)(k:Nat->M.W):M.W:=match x with
 | none=>k d
 | some y=>match st.ev G y with
  | .d (.int _ i)=>M.chk (0<=i) (k i.toNat)
  | _=>M.bad
theorem dU(ok:P4 M hd){x:Option Operand}{d:Nat}{k:Nat->M.W}(h:hd (uT M G st x d k)):∃ n,Fz G st x d n/\hd (k n):=by
 unfold uT at h;split at h
 ·exact⟨d,rfl,h⟩
 ·split at h
  ·rename_i y k' i hy;obtain⟨h1,h2⟩:=ok.h_chk h;exact⟨_,⟨k',i,hy,h1,rfl⟩,h2⟩
  ·exact bX
def Hu(M:Om)(T:Tab)(G:Nat->Option (List D))(st:St)(t:Nat)(x:Operand)(lo' hi':Option Operand)(k:AV->M.W):M.W:=match T.get t with
 | some ⟨_,_,_,_,.sl e⟩=>match T.get e with
  | some ty=>match st.ev G x with
   | .sl nm sz lo len room tg=>match Nat.beq sz ty.S with
    | true=>uT M G st lo' 0 fun l=>uT M G st hi' len fun h=>M.chk (l<=h/\h<=max len room/\l<=room) (k (.sl nm sz (lo+l) (h-l) (room-l) tg))
    | false=>M.bad
   | .d (.sl es tg)=>uT M G st lo' 0 fun l=>uT M G st hi' es.length fun h=>M.chk (l<=h/\h<=es.length /\ ∀ el,el∈es->el.length=ty.S) (k (.d (.sl ((es.drop l).take (h-l)) (tg&&decide (h=es.length)))))
   | _=>M.bad
  | none=>M.bad
 | _=>M.bad
theorem BQ(ok:P4 M hd){t:TypeId}{x:Operand}{lo' hi':Option Operand}(hT:TabOk P T)(ho:o.op = .slice t x lo' hi' none)(h:hd (Hu M T G st t x lo' hi' k)):∃ v,hd (k v) /\ ∀ H2,Ext st.heap H2->PureOp G P { st with heap:=H2 } o v:=by
 unfold Hu at h;split at h
 ·rename_i S0 B0 z0 e hg;split at h
  ·rename_i ty he;have hTS:cH P t e ty.S ty.B ty.z:=⟨(hT.get hg).2,(hT.get he).1⟩
   split at h
   ·rename_i hx;split at h
    ·rename_i hsz;obtain⟨l,h1,h⟩:=dU ok h;obtain⟨u,h2,h⟩:=dU ok h;obtain⟨⟨a1,a2,a3⟩,h⟩:=ok.h_chk h;exact⟨_,h,fun H2 hE=>GD (st:={ st with heap:=H2 }) ho hTS hx (waf hsz) h1 h2 a1 a2 a3⟩
    ·exact bX
   ·rename_i hx;obtain⟨l,h1,h⟩:=dU ok h;obtain⟨u,h2,h⟩:=dU ok h;obtain⟨⟨a1,a2,a3⟩,h⟩:=ok.h_chk h;exact⟨_,h,fun H2 hE=>yt (st:={ st with heap:=H2 }) ho hTS hx h1 h2 a1 a2 a3⟩
   ·exact bX
  ·exact bX
 ·exact bX
end Go.AL
namespace Go.AL
open Go
variable{G:Nat->Option (List D)}{P:Program}{st:St}{o:Oper}
def ym(ag:Bool):D->Option (List Int)
 | .agg l=>match ag with
  | true=>jn l
  | false=>none
 | .int .i64 n=>match ag with
  | true=>none
  | false=>some [n]
 | _=>none
theorem ry{w:World}{RO:Nat->Prop}{ag:Bool}{d:D}{ks:List Int}{x:Value}(h:ym ag d=some ks)(hd:P1 w RO d x):x=iZ ag ks:=by
 unfold ym at h;split at h
 ·split at h
  ·exact rt (C:=⟨fun _=>False,fun _=>none,RO,w⟩) h (.d _ _ hd)
  ·cases h
 ·split at h
  ·cases h
  ·cases h;cases hd;rfl
 ·cases h
def fD(as:List Int):List (List Int)->Nat->Option Nat
 | [],_=>none
 | ks::r,i=>match as==ks with
  | true=>some i
  | false=>fD as r (i+1)
theorem qg(as:List Int):∀(kss:List (List Int)) (ents:List MapEntry) (i:Nat),kss.length=ents.length ->
  (lz as kss ents i=none/\fD as kss i=none) \/ ∃(j:Nat) (e:MapEntry),fD as kss i=some (i+j)/\ents[j]?=some e/\kss[j]?=some as/\lz as kss ents i=some (i+j,e.val)
 | [],[],i,_=>.inl ⟨rfl,rfl⟩
 | [],_::_,i,h=>by simp at h
 | _::_,[],i,h=>by simp at h
 | ks::kss,e::ents,i,h=>by
  by_cases e0:as=ks
  ·subst e0;exact .inr ⟨0,e,by simp[fD],rfl,rfl,by simp[lz]⟩
  ·have hb:(as==ks)=false:=by simp[e0]
   rcases qg as kss ents (i+1) uz with⟨h1,h2⟩|⟨j,e',h1,h2,h3,h4⟩
   ·exact .inl ⟨by simp[lz,e0,h1],by simp[fD,hb,h2]⟩
   ·exact .inr ⟨j+1,e',by simp[fD,hb,h1];omega,by simpa using h2,by simpa using h3,by simp[lz,e0,h4];omega⟩
def mZ(ag:Bool):List (D×D)->Option (List (List Int))
 | []=>some []
 | (x,_)::r=>match ym ag x with
  | some ks=>match mZ ag r with
   | some kss=>some (ks::kss)
   | none=>none
  | none=>none
theorem ql{ag:Bool}:∀{es:List (D×D)} {kss:List (List Int)},mZ ag es=some kss->kss.length=es.length /\ ∀(i:Nat) (x y:D) (ks:List Int),es[i]?=some (x,y)->kss[i]?=some ks->ym ag x=some ks
 | [],kss,h=>by cases h;exact⟨rfl,fun i x y ks h=>by simp at h⟩
 | (x,y)::r,kss,h=>by
  unfold mZ at h;split at h
  ·rename_i ks hks;split at h
   ·rename_i kss' hr;cases h;obtain⟨h1,h2⟩:=ql hr;refine⟨by simp[h1],fun i x' y' ks' a1 a2=>?_⟩;cases i with
    | zero=>simp at a1 a2;obtain⟨rfl,rfl⟩:=a1;subst a2;exact hks
    | succ i=>exact h2 i x' y' ks' (by simpa using a1) qfq
   ·cases h
  ·cases h
theorem EX{C:Ctx}{nm:Nat}{x:Value}(h:O9 C (.map nm) x):∃ k,C.U nm/\C.β nm=some k/\x = .map (some k):=by
 cases h with|map _ k hU hb=>exact⟨k,hU,hb,rfl⟩
theorem mS{w:World}{k:Nat}{ents:Array MapEntry}{clock:Nat}(h:w.heap[k]?=some (.map ents clock)):(getObj k).run P w = .ok (.map ents clock) w:=by
 simp[getObj,Sem.run,h]
theorem Dx{C:Ctx}{es:List (D×D)}{ag:Bool}{kt S:Nat}{as:List Int}{kss:List (List Int)}{ents:Array MapEntry}(hk:Q1 P kt ag S)(ha:as.length=S)(hs:ents.size=es.length)
  (he:∀(i:Nat) (x y:D),es[i]?=some (x,y)->∃ en:MapEntry,ents[i]?=some en/\P1 C.w C.RO x en.key/\P1 C.w C.RO y en.val) (hks:mZ ag es=some kss) (hl:∀ ks,ks∈kss->ks.length=S) :
  (Instr.findKey kt (iZ ag as) ents.toList).run P C.w = .ok (lz as kss ents.toList 0) C.w/\kss.length=ents.toList.length:=by
 obtain⟨m1,m2⟩:=ql hks;have hlen:kss.length=ents.toList.length:=by simp[m1,hs]
 refine⟨hk.find C.w as kss ents.toList ha hlen fun i ks e a1 a2=>⟨hl ks (ye a1),?_⟩,hlen⟩;have hi:i<es.length:=by rw[<- m1];exact(nt.1 a1).1
 obtain⟨en,b1,b2,_⟩:=he i es[i].1 es[i].2 (by rw[ew hi]);have:en=e:=by
  have:ents.toList[i]?=some en:=by simpa using b1
  rw[a2]at this;exact(ku this).symm
 subst this;exact ry (m2 i es[i].1 es[i].2 ks (by rw[ew hi]) a1) b2
theorem oh{t kt et Se Be:TypeId}{ag cok:Bool}{S nm:Nat}{z d:D}{x y:Operand}{es:List (D×D)}{as:List Int}{kss:List (List Int)}{v:D}{bo:Bool}(ho:o.op = .lookup t x y cok)(hu:P.underlying t=some (.map kt et))
  (hk:Q1 P kt ag S) (hE:EOk P et Se Be z) (hx:st.ev G x = .map nm) (hg:st.heap.get nm=some (.map es)) (hy:st.ev G y = .d d) (hd:ym ag d=some as) (ha:as.length=S) (hks:mZ ag es=some kss) (hl:∀ ks,ks∈kss->ks.length=S)
  (hv:(∃ j x',fD as kss 0=some j/\es[j]?=some (x',v)/\bo=true)\/(fD as kss 0=none/\v=z/\bo=false)):PureOp G P st o (if cok then .d (.tup [v,.bool bo]) else .d v):=by
 intro C a hH hop;obtain⟨k,hU,hb,hxv⟩:=EX (hx ▸ hop x fI);have hyv:=ry hd (bZ (hy ▸ hop y fI));obtain⟨_,k',ents,clock,b1,b2,b3,b4,b5⟩:=hH.blk nm _ hg;rw[hb]at b1;cases b1;obtain⟨f1,f2⟩:=Dx hk ha b4 b5 hks hl;obtain⟨ti,h1,h2,h3,zv,h4,h5,h6⟩:=hE;have hzero:(zeroValue et).run P C.w = .ok zv C.w:=by simp[zeroValue,bR h1,h4]
 have hc:=hk.check C.w ents.isEmpty as ha;obtain⟨xv,hrun,hrel⟩:∃ xv,(Instr.lookup t (.map (some k)) (iZ ag as) cok).run P C.w = .ok (if cok then .tuple #[xv,.bool bo] else xv) C.w/\P1 C.w C.RO v xv:=by
  rcases qg as kss ents.toList 0 f2 with⟨g1,g2⟩|⟨j,e,g1,g2,g3,g4⟩
  ·rcases hv with⟨j,x',q1,_⟩|⟨_,rfl,rfl⟩
   ·rw[g2]at q1;cases q1
   ·refine⟨zv,?_,h6 _ _⟩;simp only[Instr.lookup,Sem.run_bind,run_underlying hu,Result.andThen_ok,mS b2,Sem.run_pure,hc,f1,g1,hzero]
  ·rcases hv with⟨j',x',q1,q2,rfl⟩|⟨q1,_⟩
   ·rw[g1]at q1;simp only[jj,tU]at q1;subst q1;obtain⟨en,r1,r2,r3⟩:=b5 j x' v q2;have:en=e:=by
     have:ents.toList[j]?=some en:=by simpa using r1
     rw[g2]at this;exact(ku this).symm
    subst this;refine⟨en.val,?_,r3⟩;simp only[Instr.lookup,Sem.run_bind,run_underlying hu,Result.andThen_ok,mS b2,Sem.run_pure,hc,f1,g4]
   ·rw[g1]at q1;cases q1
 refine⟨if cok then .tuple #[xv,.bool bo] else xv,?_,?_⟩
 ·simp only[execOp,ho,hxv,hyv];simp[hrun]
 ·cases cok with
  | false=>exact .d _ _ hrel
  | true =>
   refine .d _ _ (.tup _ _ rfl fun i d' h=>?_)
   match i with
   | 0=>simp at h;subst h;simpa using hrel
   | 1=>simp at h;subst h;exact .bool bo
   | i+2=>simp at h
end Go.AL
namespace Go.AL
open Go
variable{G:Nat->Option (List D)}{P:Program}{st:St}{o:Oper}
theorem sg{t:TypeId}{nm:Nat}(ho:o.op = .makeMap t none):StepOp G P st o (.map nm) ((nm,some (.map []))::st.heap) (· = nm):=by
 intro C a hH hop hn;have hn':=hn nm rfl;have ht:=lX (C:=C) (H:=st.heap) (some (.map [])) (.map #[] 0) hn';have hB:iL (C.alloc nm (.map #[] 0)) nm (.map []):=by
  refine⟨C.w.heap.size,#[],0,by simp[Ctx.alloc],eU _ _,fun hro=>?_,rfl,fun i x y h=>by simp at h⟩;exact D9 _ (hH.ro _ hro)
 refine⟨C.alloc nm (.map #[] 0),.value (.map (some C.w.heap.size)),?_,.inl ⟨_,rfl,.map nm _ (.inr rfl) H7⟩,mv hH hn' hB,ht,fun n h=>h⟩;simp only[execOp,ho,Option.map_none];rfl
theorem Um{C:Ctx}{H H':AHeap}{nm k:Nat}{b0:Blk}{e0 e1:Array MapEntry}{c0 c1:Nat}(hh:C.w.heap[k]?=some (.map e0 c0))(hg:H.get nm=some b0)(hb:C.β nm=some k)
  (himg:∀ n b k',H'.get n=some b->C.β n=some k'->∃ n0 b0,H.get n0=some b0/\C.β n0=some k'):Tr C.U C H (C.put k (.map e1 c1)) H' where
 os:=rfl
 tape:=rfl
 output:=rfl
 size:=by simp[Ctx.put]
 shape j a t fz h:=by
  by_cases hj:j=k
  ·subst hj;rw[hh]at h;cases h
  ·exact qek
 frame j hj hn:=World.putObj_heap_other (fun ej=>hn nm b0 hg (by rw[hb,ej]))
 names n h:=⟨h,rfl⟩
 ros j h:=h
 img n b k' h1 h2 _:=himg n b k' h1 h2
 rob _ h _:=.inl h
theorem Kz{C:Ctx}{H:AHeap}(hH:P0 G C H){nm k:Nat}{b0 b':Blk}{e0 e1:Array MapEntry}{c0 c1:Nat}(hh:C.w.heap[k]?=some (.map e0 c0))(hg:H.get nm=some b0)(hb:C.β nm=some k)
  (hb':Tr C.U C H (C.put k (.map e1 c1)) ((nm,some b')::H)->iL (C.put k (.map e1 c1)) nm b'):P0 G (C.put k (.map e1 c1)) ((nm,some b')::H)/\Tr C.U C H (C.put k (.map e1 c1)) ((nm,some b')::H):=by
 have himg:∀ n b k',AHeap.get ((nm,some b')::H) n=some b->C.β n=some k'->∃ n0 b0,H.get n0=some b0/\C.β n0=some k':=fun n b k' h1 h2=>by
  by_cases e:n=nm
  ·subst e;exact⟨n,b0,hg,h2⟩
  ·exact G4
 have ht:=Um (C:=C) (e1:=e1) (c1:=c1) hh hg hb himg;refine⟨⟨?_,?_,fun j hj=>?_,fun g ds hgd=>(hH.glob g ds hgd).later ht hH⟩,ht⟩
 ·exact qjc
 ·exact qh7
 ·exact qf0
theorem pP:∀(l:List Int),((l.map (Value.int .i64)).zip (l.map (Value.int .i64))).all (fun p=>Instr.sameBits 9999 p.1 p.2)=true
 | []=>rfl
 | n::l=>by
  simp only[nB,List.zip_cons_cons,List.all_cons,pP l,Bool.and_true];simp[Instr.sameBits]
theorem Bs(ag:Bool)(as:List Int):Instr.sameBits 10000 (iZ ag as) (iZ ag as)=true:=by
 cases ag with
 | false=>simp[iZ,Instr.sameBits]
 | true =>
  have h:=pP as;simp only[iZ,if_true,iW];unfold Instr.sameBits;simpa using h
theorem xA{w:World}{k:Nat}{e0 e1:Array MapEntry}{c0 c1:Nat}(h:w.heap[k]?=some (.map e0 c0)):(setObj k (.map e1 c1)).run P w = .ok () (w.putObj k (.map e1 c1)):=by
 simp[setObj,Sem.run,h,World.putObj]
theorem kr{t kt et:TypeId}{ag:Bool}{S nm:Nat}{d y:D}{m x u:Operand}{es es':List (D×D)}{as:List Int}{kss:List (List Int)}(ho:o.op = .mapUpdate t m x u\/o.op = .insert t m x u)(hu:P.underlying t=some (.map kt et))
  (hk:Q1 P kt ag S) (hm:st.ev G m = .map nm) (hg:st.heap.get nm=some (.map es)) (hx:st.ev G x = .d d) (hd:ym ag d=some as) (hy:st.ev G u = .d y) (ha:as.length=S) (hks:mZ ag es=some kss) (hl:∀ ks,ks∈kss->ks.length=S)
  (hes:es'=match fD as kss 0 with|some j=>es.set j (d,y)|none=>es++[(d,y)]):StepOp G P st o .top ((nm,some (.map es'))::st.heap) (fun _=>False):=by
 intro C a hH hop _;have hops:m∈o.op.operands/\x∈o.op.operands/\u∈o.op.operands:=by rcases ho with ho|ho<;>simp[ho,Op.operands]
 obtain⟨k,hU,hb,hxv⟩:=EX (hm ▸ hop m hops.1);have hdr:=bZ (hx ▸ hop x hops.2.1);have hyv:=ry hd hdr;have hur:=bZ (hy ▸ hop u hops.2.2);obtain⟨_,k',ents,clock,b1,b2,b3,b4,b5⟩:=hH.blk nm _ hg;rw[hb]at b1;cases b1;obtain⟨f1,f2⟩:=Dx hk ha b4 b5 hks hl;obtain⟨m1,m2⟩:=ql hks;have hc:=hk.check C.w false as ha;have key:∃(ents':Array MapEntry) (clock':Nat),(Instr.mapUpdate t (.map (some k)) (iZ ag as) (a.eval u)).run P C.w = .ok () (C.w.putObj k (.map ents' clock'))/\ents'.size=es'.length ∧
   ∀(i:Nat) (p q:D),es'[i]?=some (p,q)->∃ en:MapEntry,ents'[i]?=some en/\P1 C.w C.RO p en.key/\P1 C.w C.RO q en.val:=by
  rcases qg as kss ents.toList 0 f2 with⟨g1,g2⟩|⟨j,e,g1,g2,g3,g4⟩
  ·rw[g2]at hes;subst hes;refine⟨ents.push { key:=iZ ag as,val:=a.eval u,born:=clock },clock+1,?_,by simp[b4],fun i p q hi=>?_⟩
   ·simp only[Instr.mapUpdate,Sem.run_bind,run_underlying hu,Result.andThen_ok,mS b2,hc,f1,g1];exact xA b2
   ·rw[List.getElem?_append]at hi;split at hi
    ·rename_i hlt;obtain⟨en,r1,r2,r3⟩:=b5 i p q hi;exact⟨en,by rw[Array.getElem?_push_lt qad];rw[<- r1];exact(wdy qad).symm,r2,r3⟩
    ·rename_i hlt;have hi0:i-es.length=0:=by
      have:=(nt.1 hi).1;simp at this;omega
     rw[hi0]at hi;simp at hi;obtain⟨rfl,rfl⟩:=hi;have:i=ents.size:=qad;subst this;exact⟨{ key:=iZ ag as,val:=a.eval u,born:=clock },by simp,hyv ▸ hdr,hur⟩
  ·simp only[jj]at g1 g4;rw[g1]at hes;subst hes;have hj:j<es.length:=by rw[<- m1];exact(nt.1 g3).1
   have hja:ents[j]?=some e:=by simpa using g2
   obtain⟨en,r1,r2,r3⟩:=b5 j es[j].1 es[j].2 (by rw[ew hj]);rw[hja]at r1;cases r1;have hkey:e.key=iZ ag as:=ry (m2 j es[j].1 es[j].2 as (by rw[ew hj]) g3) r2;have hstay:(Instr.keyThatStays (((ents[j]?).map (·.key)).getD (iZ ag as)) (iZ ag as)).run P C.w = .ok (iZ ag as) C.w:=by
    rw[hja];simp only[LP,Hw,hkey,Instr.keyThatStays,Bs,if_true,Sem.run_pure]
   refine⟨ents.modify j fun e=>{ e with key:=iZ ag as,val:=a.eval u },clock,?_,by simp[b4],fun i p q hi=>?_⟩
   ·simp only[Instr.mapUpdate,Sem.run_bind,run_underlying hu,Result.andThen_ok,mS b2,hc,f1,g4,hstay];exact xA b2
   ·by_cases hij:i=j
    ·subst hij;rw[List.getElem?_set_self hj]at hi;cases hi;exact⟨{ e with key:=iZ ag as,val:=a.eval u },by simp[Array.getElem?_modify,hja],hyv ▸ hdr,hur⟩
    ·rw[I9 (Ne.symm hij)]at hi;obtain⟨en,r1,r2,r3⟩:=b5 i p q hi;exact⟨en,by simp[Array.getElem?_modify,Ne.symm hij,r1],r2,r3⟩
 obtain⟨ents',clock',hrun,s1,s2⟩:=key;obtain⟨h1,h2⟩:=Kz (e1:=ents') (c1:=clock') hH b2 hg hb (b':=.map es') fun ht=>by
  refine⟨k,ents',clock',hb,dk b2,b3,s1,fun i p q hi=>?_⟩;obtain⟨en,r1,r2,r3⟩:=s2 i p q hi;exact⟨en,r1,r2.later ht hH,r3.later ht hH⟩
 refine⟨_,.skip,?_,.inr ⟨rfl,rfl⟩,h1,h2,fun n h=>.inl h⟩;rcases ho with ho|ho<;>simp only[execOp,ho,hxv,hyv]<;>simp[hrun,Ctx.put]
end Go.AL
namespace Go.AL
open Go
variable{G:Nat->Option (List D)}{P:Program}{st:St}{o:Oper}
variable{M:Om}{hd:M.W->Prop}{T:Tab}{k:AV->M.W}
def vUn(M:Om)(op:UnOp)(x:AV)(k:AV->M.W):M.W:=match op,x with
 | .not,.d (.bool b)=>match b with
  | true=>k (.d (.bool false))
  | false=>k (.d (.bool true))
 | .neg,.d (.int kk n)=>k (.d (.int kk (FZ kk n)))
 | _,_=>M.bad
theorem Lf(ok:P4 M hd){op:UnOp}{t:TypeId}{x:Operand}(ho:o.op = .unOp op t x)(h:hd (vUn M op (st.ev G x) k)):∃ v,hd (k v) /\ ∀ H2,Ext st.heap H2->PureOp G P { st with heap:=H2 } o v:=by
 unfold vUn at h;split at h
 ·rename_i b hx;split at h
  ·exact qgk
  ·exact qgk
 ·rename_i hx;exact⟨_,h,fun H2 hE=>Pl (st:={ st with heap:=H2 }) ho hx⟩
 ·exact bX
def Qs(M:Om)(T:Tab)(d:Nat)(x:AV)(k:AV->M.W):M.W:=match T.get d,x with
 | some ⟨_,_,_,_,.int k'⟩,.d (.int _ n)=>k (.d (.int k' (k'.wrap n)))
 | _,_=>M.bad
theorem EP(ok:P4 M hd){s d:Nat}{x:Operand}(hT:TabOk P T)(ho:o.op = .convert s d x)(hs:∃ ds,P.underlying s=some ds)(h:hd (Qs M T d (st.ev G x) k)):∃ v,hd (k v) /\ ∀ H2,Ext st.heap H2->PureOp G P { st with heap:=H2 } o v:=by
 unfold Qs at h;split at h
 ·rename_i hg hx;obtain⟨ds,hs⟩:=hs;exact⟨_,h,fun H2 hE=>Bi (st:={ st with heap:=H2 }) ho hs (hT.get hg).2 hx⟩
 ·exact bX
theorem TyOk.under{t:Nat}{ty:Ty}(h:TyOk P t ty):∃ ds,P.underlying t=some ds:=by
 obtain⟨_,d,h,_⟩:=h.tok;exact⟨d,h⟩
def D8(M:Om)(x:AV)(k:AV->M.W):M.W:=match x with
 | .ptr n1 n2 n3 n4=>k (.ptr n1 n2 n3 n4)
 | .d (.rop cs off)=>k (.d (.rop cs off))
 | _=>M.bad
theorem Ht(ok:P4 M hd){x:Operand}(ho:o.op = .nilCheck x)(h:hd (D8 M (st.ev G x) k)):∃ v,hd (k v) /\ ∀ H2,Ext st.heap H2->PureOp G P { st with heap:=H2 } o v:=by
 unfold D8 at h;split at h
 ·rename_i hx;exact⟨_,h,fun H2 hE=>kK (st:={ st with heap:=H2 }) ho hx⟩
 ·rename_i hx;exact⟨_,h,fun H2 hE=>rO (st:={ st with heap:=H2 }) ho hx⟩
 ·exact bX
def qi{W:Type}:List D->(List D->W)->W
 | [],k=>k []
 | v::l,k=>qi l fun l=>k (v::l)
theorem za{W:Type}:∀(l:List D) (k:List D->W),qi l k=k l
 | [],_=>rfl
 | v::l,k=>by rw[qi,za l]
def AV.shown{W:Type}(v:AV)(k:AV->W):W:=match v with
 | .d (.agg l)=>qi l fun l=>k (.d (.agg l))
 | .d (.tup l)=>qi l fun l=>k (.d (.tup l))
 | .d (.fn f a b)=>qi a fun a=>qi b fun b=>k (.d (.fn f a b))
 | .fn f a b=>dZ a fun a=>dZ b fun b=>k (.fn f a b)
 | .agg l=>dZ l fun l=>k (.agg l)
 | .tup l=>dZ l fun l=>k (.tup l)
 | v=>k v
theorem AV.shown_eq{W:Type}(v:AV)(k:AV->W):v.shown k=k v:=by
 unfold AV.shown;split<;>simp only[za,bI]
def Qu(M:Om)(G:Nat->Option (List D))(st:St)(f:FuncId)(first cap:Array Operand)(k:AV->M.W):M.W :=
 dZ (first.toList.map (st.ev G)) fun a=>dZ (cap.toList.map (st.ev G)) fun b=>(ZH f a b).shown k
theorem ER(ok:P4 M hd){f:FuncId}{first cap:Array Operand}(ho:o.op = .makeFunc (.func f) first cap)(h:hd (Qu M G st f first cap k)):∃ v,hd (k v) /\ ∀ H2,Ext st.heap H2->PureOp G P { st with heap:=H2 } o v:=by
 unfold Qu at h;simp only[bI,AV.shown_eq]at h;exact⟨_,h,fun H2 hE=>yq (st:={ st with heap:=H2 }) ho⟩
def Gz(T:Tab)(ty:Ty):Option (List (Nat×Nat)):=match ty.k with
 | .st fs=>some (fs.map fun x=>(x.1,x.2.1))
 | .arr n e=>match T.get e with
  | some te=>some ((List.range n).map fun i=>(i*te.S,te.S))
  | none=>none
 | _=>none
def Hm(M:Om)(T:Tab)(G:Nat->Option (List D))(st:St)(t:Nat)(ps:Array (Nat×Operand))(k:AV->M.W):M.W:=match T.get t with
 | some ty=>match ty.z,Gz T ty with
  | .agg zs,some pl=>match pI pl (zs.map .d) (ps.toList.map fun p=>(p.1,st.ev G p.2)) with
   | some l=>(zl l).shown k
   | none=>M.bad
  | _,_=>M.bad
 | none=>M.bad
theorem tJ{t:Nat}{ty:Ty}{zs:List D}{pl:List (Nat×Nat)}(hT:TabOk P T)(hg:T.get t=some ty)(hz:ty.z = .agg zs)(hp:Gz T ty=some pl):vI P t zs pl:=by
 have h:=hT.get hg;obtain⟨⟨ti,h1,h2,h3,zv,h4,h5,h6⟩,hk⟩:=h;constructor
 ·refine⟨ti,zv,h1,h4,?_⟩;rw[hz]at h6;have key:∀ w RO,∃ cs,zv = .agg cs/\cs.size=zs.length /\ ∀ i d,zs[i]?=some d->P1 w RO d (cs.getD i undef):=fun w RO=>by
   have:=h6 w RO;cases this with
   | agg _ cs hs hh=>exact⟨cs,rfl,hs,hh⟩
  constructor
  ·obtain⟨cs,e1,e2,_⟩:=key default (fun _=>False);subst e1;exact e2
  ·intro w RO i d hi;obtain⟨cs,e1,e2,e3⟩:=key w RO;subst e1;exact e3 i d hi
 ·unfold Gz at hp;cases hkk:ty.k with
  | st fs =>
   rw[hkk]at hk hp;obtain⟨l,g1,_,g3⟩:=hk;simp only[tU]at hp;subst hp;exact .inl ⟨l,g1,g3⟩
  | arr n e =>
   rw[hkk]at hk hp;simp only at hp;split at hp
   ·rename_i te he;simp only[tU]at hp;subst hp;refine .inr ⟨n,e,te.S,te.B,te.z,hk,(hT.get he).1,fun i x hi=>?_⟩;simp only[mV,tT]at hi;obtain⟨j,hj,rfl⟩:=hi;have hlt:=(nt.1 hj).1;have:=(nt.1 hj).2;simp at this;subst this;rfl
   ·cases hp
  | _=>rw[hkk]at hp;cases hp
theorem BK(ok:P4 M hd){t:TypeId}{ps:Array (Nat×Operand)}(hT:TabOk P T)(ho:o.op = .build t ps)(h:hd (Hm M T G st t ps k)):∃ v,hd (k v) /\ ∀ H2,Ext st.heap H2->PureOp G P { st with heap:=H2 } o v:=by
 unfold Hm at h;split at h
 ·rename_i ty hg;split at h
  ·rename_i zs pl hz hp;split at h
   ·rename_i l hl;rw[AV.shown_eq]at h;exact⟨_,h,fun H2 hE=>qn (st:={ st with heap:=H2 }) ho (tJ hT hg hz hp) hl⟩
   ·exact bX
  ·exact bX
 ·exact bX
def D7(M:Om)(T:Tab)(t:Option Nat)(x:AV)(k:AV->M.W):M.W:=match t with
 | none=>M.bad
 | some t=>match T.get t with
  | some ⟨_,_,_,_,.sl e⟩=>match T.get e with
   | some _=>match x with
    | .sl _ _ _ len _ _=>k (.d (.int .i64 len))
    | .d (.sl es _)=>k (.d (.int .i64 es.length))
    | _=>M.bad
   | none=>M.bad
  | _=>M.bad
theorem Hp(ok:P4 M hd){x:Operand}{tys:Array TypeId}(hT:TabOk P T)(ho:o.op = .call { callee:=.builtin .len,args:=#[x],argTypes:=tys })(h:hd (D7 M T tys[0]? (st.ev G x) k)):∃ v,hd (k v) /\ ∀ H2,Ext st.heap H2->PureOp G P { st with heap:=H2 } o v:=by
 unfold D7 at h;split at h
 ·exact bX
 rename_i t ht;split at h
 ·rename_i e hg;split at h
  ·rename_i ty he;have hTS:cH P t e ty.S ty.B ty.z:=⟨(hT.get hg).2,(hT.get he).1⟩
   split at h
   ·rename_i hx;exact⟨_,h,fun H2 hE=>Pi (st:={ st with heap:=H2 }) ho ht hTS hx⟩
   ·rename_i hx;exact⟨_,h,fun H2 hE=>Eh (st:={ st with heap:=H2 }) ho ht hTS hx⟩
   ·exact bX
  ·exact bX
 ·exact bX
def pm(M:Om)(mx:Bool)(x y:AV)(k:AV->M.W):M.W:=match x,y with
 | .d (.int kk p),.d (.int _ q)=>match mx with
  | true=>k (.d (.int kk (if q>p then q else p)))
  | false=>k (.d (.int kk (if q<p then q else p)))
 | _,_=>M.bad
theorem Hr(ok:P4 M hd){x y:Operand}{tys:Array TypeId}(ho:o.op = .call { callee:=.builtin .min,args:=#[x,y],argTypes:=tys })(h:hd (pm M false (st.ev G x) (st.ev G y) k)):∃ v,hd (k v) /\ ∀ H2,Ext st.heap H2->PureOp G P { st with heap:=H2 } o v:=by
 unfold pm at h;split at h
 ·rename_i hx hy;exact⟨_,h,fun H2 hE=>Pk (st:={ st with heap:=H2 }) ho hx hy⟩
 ·exact bX
theorem Hq(ok:P4 M hd){x y:Operand}{tys:Array TypeId}(ho:o.op = .call { callee:=.builtin .max,args:=#[x,y],argTypes:=tys })(h:hd (pm M true (st.ev G x) (st.ev G y) k)):∃ v,hd (k v) /\ ∀ H2,Ext st.heap H2->PureOp G P { st with heap:=H2 } o v:=by
 unfold pm at h;split at h
 ·rename_i hx hy;exact⟨_,h,fun H2 hE=>Pj (st:={ st with heap:=H2 }) ho hx hy⟩
 ·exact bX
def BO(M:Om)(T:Tab)(t:Nat)(x:AV)(q r:AV)(k:AV->M.W):M.W:=match T.get t,q,r with
 | some ⟨_,_,_,_,.sl e⟩,.d (.int _ n),.d (.int _ m)=>match T.get e,x with
  | some _,.d (.sl _ _)=>M.chk (n=0/\m=0) (k (.d (.sl [] true)))
  | some _,.sl .. => M.chk (n=0/\m=0) (k (.d (.sl [] true)))
  | _,_=>M.bad
 | _,_,_=>M.bad
theorem yA(ok:P4 M hd){t:TypeId}{x q r:Operand}(hT:TabOk P T)(ho:o.op = .slice t x none (some q) (some r))(h:hd (BO M T t (st.ev G x) (st.ev G q) (st.ev G r) k)):∃ v,hd (k v) /\ ∀ H2,Ext st.heap H2->PureOp G P { st with heap:=H2 } o v:=by
 unfold BO at h;split at h
 ·rename_i e _ n _ m hg hq hr;split at h
  ·rename_i ty es tg he hx;have hTS:cH P t e ty.S ty.B ty.z:=⟨(hT.get hg).2,(hT.get he).1⟩
   obtain⟨hnm,h3⟩:=ok.h_chk h;obtain⟨rfl,rfl⟩:=hnm;exact⟨_,h3,fun H2 hE=>na (st:={ st with heap:=H2 }) (p:=x) (k1:=.i64) ho hTS hx (.inl ⟨_,_,rfl⟩) hq hr⟩
  ·rename_i ty _ _ _ _ _ _ he hx;have hTS:cH P t e ty.S ty.B ty.z:=⟨(hT.get hg).2,(hT.get he).1⟩
   obtain⟨hnm,h3⟩:=ok.h_chk h;obtain⟨rfl,rfl⟩:=hnm;exact⟨_,h3,fun H2 hE=>na (st:={ st with heap:=H2 }) (p:=x) (k1:=.i64) ho hTS hx (.inr ⟨_,_,_,_,_,_,rfl⟩) hq hr⟩
  ·exact bX
 ·exact bX
theorem uy{t e S B l h m:Nat}{z:D}{x p q r:Operand}{v:AV}(ho:o.op = .slice t x (some p) (some q) (some r))(hT:cH P t e S B z)(hx:st.ev G x=v)
  (hv:(∃ es tg,v = .d (.sl es tg)/\m<=es.length) \/ ∃ nm sz lo len room tg,v = .sl nm sz lo len room tg/\m<=max len room) (hp:Fz G st (some p) 0 l) (hq:Fz G st (some q) 0 h) (hr:Fz G st (some r) 0 m) (h1:l<=h) (h2:h<=m):PureOp G P st o .top:=by
 intro C a hR hop;have h0:=hx ▸ hop x fI;obtain⟨k1,i1,p1,p2,p3⟩:=hp;obtain⟨k2,i2,q1,q2,q3⟩:=hq;obtain⟨k3,i3,r1,r2,r3⟩:=hr;have e1:=br (p1 ▸ hop p fI);have e2:=br (q1 ▸ hop q fI);have e3:=br (r1 ▸ hop r fI);obtain⟨ad,n,c,hxv,hmc⟩:∃ ad n c,a.eval x = .slice ad n c/\m<=c:=by
  rcases hv with⟨es,tg,rfl,hm⟩|⟨nm,sz,lo,len,room,tg,rfl,hm⟩
  ·obtain⟨ad,c,h,h',_⟩:=vj (bZ h0);exact⟨ad,_,c,h,by omega⟩
  ·rcases fS h0 with⟨k,c,cs,e',fz,_,_,g1,g2,_,_,_,hxv⟩|⟨_,g1,g2,ad,hxv⟩
   ·exact⟨_,_,c,hxv,by omega⟩
   ·exact⟨ad,0,0,hxv,by omega⟩
 have b3:(Instr.sliceBound (.int k3 i3) c .slice3Acap).run P C.w = .ok m C.w:=by rw[dA r2 qad,r3]
 have b2:(Instr.sliceBound (.int k2 i2) m .slice3B).run P C.w = .ok h C.w:=by rw[dA q2 qad,q3]
 have b1:(Instr.sliceBound (.int k1 i1) h .slice3C).run P C.w = .ok l C.w:=by rw[dA p2 qad,p3]
 refine⟨.slice (if m=l then ad else ad.map (·.add (l*S))) (h-l) (m-l),?_,.top _⟩;simp only[execOp,ho,Instr.sliceAt,Instr.slice,hxv,LP,e1,e2,e3];simp[run_underlying hT.1,EOk.size hT.2,Instr.sliceBounds,b3,b2,b1]
def BP(M:Om)(T:Tab)(G:Nat->Option (List D))(st:St)(t:Nat)(x p q r:Operand)(k:AV->M.W):M.W:=match T.get t with
 | some ⟨_,_,_,_,.sl e⟩=>match T.get e,st.ev G x with
  | some _,.d (.sl es _)=>uT M G st (some p) 0 fun l=>uT M G st (some q) 0 fun h=>uT M G st (some r) 0 fun m=>M.chk (l<=h/\h<=m/\m<=es.length) (k .top)
  | some _,.sl _ _ _ len room _=>uT M G st (some p) 0 fun l=>uT M G st (some q) 0 fun h=>uT M G st (some r) 0 fun m=>M.chk (l<=h/\h<=m/\m<=max len room) (k .top)
  | _,_=>M.bad
 | _=>M.bad
theorem yB(ok:P4 M hd){t:TypeId}{x p q r:Operand}(hT:TabOk P T)(ho:o.op = .slice t x (some p) (some q) (some r))(h:hd (BP M T G st t x p q r k)):∃ v,hd (k v) /\ ∀ H2,Ext st.heap H2->PureOp G P { st with heap:=H2 } o v:=by
 unfold BP at h;split at h
 ·rename_i e hg;split at h
  ·rename_i ty es tg he hx;have hTS:cH P t e ty.S ty.B ty.z:=⟨(hT.get hg).2,(hT.get he).1⟩
   obtain⟨l,h1,h⟩:=dU ok h;obtain⟨u,h2,h⟩:=dU ok h;obtain⟨m,h3,h⟩:=dU ok h;obtain⟨⟨a1,a2,a3⟩,h⟩:=ok.h_chk h;exact⟨_,h,fun H2 hE=>uy (st:={ st with heap:=H2 }) ho hTS hx (.inl ⟨_,_,rfl,a3⟩) h1 h2 h3 a1 a2⟩
  ·rename_i ty nm sz lo len room tg he hx;have hTS:cH P t e ty.S ty.B ty.z:=⟨(hT.get hg).2,(hT.get he).1⟩
   obtain⟨l,h1,h⟩:=dU ok h;obtain⟨u,h2,h⟩:=dU ok h;obtain⟨m,h3,h⟩:=dU ok h;obtain⟨⟨a1,a2,a3⟩,h⟩:=ok.h_chk h;exact⟨_,h,fun H2 hE=>uy (st:={ st with heap:=H2 }) ho hTS hx (.inr ⟨_,_,_,_,_,_,rfl,a3⟩) h1 h2 h3 a1 a2⟩
  ·exact bX
 ·exact bX
def pW(S:Nat):List (List Int)->Bool
 | []=>true
 | l::r=>Nat.beq l.length S&&pW S r
theorem nG{S:Nat}:∀{l:List (List Int)},pW S l=true->∀ ks,ks∈l->ks.length=S
 | [],_,ks,h=>by cases h
 | a::l,h,ks,hk=>by
  simp only[pW,li]at h;rcases jJ.1 hk with e|e
  ·rw[e];exact waf h.1
  ·exact nG h.2 ks e
def BN(M:Om)(T:Tab)(H:AHeap)(t:Nat)(x y:AV)(cok:Bool)(k:AV->M.W):M.W:=match T.get t with
 | some ⟨_,_,_,_,.map _ et ag S⟩=>match T.get et with
  | some ⟨_,_,_,z,_⟩=>match x,y with
   | .map nm,.d d=>match H.get nm with
    | some (.map es)=>match ym ag d,mZ ag es with
     | some as,some kss=>match Nat.beq as.length S,pW S kss with
      | true,true=>match fD as kss 0 with
       | some j=>match es[j]? with
        | some (_,v)=>match cok with
         | true=>k (.d (.tup [v,.bool true]))
         | false=>k (.d v)
        | none=>M.bad
       | none=>match cok with
        | true=>k (.d (.tup [z,.bool false]))
        | false=>k (.d z)
      | _,_=>M.bad
     | _,_=>M.bad
    | _=>M.bad
   | _,_=>M.bad
  | none=>M.bad
 | _=>M.bad
theorem yz(ok:P4 M hd){t:TypeId}{x y:Operand}{cok:Bool}(hT:TabOk P T)(ho:o.op = .lookup t x y cok)(h:hd (BN M T st.heap t (st.ev G x) (st.ev G y) cok k)):∃ v,hd (k v) /\ ∀ H2,Ext st.heap H2->PureOp G P { st with heap:=H2 } o v:=by
 unfold BN at h;split at h
 ·rename_i kt et ag S hg;obtain⟨hu,hk⟩:=(hT.get hg).2;split at h
  ·rename_i q0 S' B z q1 he;have hE:=(hT.get he).1;split at h
   ·rename_i nm d hx hy;split at h
    ·rename_i es hh;split at h
     ·rename_i as kss has hkss;split at h
      ·rename_i e1 e2;have e1:=waf e1;have e2:=nG e2;split at h
       ·rename_i j hj;split at h
        ·rename_i x' v hv;have hfin:hd (k (if cok then .d (.tup [v,.bool true]) else .d v)):=by cases cok<;>exact h
         exact⟨_,hfin,fun H2 hE2=>oh (st:={ st with heap:=H2 }) ho hu hk hE hx (hE2 _ _ hh) hy has e1 hkss e2 (.inl ⟨j,x',hj,hv,rfl⟩)⟩
        ·exact bX
       ·rename_i hj;have hfin:hd (k (if cok then .d (.tup [z,.bool false]) else .d z)):=by cases cok<;>exact h
        exact⟨_,hfin,fun H2 hE2=>oh (st:={ st with heap:=H2 }) ho hu hk hE hx (hE2 _ _ hh) hy has e1 hkss e2 (.inr ⟨hj,rfl,rfl⟩)⟩
      ·exact bX
     ·exact bX
    ·exact bX
   ·exact bX
  ·exact bX
 ·exact bX
def F3{W:Type}(G:Nat->Option (List D))(st:St)(x:Operand)(k:AV->W):W:=match x with
 | .const (.int kk n)=>k (.d (.int kk n))
 | .const (.bool b)=>k (.d (.bool b))
 | x=>(st.ev G x).force k
theorem FM{W:Type}(G:Nat->Option (List D))(st:St)(x:Operand)(k:AV->W):F3 G st x k=k (st.ev G x):=by
 unfold F3;split
 ·rfl
 ·rfl
 ·exact AV.force_eq _ _
def zC(M:Om)(T:Tab)(G:Nat->Option (List D))(st:St)(o:Oper)(k:AV->M.W):M.W:=match o.op with
 | .move x=>F3 G st x k
 | .assign x=>F3 G st x k
 | .pick c x y=>match st.ev G c with
  | .d (.bool true)=>F3 G st x k
  | .d (.bool false)=>F3 G st y k
  | _=>M.bad
 | .binOp op t x y _=>D6 M T op t (st.ev G x) (st.ev G y) k
 | .unOp op _ x=>vUn M op (st.ev G x) k
 | .load t x=>Qv M T st.heap t (st.ev G x) k
 | .fieldAddr s x i=>qs M T s i (st.ev G x) k
 | .field s x i=>Hn M T s i (st.ev G x) k
 | .extract x i=>xQ M (st.ev G x) i k
 | .indexAddr t x y=>qt M T t (st.ev G x) (st.ev G y) k
 | .index t x y=>Ho M T t (st.ev G x) (st.ev G y) k
 | .slice t x lo hi none=>Hu M T G st t x lo hi k
 | .slice t x none (some q) (some r)=>BO M T t (st.ev G x) (st.ev G q) (st.ev G r) k
 | .slice t x (some p) (some q) (some r)=>BP M T G st t x p q r k
 | .nilCheck x=>D8 M (st.ev G x) k
 | .lookup t x y cok=>BN M T st.heap t (st.ev G x) (st.ev G y) cok k
 | .convert s d x=>match T.get s with
  | some _=>Qs M T d (st.ev G x) k
  | none=>M.bad
 | .makeFunc (.func f) a b=>Qu M G st f a b k
 | .build t ps=>Hm M T G st t ps k
 | .call { callee:=.builtin .len,args:=⟨[x]⟩,argTypes:=tys }=>D7 M T tys[0]? (st.ev G x) k
 | .call { callee:=.builtin .min,args:=⟨[x,y]⟩,argTypes:=_ }=>pm M false (st.ev G x) (st.ev G y) k
 | .call { callee:=.builtin .max,args:=⟨[x,y]⟩,argTypes:=_ }=>pm M true (st.ev G x) (st.ev G y) k
 | _=>M.bad
theorem si(ok:P4 M hd)(hT:TabOk P T)(h:hd (zC M T G st o k)):∃ v,hd (k v) /\ ∀ H2,Ext st.heap H2->PureOp G P { st with heap:=H2 } o v:=by
 have hev:∀(H:AHeap) x,st.ev G x=St.ev G { st with heap:=H } x:=fun H x=>Ns rfl x;unfold zC at h;split at h
 ·rename_i x ho;rw[FM]at h;exact⟨_,h,fun H2 hE=>jM (st:={ st with heap:=H2 }) ho (hev H2 x).symm⟩
 ·rename_i x ho;rw[FM]at h;exact⟨_,h,fun H2 hE=>je (st:={ st with heap:=H2 }) ho (hev H2 x).symm⟩
 ·rename_i c x y ho;split at h
  ·exact qdz
  ·exact qdz
  ·exact bX
 ·rename_i ho;exact Hl ok hT ho h
 ·rename_i ho;exact Lf ok ho h
 ·rename_i ho;exact ES ok hT ho h
 ·rename_i ho;exact tP ok hT ho h
 ·rename_i ho;exact BL ok hT ho h
 ·rename_i ho;exact xR ok ho h
 ·rename_i ho;exact tQ ok hT ho h
 ·rename_i ho;exact BM ok hT ho h
 ·rename_i ho;exact BQ ok hT ho h
 ·rename_i ho;exact yA ok hT ho h
 ·rename_i ho;exact yB ok hT ho h
 ·rename_i ho;exact Ht ok ho h
 ·rename_i ho;exact yz ok hT ho h
 ·rename_i s d x ho;split at h
  ·rename_i ty hg;exact EP ok hT ho (hT.get hg).under h
  ·exact bX
 ·rename_i ho;exact ER ok ho h
 ·rename_i ho;exact BK ok hT ho h
 ·rename_i ho;exact Hp ok hT ho h
 ·rename_i ho;exact Hr ok ho h
 ·rename_i ho;exact Hq ok ho h
 ·exact bX
end Go.AL
