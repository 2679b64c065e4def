import Derived.Test.YtehjjpbpdfnnfaaGreatDoorM08
import Derived.Shelf.Spec.SlicesInsert
import Derived.Shelf.Spec.SlicesInsertGrow
namespace Go.Tz
open Go Go.AL Go.Proofs Go.Shelf
def rnI:Ren:=⟨fun n=>match n with
 | 21=>146
 | 27=>216
 | 28=>217
 | 35=>260
 | 39=>273
 | n=>n,fun n=>match n with
 | 22=>42
 | n=>n,fun n=>n⟩
theorem lays21:Lays2.n21 Pr rnI where
 mixed:=by kernel_rfl
 f21:=by kernel_rfl
 f27:=by kernel_rfl
 f28:=by kernel_rfl
 f35:=by kernel_rfl
 f39:=by kernel_rfl
 t0:=by kernel_rfl
 a0:=fun _=>by kernel_rfl
 z0:=fun _=>by kernel_rfl
 v0:=fun _=>by kernel_rfl
 t3:=by kernel_rfl
 a3:=fun _=>by kernel_rfl
 z3:=fun _=>by kernel_rfl
 v3:=fun _=>by kernel_rfl
 t4:=by kernel_rfl
 a4:=fun _=>by kernel_rfl
 z4:=fun _=>by kernel_rfl
 v4:=fun _=>by kernel_rfl
 t22:=by kernel_rfl
 a22:=fun _=>by kernel_rfl
 z22:=fun _=>by kernel_rfl
 v22:=fun _=>by kernel_rfl
 i3:=by kernel_rfl
end Go.Tz
namespace Go.AL
open Go
variable {G:Nat->Option (List D)}
structure Chg (w w':World) (k:Nat) (cs cs':Array Value):Prop where
 os:w'.os=w.os
 tape:w'.tape=w.tape
 output:w'.output=w.output
 size:w'.heap.size=w.heap.size
 other:∀ j,j≠k->w'.heap[j]?=w.heap[j]?
 at_:∃ e,w.heap[k]?=some (.cells cs e (0,0))/\w'.heap[k]?=some (.cells cs' e (0,0))
 csz:cs'.size=cs.size
theorem Chg.trans {w w' w'':World} {k:Nat} {cs cs' cs'':Array Value} (h:Chg w w' k cs cs') (h2:Chg w' w'' k cs' cs''):Chg w w'' k cs cs'':=by
 refine ⟨h2.os.trans h.os,h2.tape.trans h.tape,h2.output.trans h.output,h2.size.trans h.size,fun j hj=>(h2.other j hj).trans (h.other j hj),?_,h2.csz.trans h.csz⟩
 obtain ⟨e,a,b⟩:=h.at_
 obtain ⟨e',a',b'⟩:=h2.at_
 rw [b] at a'
 cases a'
 exact ⟨e,a,b'⟩
theorem chg_refl {w:World} {k:Nat} {cs:Array Value} {e:TypeId} (h:w.heap[k]?=some (.cells cs e (0,0))):Chg w w k cs cs:=⟨rfl,rfl,rfl,rfl,fun _ _=>rfl,⟨e,h,h⟩,rfl⟩
theorem chg_drew {w:World} {k:Nat} {cs:Array Value} {e:TypeId} (h:w.heap[k]?=some (.cells cs e (0,0))):Chg w w.drew k cs cs:=⟨rfl,rfl,rfl,rfl,fun _ _=>rfl,⟨e,h,h⟩,rfl⟩
theorem chg_cell {w:World} {k o:Nat} {v:Value} {cs:Array Value} {e:TypeId} (h:w.heap[k]?=some (.cells cs e (0,0))):Chg w (w.setCell ⟨k,o,none⟩ v) k cs (cs.setIfInBounds o v):=by
 refine ⟨rfl,rfl,rfl,by simp [World.setCell],fun j hj=>?_,⟨e,h,?_⟩,by simp⟩
 ·simp only [World.setCell,Array.getElem?_modify]
  rw [if_neg (Ne.symm hj)]
 ·simp only [World.setCell,Array.getElem?_modify,if_pos,h]
  rfl
def setL (cs:Array Value):Nat->List Value->Array Value
 | _,[]=>cs
 | o,v::r=>setL (cs.setIfInBounds o v) (o+1) r
theorem chg_cells {k:Nat} {e:TypeId}:∀ (vs:List Value) (o:Nat) (w:World) (cs:Array Value),w.heap[k]?=some (.cells cs e (0,0))->Chg w (w.setCells k o vs) k cs (setL cs o vs)
 | [],_,_,_,h=>chg_refl h
 | v::r,o,w,cs,h=>by
  have h1:=chg_cell (o:=o) (v:=v) h
  obtain ⟨e',a,b⟩:=h1.at_
  rw [h] at a;cases a
  exact h1.trans (chg_cells r (o+1) _ _ b)
theorem setL_size:∀ (vs:List Value) (o:Nat) (cs:Array Value),(setL cs o vs).size=cs.size
 | [],_,_=>rfl
 | v::r,o,cs=>by unfold setL;rw [setL_size r];simp
theorem setL_get:∀ (vs:List Value) (o:Nat) (cs:Array Value) (q:Nat),o+vs.length<=cs.size->(setL cs o vs)[q]?=if o<=q/\q<o+vs.length then vs[q-o]? else cs[q]?
 | [],o,cs,q,_=>by
  unfold setL
  rw [if_neg (fun h=>Nat.lt_irrefl _ (Nat.lt_of_le_of_lt h.1 (by simpa using h.2)))]
 | v::r,o,cs,q,h=>by
  simp only [List.length_cons] at h
  unfold setL
  rw [setL_get r (o+1) _ q (by simp;omega)]
  simp only [List.length_cons]
  by_cases e:q=o
  ·subst e
   rw [if_neg (by omega),if_pos (by omega),Nat.sub_self]
   simp [show q<cs.size by omega]
  ·by_cases c:o+1<=q/\q<o+1+r.length
   ·rw [if_pos c,if_pos (by omega)]
    obtain ⟨d,hd⟩:∃ d,q-o=d+1:=⟨q-o-1,by omega⟩
    rw [hd,List.getElem?_cons_succ]
    congr 1;omega
   ·rw [if_neg c,if_neg (by omega)]
    rw [Array.getElem?_setIfInBounds,if_neg (Ne.symm e)]
theorem renew {C:Ctx} {H:AHeap} {nm nm' k S:Nat} {els els':List (List AV)} {w':World} {cs cs':Array Value} (hH:HRel G C H) (hg:H.get nm=some (.arr S els)) (hb:C.β nm=some k) (hn:¬ C.U nm')
  (hc:Chg C.w w' k cs cs') (hro:¬ C.RO k) (hall:∀ el,el∈els'->el.length=S) (hv:∀ (q:Nat) (v:AV),els'.flatten[q]?=some v->∃ x:Value,cs'[q]?=some x /\ ∀ C'':Ctx,VRel C'' v x) :
  ∃ C':Ctx,C'.w=w'/\C'.β nm'=some k/\C'.U nm'/\HRel G C' ((nm',some (.arr S els'))::(nm,none)::H)/\Tr C.U C H C' ((nm',some (.arr S els'))::(nm,none)::H) /\ ∀ n,C'.U n->C.U n\/n=nm':=by
 obtain ⟨e,at1,at2⟩:=hc.at_
 let C':Ctx:={ U:=fun n=>C.U n\/n=nm',β:=fun n=>if n=nm' then some k else C.β n,RO:=C.RO,w:=w' }
 have hb':C'.β nm'=some k:=by simp [C']
 have hβ:∀ n,n≠nm'->C'.β n=C.β n:=fun n h=>by simp [C',h]
 have himg:∀ n b k',AHeap.get ((nm',some (.arr S els'))::(nm,none)::H) n=some b->C'.β n=some k'->k'<C.w.heap.size->∃ n0 b0,H.get n0=some b0/\C.β n0=some k':=by
  intro n b k' a1 a2 _
  by_cases en:n=nm'
  ·subst en;rw [hb'] at a2;cases a2;exact ⟨nm,_,hg,hb⟩
  ·rw [get_cons_ne _ _ en] at a1
   rw [hβ n en] at a2
   exact ⟨n,b,(get_drop a1).2,a2⟩
 have htr:Tr C.U C H C' ((nm',some (.arr S els'))::(nm,none)::H):={
  os:=hc.os,tape:=hc.tape,output:=hc.output,size:=by show C.w.heap.size<=w'.heap.size;rw [hc.size];exact Nat.le_refl _
  shape:=fun j A t fz' hA=>by
   by_cases hj:j=k
   ·subst hj;rw [at1] at hA;cases hA;exact ⟨cs',(0,0),at2,hc.csz⟩
   ·exact ⟨A,fz',(hc.other j hj).trans hA,rfl⟩
  frame:=fun j hj hnn=>hc.other j fun ej=>hnn nm _ hg (by rw [hb,ej])
  names:=fun n h=>⟨.inl h,hβ n (fun en=>hn (en ▸ h))⟩
  ros:=fun j h=>h
  img:=himg
  rob:=fun _ h _=>.inl h }
 have hbr:BRel C' nm' (.arr S els'):=brel_arr_mk hb' at2 hro hall fun q v hq=>by
  obtain ⟨x,h1,h2⟩:=hv q v hq
  exact ⟨x,h1,h2 C'⟩
 refine ⟨C',rfl,hb',.inr rfl,⟨?_,?_,?_,?_⟩,htr,fun n h=>h⟩
 ·intro n b hgn
  by_cases en:n=nm'
  ·subst en;rw [get_cons_same] at hgn;cases hgn;exact ⟨.inr rfl,hbr⟩
  ·rw [get_cons_ne _ _ en] at hgn
   obtain ⟨en2,hgn⟩:=get_drop hgn
   obtain ⟨hU2,hB2⟩:=hH.blk n b hgn
   refine ⟨.inl hU2,brel_later hH htr hU2 hB2 fun j hj=>⟨hc.other j (fun ej=>en2 ?_),fun hro2=>hH.ro_apart hro2 n b hgn hj⟩⟩
   exact hH.inj n nm b _ k hgn hg (ej ▸ hj) hb
 ·intro n n' b1 b2 j a1 a2 e1 e2
  have old:∀ n b,AHeap.get ((nm',some (.arr S els'))::(nm,none)::H) n=some b->n≠nm'->n≠nm/\H.get n=some b:=fun n b h en=>by
   rw [get_cons_ne _ _ en] at h;exact get_drop h
  by_cases en:n=nm'
  ·by_cases en':n'=nm'
   ·rw [en,en']
   ·obtain ⟨f1,f2⟩:=old n' b2 a2 en'
    rw [hβ n' en'] at e2
    rw [en,hb'] at e1;cases e1
    exact absurd (hH.inj n' nm b2 _ k f2 hg e2 hb) f1
  ·obtain ⟨f1,f2⟩:=old n b1 a1 en
   rw [hβ n en] at e1
   by_cases en':n'=nm'
   ·rw [en',hb'] at e2;cases e2
    exact absurd (hH.inj n nm b1 _ k f2 hg e1 hb) f1
   ·obtain ⟨f3,f4⟩:=old n' b2 a2 en'
    rw [hβ n' en'] at e2
    exact hH.inj n n' b1 b2 j f2 f4 e1 e2
 ·intro j hj
  have:=hH.ro j hj
  show j<w'.heap.size
  rw [hc.size];exact this
 ·intro g ds hgd;exact (hH.glob g ds hgd).later htr hH
structure Nw (w w':World) (cs':Array Value):Prop where
 os:w'.os=w.os
 tape:w'.tape=w.tape
 output:w'.output=w.output
 size:w'.heap.size=w.heap.size+1
 old:∀ j,j<w.heap.size->w'.heap[j]?=w.heap[j]?
 at_:∃ e,w'.heap[w.heap.size]?=some (.cells cs' e (0,0))
theorem nw_alloc (w:World) (cs:Array Value) (e:TypeId):Nw w (w.alloc (.cells cs e)) cs:=by
 refine ⟨rfl,rfl,rfl,by simp,fun j hj=>?_,⟨e,?_⟩⟩
 ·show (w.heap.push _)[j]?=_
  rw [Array.getElem?_push,if_neg (by omega)]
 ·show (w.heap.push _)[w.heap.size]?=_
  simp
theorem nw_drew {w w':World} {cs:Array Value} (h:Nw w.drew w' cs):Nw w w' cs:=⟨h.os,h.tape,h.output,h.size,h.old,h.at_⟩
theorem Nw.chg {w w' w'':World} {cs cs':Array Value} (h:Nw w w' cs) (h2:Chg w' w'' w.heap.size cs cs'):Nw w w'' cs':=by
 obtain ⟨e,_,b⟩:=h2.at_
 exact ⟨h2.os.trans h.os,h2.tape.trans h.tape,h2.output.trans h.output,h2.size.trans h.size,fun j hj=>(h2.other j (by omega)).trans (h.old j hj),⟨e,b⟩⟩
theorem made2 {C:Ctx} {H:AHeap} {nm' S:Nat} {els':List (List AV)} {w':World} {cs':Array Value} (hH:HRel G C H) (hn:¬ C.U nm')
  (hc:Nw C.w w' cs') (hall:∀ el,el∈els'->el.length=S) (hv:∀ (q:Nat) (v:AV),els'.flatten[q]?=some v->∃ x:Value,cs'[q]?=some x /\ ∀ C'':Ctx,VRel C'' v x) :
  ∃ C':Ctx,C'.w=w'/\C'.β nm'=some C.w.heap.size/\C'.U nm'/\HRel G C' ((nm',some (.arr S els'))::H)/\Tr C.U C H C' ((nm',some (.arr S els'))::H) /\ ∀ n,C'.U n->C.U n\/n=nm':=by
 obtain ⟨e,at2⟩:=hc.at_
 let C':Ctx:={ U:=fun n=>C.U n\/n=nm',β:=fun n=>if n=nm' then some C.w.heap.size else C.β n,RO:=C.RO,w:=w' }
 have hb':C'.β nm'=some C.w.heap.size:=by simp [C']
 have hβ:∀ n,n≠nm'->C'.β n=C.β n:=fun n h=>by simp [C',h]
 have htr:Tr C.U C H C' ((nm',some (.arr S els'))::H):={
  os:=hc.os,tape:=hc.tape,output:=hc.output,size:=by show C.w.heap.size<=w'.heap.size;rw [hc.size];omega
  shape:=fun j A t fz' hA=>⟨A,fz',(hc.old j (heap_lt hA)).trans hA,rfl⟩
  frame:=fun j hj _=>hc.old j hj
  names:=fun n h=>⟨.inl h,hβ n (fun en=>hn (en ▸ h))⟩
  ros:=fun j h=>h
  img:=fun n b k' a1 a2 h3=>by
   by_cases en:n=nm'
   ·subst en;rw [hb'] at a2;cases a2;omega
   ·rw [get_cons_ne _ _ en] at a1
    rw [hβ n en] at a2
    exact ⟨n,b,a1,a2⟩
  rob:=fun _ h _=>.inl h }
 have hro:¬ C'.RO C.w.heap.size:=fun h=>by
  have:=hH.ro _ h
  omega
 have hbr:BRel C' nm' (.arr S els'):=brel_arr_mk hb' at2 hro hall fun q v hq=>by
  obtain ⟨x,h1,h2⟩:=hv q v hq
  exact ⟨x,h1,h2 C'⟩
 have fresh:∀ n b,H.get n=some b->C.β n≠some C.w.heap.size:=fun n b h e=>by
  have:=brel_lt (hH.blk n b h).2 e
  omega
 refine ⟨C',rfl,hb',.inr rfl,⟨?_,?_,?_,?_⟩,htr,fun n h=>h⟩
 ·intro n b hgn
  by_cases en:n=nm'
  ·subst en;rw [get_cons_same] at hgn;cases hgn;exact ⟨.inr rfl,hbr⟩
  ·rw [get_cons_ne _ _ en] at hgn
   obtain ⟨hU2,hB2⟩:=hH.blk n b hgn
   exact ⟨.inl hU2,brel_later hH htr hU2 hB2 fun j hj=>⟨hc.old j (brel_lt hB2 hj),fun hro2=>hH.ro_apart hro2 n b hgn hj⟩⟩
 ·intro n n' b1 b2 j a1 a2 e1 e2
  by_cases en:n=nm'
  ·by_cases en':n'=nm'
   ·rw [en,en']
   ·rw [get_cons_ne _ _ en'] at a2
    rw [hβ n' en'] at e2
    rw [en,hb'] at e1;cases e1
    exact absurd e2 (fresh n' b2 a2)
  ·rw [get_cons_ne _ _ en] at a1
   rw [hβ n en] at e1
   by_cases en':n'=nm'
   ·rw [en',hb'] at e2;cases e2
    exact absurd e1 (fresh n b1 a1)
   ·rw [get_cons_ne _ _ en'] at a2
    rw [hβ n' en'] at e2
    exact hH.inj n n' b1 b2 j a1 a2 e1 e2
 ·intro j hj
  have:=hH.ro j hj
  show j<w'.heap.size
  rw [hc.size];omega
 ·intro g ds hgd;exact (hH.glob g ds hgd).later htr hH
end Go.AL
namespace Go.Tz
open Go Go.AL Go.Proofs Go.Shelf
variable {G:Nat->Option (List D)}
abbrev numsB (l:List Int):Blk:=dblk 1 (l.map fun x=>[iD x])
theorem numsB_flat (l:List Int):((l.map fun x=>[iD x]).map fun el=>el.map AV.d).flatten=l.map fun x=>AV.d (iD x):=by
 induction l with
 | nil=>rfl
 | cons a l ih=>simp only [List.map_cons,List.flatten_cons,ih];rfl
theorem numsB_len (l:List Int):∀ el,el∈(l.map fun x=>[iD x]).map (fun el=>el.map AV.d)->el.length=1:=by
 intro el h
 obtain ⟨y,hy,rfl⟩:=List.mem_map.1 h
 obtain ⟨x,_,rfl⟩:=List.mem_map.1 hy
 rfl
theorem vrel_int {C:Ctx} {i:Int} {x:Value} (h:VRel C (.d (iD i)) x):x = .int .i64 i:=by
 have:=vrel_d h
 cases this
 rfl
theorem int_vrel (C:Ctx) (i:Int):VRel C (.d (iD i)) (.int .i64 i):=.d _ _ (.int _ _)
def insL (l:List Int) (i:Nat) (x:Int):List Int:=l.take i++x::l.drop i
theorem insL_len {l:List Int} {i:Nat} {x:Int} (h:i<=l.length):(insL l i x).length=l.length+1:=by
 simp [insL];omega
theorem insL_get {l:List Int} {i:Nat} {x:Int} (h:i<=l.length) (q:Nat):(insL l i x)[q]?=if q<i then l[q]? else if q=i then some x else l[q-1]?:=by
 unfold insL
 by_cases a:q<i
 ·rw [if_pos a,List.getElem?_append_left (by simp;omega),List.getElem?_take_of_lt a]
 ·rw [if_neg a,List.getElem?_append_right (by simp;omega),List.length_take,Nat.min_eq_left h]
  by_cases b:q=i
  ·rw [if_pos b,b,Nat.sub_self];rfl
  ·rw [if_neg b]
   obtain ⟨d,hd⟩:∃ d,q-i=d+1:=⟨q-i-1,by omega⟩
   rw [hd,List.getElem?_cons_succ,List.getElem?_drop]
   congr 1;omega
theorem chk146:chkFn Tryz.f146=true:=by kernel_rfl
theorem isFn146:IsFn Pr 146:=isFn_of Tryz.func146 chk146
theorem cell_of {w:World} {k:Nat} {cs:Array Value} {e:TypeId} {fz:Nat × Nat} (h:w.heap[k]?=some (.cells cs e fz)) (q:Nat):w.cell? ⟨k,q,none⟩=cs[q]?:=by
 unfold World.cell?;rw [h];rfl
theorem frozen_of {w:World} {k:Nat} {cs:Array Value} {e:TypeId} (h:w.heap[k]?=some (.cells cs e (0,0))) (q:Nat):w.frozen? ⟨k,q,none⟩=false:=by
 unfold World.frozen?;rw [h];simp
theorem shape_of {w:World} {k:Nat} {cs:Array Value} {e:TypeId} {fz:Nat × Nat} (h:w.heap[k]?=some (.cells cs e fz)):w.shape? k=some (e,cs.size):=by
 unfold World.shape?;rw [h]
theorem ints_rel {l:List Int} {cs':Array Value} (h:∀ (q:Nat) (v:Int),l[q]?=some v->cs'[q]?=some (.int .i64 v)):∀ (q:Nat) (v:AV),((l.map fun x=>[iD x]).map fun el=>el.map AV.d).flatten[q]?=some v->∃ x:Value,cs'[q]?=some x /\ ∀ C'':Ctx,VRel C'' v x:=by
 intro q v hq
 rw [numsB_flat,List.getElem?_map] at hq
 obtain ⟨a,ha,rfl⟩:=Option.map_eq_some_iff.1 hq
 exact ⟨_,h q a ha,fun C''=>int_vrel C'' a⟩
theorem arr3 {vs:Array Value} (h:vs.size=3):vs = #[vs.getD 0 undef,vs.getD 1 undef,vs.getD 2 undef]:=by
 apply Array.ext
 ·simpa using h
 ·intro i h1 h2
  match i,h1,h2 with
  | 0,_,_=>simp [Array.getD,h]
  | 1,_,_=>simp [Array.getD,h]
  | 2,_,_=>simp [Array.getD,h]
theorem insert146 {nm nv n0 i r:Nat} {l:List Int} (x:Int) (hi:i<=l.length) (hbig:l.length<=1000) (hne:nm≠nv) (hr63:r<=9223372036854775807) :
  ACall Pr G 146 [.sl nm 1 0 l.length r true,.d (iD i),.sl nv 1 0 1 1 true] [(nm,some (numsB l)),(nv,some (.arr 1 [[.d (iD x)]]))] n0
   fun v H n=>∃ r':Nat,l.length+1<=r'/\r'<=9223372036854775807/\v = .sl n0 1 0 (l.length+1) r' true/\H=[(n0,some (numsB (insL l i x)))]/\n=n0+1:=by
 intro C vs hH hU hsz hr
 have hn:¬ C.U n0:=fun h=>Nat.lt_irrefl _ (hU n0 h)
 have r0:=hr 0 _ rfl
 have r1:=vrel_int (hr 1 _ rfl)
 have r2:=hr 2 _ rfl
 rw [arr3 (vs:=vs) (by simpa using hsz),r1]
 have hgv:AHeap.get [(nm,some (numsB l)),(nv,some (.arr 1 [[.d (iD x)]]))] nv=some (.arr 1 [[.d (iD x)]]):=by rw [get_consI,if_neg (Ne.symm hne),get_consI,if_pos rfl]
 have hgm:AHeap.get [(nm,some (numsB l)),(nv,some (.arr 1 [[.d (iD x)]]))] nm=some (numsB l):=by rw [get_consI,if_pos rfl]
 rcases vrel_sl r2 with ⟨kv,cv,csv,ev,fzv,hUv,hbv,hlv,hrv,htv,hhv,hsv,hx2⟩|⟨_,h,_⟩
 rotate_left
 ·cases h
 obtain ⟨csv0,ev0,hhv0,hrov,_,_,hcsv⟩:=brel_flat (hH.blk nv _ hgv).2 hbv
 rw [hhv] at hhv0;cases hhv0
 have hv0:csv[0]?=some (.int .i64 x):=by
  obtain ⟨y,h1,h2⟩:=hcsv 0 (.d (iD x)) rfl
  rw [h1,vrel_int h2]
 have hvs:∀ j v,[Value.int .i64 x][j]?=some v->C.w.cell? ⟨kv,0*1+j,none⟩=some v:=fun j v hj=>by
  match j,hj with
  | 0,hj=>cases hj;rw [cell_of hhv];exact hv0
 have h1v:∀ v∈[Value.int .i64 x],v.oneCell'=true:=fun v hv=>by rw [List.mem_singleton.1 hv];rfl
 have h1c:∀ v∈l.map fun y=>Value.int .i64 y,v.oneCell'=true:=fun v hv=>by
  obtain ⟨y,_,rfl⟩:=List.mem_map.1 hv;rfl
 have hnf:∀ el,el∈((insL l i x).map fun x=>[iD x]).map (fun el=>el.map AV.d)->el.length=1:=numsB_len _
 have fin2:∀ (w':World) (cs':Array Value) (c':Nat),Nw C.w w' cs'->(∀ (q:Nat) (v:Int),(insL l i x)[q]?=some v->cs'[q]?=some (.int .i64 v))->l.length+1<=c'->c'<=cs'.size->c'<=9223372036854775807 ->
   ∃ y v H' nx' C',(Ending.returned (.slice (some ⟨C.w.heap.size,0,none⟩) (l.length+1) c'):Ending) = .returned y/\C'.w=w'/\(∃ r':Nat,l.length+1<=r'/\r'<=9223372036854775807/\v=AV.sl n0 1 0 (l.length+1) r' true/\H'=[(n0,some (numsB (insL l i x)))]/\nx'=n0+1)/\VRel C' v y/\HRel G C' H'/\(∀ m,C'.U m->m<nx')/\Tr C.U C [(nm,some (numsB l)),(nv,some (.arr 1 [[.d (iD x)]]))] C' H':=by
  intro w' cs' c' hc hq h1 h2 h63
  obtain ⟨C',e1,e2,e3,e4,e5,e6⟩:=made2 (S:=1) hH hn hc hnf (ints_rel hq)
  obtain ⟨e,at2⟩:=hc.at_
  refine ⟨_,_,_,_,C',rfl,e1,⟨c',h1,h63,rfl,rfl,rfl⟩,?_,hrel_dropS e4 ?_,fun m hm=>?_,e5.anti ?_⟩
  ·have:=VRel.sl (C:=C') n0 1 0 (l.length+1) c' true C.w.heap.size c' cs' e (0,0) e3 e2 h1 (Nat.le_refl _) (fun _=>rfl) (by rw [e1];exact at2) (by simpa using h2)
   simpa using this
  ·intro a b hab
   rw [get_consI] at hab
   by_cases ea:a=n0
   ·rw [if_pos ea] at hab;rw [get_consI,if_pos ea];exact hab
   ·rw [if_neg ea] at hab;cases hab
  ·rcases e6 m hm with h|h
   ·have:=hU m h;omega
   ·omega
  ·intro a b hab
   rw [get_consI] at hab
   by_cases ea:a=n0
   ·rw [if_pos ea] at hab;rw [get_consI,if_pos ea];exact hab
   ·rw [if_neg ea] at hab;cases hab
 have hxg:C.w.drew.heap.size=C.w.heap.size:=rfl
 have gr:=grownCap_ge C.w
 -- a new row at the end
 have endG:∀ (base:Option Addr) (c:Nat) (ws:List Value),l.length<=c->c<l.length+1->(base=none->l.length=0)->ws=l.map (fun y=>Value.int .i64 y)->(∀ a,base=some a->∀ j v,ws[j]?=some v->C.w.cell? (a.add j)=some v)->i=l.length ->
   Calls Pr 146 #[.slice base l.length c,.int .i64 (i:Int),.slice (some ⟨kv,0*1,none⟩) 1 cv] C.w fun e w'=>∃ y v H' nx' C',e = .returned y/\C'.w=w'/\(∃ r':Nat,l.length+1<=r'/\r'<=9223372036854775807/\v=AV.sl n0 1 0 (l.length+1) r' true/\H'=[(n0,some (numsB (insL l i x)))]/\nx'=n0+1)/\VRel C' v y/\HRel G C' H'/\(∀ m,C'.U m->m<nx')/\Tr C.U C [(nm,some (numsB l)),(nv,some (.arr 1 [[.d (iD x)]]))] C' H':=by
  intro base c ws h1 h2 h3 h4 h5 hil
  subst hil
  refine (Any2.slices_Insert_int_end_grow lays21 base l.length c kv (0*1) 1 cv ws [.int .i64 x] C.w (by decide) h1 h2 (by omega) (by rw [h4];simp) rfl h3 h5 hvs h1v).mono ?_
  rintro e w' ⟨rfl,rfl⟩
  have hg2:=gr (l.length+1) c (rnI.t 3)
  have hg3:=grownCap_le_maxLen C.w (l.length+1) c (rnI.t 3) (by unfold maxLen;omega)
  generalize grownCap C.w (l.length+1) c (rnI.t 3)=cap at hg2 hg3 ⊢
  refine fin2 _ _ cap (nw_drew (nw_alloc C.w.drew _ _)) (fun q v hq=>?_) hg2 ?_ ?_
  ·rw [insL_get (Nat.le_refl _)] at hq
   by_cases a:q<l.length
   ·rw [if_pos a] at hq
    rw [Array.getElem?_append_left (by simp [h4];omega)]
    rw [h4]
    simp only [List.getElem?_toArray]
    rw [List.getElem?_append_left (by simpa using a),List.getElem?_map,hq];rfl
   ·rw [if_neg a] at hq
    by_cases b:q=l.length
    ·rw [if_pos b] at hq
     cases hq
     rw [Array.getElem?_append_left (by simp [h4];omega),h4]
     simp only [List.getElem?_toArray]
     rw [List.getElem?_append_right (by simp;omega),b]
     simp
    ·rw [if_neg b,List.getElem?_eq_none (show l.length<=q-1 by omega)] at hq
     cases hq
  ·simp [h4,Builtin.zeroCells,Value.cells];omega
  ·unfold maxLen at hg3;omega
 rcases vrel_sl r0 with ⟨k,c,cs,e,fz,hUk,hb,hl,hr0,ht,hh,hs,hx0⟩|⟨hUk,hl0,hr0,a0,hx0⟩
 rotate_left
 ·-- the nil slice
  have hl1:l=[]:=List.eq_nil_of_length_eq_zero hl0
  have hi0:i=l.length:=by omega
  have:=endG a0 0 [] (by omega) (by omega) (fun _=>hl0) (by rw [hl1];rfl) (fun a _ j v hj=>by simp at hj) hi0
  have e0:Value.slice a0 0 0 = .slice a0 l.length 0:=by rw [hl0]
  rw [hx0,e0,hx2]
  exact this
 obtain ⟨cs0,e0,hh0,hro,hsz,hcl,hcs⟩:=brel_flat (hH.blk nm _ hgm).2 hb
 rw [hh] at hh0;cases hh0
 have hq0:∀ (q:Nat) (v:Int),l[q]?=some v->cs[q]?=some (.int .i64 v):=fun q v hq=>by
  obtain ⟨y,h1,h2⟩:=hcs q (.d (iD v)) (by rw [numsB_flat,List.getElem?_map,hq];rfl)
  rw [h1,vrel_int h2]
 have hcsv':∀ j v,(l.map fun y=>Value.int .i64 y)[j]?=some v->C.w.cell? ⟨k,0*1+j,none⟩=some v:=fun j v hj=>by
  rw [cell_of hh]
  rw [List.getElem?_map] at hj
  obtain ⟨a,ha,rfl⟩:=Option.map_eq_some_iff.1 hj
  simpa using hq0 j a ha
 have hkk:kv≠k:=fun e=>hne ((hH.inj nv nm _ _ k hgv hgm (by rw [hbv,e]) hb).symm)
 have hsize:c<=cs.size:=by simpa using hs
 have hc63:c<=9223372036854775807:=by rw [ht rfl];exact hr63
 have fin1:∀ (w':World) (cs':Array Value),Chg C.w w' k cs cs'->(∀ (q:Nat) (v:Int),(insL l i x)[q]?=some v->cs'[q]?=some (.int .i64 v))->l.length+1<=c ->
   ∃ y v H' nx' C',(Ending.returned (.slice (some ⟨k,0*1,none⟩) (l.length+1) c):Ending) = .returned y/\C'.w=w'/\(∃ r':Nat,l.length+1<=r'/\r'<=9223372036854775807/\v=AV.sl n0 1 0 (l.length+1) r' true/\H'=[(n0,some (numsB (insL l i x)))]/\nx'=n0+1)/\VRel C' v y/\HRel G C' H'/\(∀ m,C'.U m->m<nx')/\Tr C.U C [(nm,some (numsB l)),(nv,some (.arr 1 [[.d (iD x)]]))] C' H':=by
  intro w' cs' hc hq h1
  obtain ⟨C',e1,e2,e3,e4,e5,e6⟩:=renew (S:=1) hH hgm hb hn hc hro hnf (ints_rel hq)
  obtain ⟨e,_,at2⟩:=hc.at_
  refine ⟨_,_,_,_,C',rfl,e1,⟨c,h1,hc63,rfl,rfl,rfl⟩,?_,hrel_dropS e4 ?_,fun m hm=>?_,e5.anti ?_⟩
  ·have:=VRel.sl (C:=C') n0 1 0 (l.length+1) c true k c cs' e (0,0) e3 e2 h1 (Nat.le_refl _) (fun _=>rfl) (by rw [e1];exact at2) (by rw [hc.csz];simpa using hsize)
   simpa using this
  ·intro a b hab
   rw [get_consI] at hab
   by_cases ea:a=n0
   ·rw [if_pos ea] at hab;rw [get_consI,if_pos ea];exact hab
   ·rw [if_neg ea] at hab;cases hab
  ·rcases e6 m hm with h|h
   ·have:=hU m h;omega
   ·omega
  ·intro a b hab
   rw [get_consI] at hab
   by_cases ea:a=n0
   ·rw [if_pos ea] at hab;rw [get_consI,if_pos ea];exact hab
   ·rw [if_neg ea] at hab;cases hab
 rw [hx0,hx2]
 have hcell:∀ q,q<c->(C.w.cell? ⟨k,q,none⟩).isSome=true:=fun q hq=>by
  rw [cell_of hh];simp;omega
 by_cases hroom:l.length+1<=c
 ·by_cases hil:i=l.length
  ·subst hil
   refine (Any2.slices_Insert_int_end_room lays21 k (0*1) l.length c kv (0*1) 1 cv [.int .i64 x] C.w (by decide) hroom hc63 rfl (fun j hj=>hcell _ (by omega)) (fun j hj=>frozen_of hh _) hvs h1v).mono ?_
   rintro e w' ⟨rfl,rfl⟩
   refine fin1 _ _ (chg_cells _ _ _ _ hh) (fun q v hq=>?_) hroom
   rw [setL_get _ _ _ _ (by simp;omega)]
   rw [insL_get (Nat.le_refl _)] at hq
   by_cases a:q<l.length
   ·rw [if_pos a] at hq
    rw [if_neg (by omega)];exact hq0 q v hq
   ·rw [if_neg a] at hq
    by_cases b:q=l.length
    ·rw [if_pos b] at hq
     cases hq
     rw [if_pos (by simp;omega),b];simp
    ·rw [if_neg b,List.getElem?_eq_none (show l.length<=q-1 by omega)] at hq
     cases hq
  ·refine (Any2.slices_Insert_int_shift lays21 k (0*1) l.length c i kv (0*1) 1 cv (l.map fun y=>Value.int .i64 y) [.int .i64 x] C.w (by omega) (by decide) hroom hc63 hkk (by simp) rfl hcsv' (fun j hj=>hcell _ (by omega)) (fun j hj=>frozen_of hh _) hvs h1c h1v _ _ _ _ (shape_of hhv) (shape_of hh) (by omega) (frozen_of hhv _) (frozen_of hhv _)).mono ?_
   rintro e w' ⟨rfl,rfl⟩
   have h1:=(chg_drew hh).trans (chg_cells ((l.map fun y=>Value.int .i64 y).drop i) (0*1+(i+1)) C.w.drew cs hh)
   obtain ⟨e',_,at2⟩:=h1.at_
   refine fin1 _ _ (h1.trans (chg_cells [.int .i64 x] (0*1+i) _ _ at2)) (fun q v hq=>?_) hroom
   rw [setL_get _ _ _ _ (by rw [setL_size];simp;omega),setL_get _ _ _ _ (by simp;omega)]
   rw [insL_get hi] at hq
   by_cases a:q<i
   ·rw [if_pos a] at hq
    rw [if_neg (by omega),if_neg (by omega)];exact hq0 q v hq
   ·rw [if_neg a] at hq
    by_cases b:q=i
    ·rw [if_pos b] at hq
     cases hq
     rw [if_pos (by simp;omega),b];simp
    ·rw [if_neg b] at hq
     have hlt:=(List.getElem?_eq_some_iff.1 hq).1
     rw [if_neg (by simp;omega),if_pos (by simp;omega),List.getElem?_drop,List.getElem?_map,show i+(q-(0*1+(i+1)))=q-1 by omega,hq];rfl
 ·by_cases hil:i=l.length
  ·refine endG (some ⟨k,0*1,none⟩) c (l.map fun y=>Value.int .i64 y) hl (by omega) (fun h=>by cases h) rfl (fun a ha j v hj=>?_) hil
   cases ha
   have:=hcsv' j v hj
   rw [Addr.add_lit];exact this
  ·refine (Any2.slices_Insert_int_grow lays21 k (0*1) l.length c i kv (0*1) 1 cv (l.map fun y=>Value.int .i64 y) [.int .i64 x] C.w (by omega) (by decide) hl (by omega) (by omega) (by simp) rfl hcsv' hvs h1c h1v).mono ?_
   rintro e w' ⟨rfl,rfl⟩
   have hg2:=gr (l.length+1) c (rnI.t 3)
   have hg3:=grownCap_le_maxLen C.w (l.length+1) c (rnI.t 3) (by unfold maxLen;omega)
   generalize grownCap C.w (l.length+1) c (rnI.t 3)=cap at hg2 hg3 ⊢
   have n1:=nw_alloc C.w (((l.map fun y=>Value.int .i64 y).take i).toArray++Builtin.zeroCells (Value.int .i64 0).cells (l.length+1-i)++Builtin.zeroCells (Value.int .i64 0).cells (cap-(l.length+1))) (rnI.t 3)
   obtain ⟨e1,t1⟩:=n1.at_
   have n2:=n1.chg ((chg_drew t1).trans (chg_cells [.int .i64 x] i _ _ t1))
   obtain ⟨e2,t2⟩:=n2.at_
   have n3:=n2.chg ((chg_drew t2).trans (chg_cells ((l.map fun y=>Value.int .i64 y).drop i) (i+1) _ _ t2))
   have hz:(((l.map fun y=>Value.int .i64 y).take i).toArray++Builtin.zeroCells (Value.int .i64 0).cells (l.length+1-i)++Builtin.zeroCells (Value.int .i64 0).cells (cap-(l.length+1))).size=cap:=by
    simp [Builtin.zeroCells,Value.cells];omega
   refine fin2 _ _ cap n3 (fun q v hq=>?_) hg2 (by rw [setL_size,setL_size,hz];exact Nat.le_refl _) (by unfold maxLen at hg3;omega)
   rw [setL_get _ _ _ _ (by rw [setL_size,hz];simp;omega),setL_get _ _ _ _ (by rw [hz];simp;omega)]
   rw [insL_get hi] at hq
   by_cases a:q<i
   ·rw [if_pos a] at hq
    rw [if_neg (by omega),if_neg (by omega),Array.getElem?_append_left (by simp;omega),Array.getElem?_append_left (by simp;omega)]
    simp only [List.getElem?_toArray]
    rw [List.getElem?_take_of_lt a,List.getElem?_map,hq];rfl
   ·rw [if_neg a] at hq
    by_cases b:q=i
    ·rw [if_pos b] at hq
     cases hq
     rw [if_neg (by omega),if_pos (by simp;omega),b];simp
    ·rw [if_neg b] at hq
     have hlt:=(List.getElem?_eq_some_iff.1 hq).1
     rw [if_pos (by simp;omega),List.getElem?_drop,List.getElem?_map,show i+(q-(i+1))=q-1 by omega,hq];rfl
end Go.Tz
namespace Go.Tz
open Go Go.AL Go.Proofs
abbrev storeB (bs:List Int) (u:Bool) (nx st:Int):Blk:=.arr 3 [[.d (.sl (bs.map fun b=>[.int .u8 b]) u),.d (iD nx),.d (.int .u32 st)]]
theorem wrap32 (n:Int):IntKind.u32.wrap n=n % 4294967296:=by simp [IntKind.wrap,IntKind.bits,IntKind.signed]
theorem u32_ge (n:Int):0<=IntKind.u32.wrap n:=by rw [wrap32];omega
theorem u32_lt (n:Int):IntKind.u32.wrap n<4294967296:=by rw [wrap32];omega
theorem shr_ge {a b:Int} (h:0<=a):0<=ishr .u32 a b:=by
 unfold ishr
 exact Int.fdiv_nonneg h (by exact_mod_cast Nat.zero_le _)
theorem shr_lt {a b:Int} (h:0<=a) (h2:a<4294967296):ishr .u32 a b<4294967296:=by
 unfold ishr
 have hp:(0:Int)<2^min b.toNat IntKind.u32.bits:=by exact_mod_cast Nat.two_pow_pos _
 rw [Int.fdiv_eq_ediv_of_nonneg _ (Int.le_of_lt hp)]
 exact Int.lt_of_le_of_lt (Int.ediv_le_self _ h) h2
theorem chk147:chkFn Tryz.f147=true:=by kernel_rfl
theorem draw147 (bs:List Int) (u:Bool) (nx:Nat) (st:Int) (n0:Nat) (hnx:nx<4611686018427387904) (hbs:bs.length<=1000) :
  ACall Pr GG 147 [.ptr 0 3 0 0] [(0,some (storeB bs u nx st))] n0 fun v H n=>∃ (x st':Int) (nx':Nat),nx'<=nx+1/\0<=x/\x<4294967296/\v = .d (.int .u32 x)/\H.get 0=some (storeB bs u nx' st'):=by
 refine fn_walk pok Tryz.func147 chk147 ?_
 conv=>whnf
 cases bs with
 | nil =>
  repeat' first|((first|refine LookP.mk _ rfl ?_|refine ShlP.mk _ (by first|(simp only [List.set,over,List.take,List.drop,List.append_eq,List.nil_append,List.cons_append,List.length];rfl)|rfl) ?_|refine And.intro (by first|assumption|exact ⟨by kernel_rfl,rfl⟩|decide|omega) ?_|refine HpP.force ?_);conv=>whnf)|(intro t ht;cases t <;> conv=>whnf)
  ·exact fin ⟨_,_,nx,by omega,shr_ge (u32_ge _),shr_lt (u32_ge _) (u32_lt _),rfl,rfl⟩
  ·exact absurd ht (by decide)
 | cons b bs =>
  have hmd:(nx:Int).tmod ((((b::bs).map fun b=>[D.int IntKind.u8 b]).length:Nat):Int)=((nx % (bs.length+1):Nat):Int):=by
   rw [Int.tmod_eq_emod_of_nonneg (by omega),List.length_map];rfl
  have hlt:nx % (bs.length+1)<bs.length+1:=Nat.mod_lt _ (by omega)
  have hget:∃ y:Int,((b::bs).map fun b=>[D.int IntKind.u8 b])[((nx % (bs.length+1):Nat):Int).toNat]?=some [D.int IntKind.u8 y]:=by
   refine ⟨(b::bs)[nx % (bs.length+1)]'(by simpa using hlt),?_⟩
   rw [Int.toNat_natCast,List.getElem?_map,List.getElem?_eq_getElem (by simpa using hlt)];rfl
  obtain ⟨y,hget⟩:=hget
  have hne:((((b::bs).map fun b=>[D.int IntKind.u8 b]).length:Nat):Int)≠0:=by simp only [List.length_map,List.length_cons];omega
  have hgt:decide (((((b::bs).map fun b=>[D.int IntKind.u8 b]).length:Nat):Int)>0)=true:=decide_eq_true (by simp only [List.length_map,List.length_cons];omega)
  have hln:((b::bs).map fun b=>[D.int IntKind.u8 b]).length=bs.length+1:=by simp
  have e1:iadd .i64 (nx:Int) 1=((nx+1:Nat):Int):=iadd_nat (b:=1) (by omega)
  generalize nx % (bs.length+1)=m at hmd hlt hget
  repeat' first|((first|refine LookP.mk _ (by first|rfl|exact hget) ?_|refine ShlP.mk _ (by first|(simp only [List.set,over,List.take,List.drop,List.append_eq,List.nil_append,List.cons_append,List.length];rfl)|rfl) ?_|refine And.intro (by first|exact hne|exact ⟨Int.natCast_nonneg _,by rw [hln];omega⟩|assumption|exact ⟨by kernel_rfl,rfl⟩|decide|omega) ?_|refine knownB hgt ?_|rw [hmd]|rw [e1]|refine HpP.force ?_);conv=>whnf)
  exact fin ⟨_,_,nx+1,Nat.le_refl _,u32_ge _,u32_lt _,rfl,rfl⟩
structure SC {ι:Type} (f:FuncId) (args:List D) (bs:List Int) (u:Bool) (cnt n0:Nat) (dof:ι->D) (Q:ι->Prop):Prop where
 fn:IsFn Pr f
 call:∀ (nx:Nat) (st:Int),nx+cnt<=4611686018427387904->ACall Pr GG f (.ptr 0 3 0 0::args.map .d) [(0,some (storeB bs u nx st))] n0 fun v H n=>∃ (i:ι) (st':Int) (nx':Nat),nx'<=nx+cnt/\Q i/\v = .d (dof i)/\H=[(0,some (storeB bs u nx' st'))]/\n=n0
variable {ι:Type} {f:FuncId} {args:List D} {bs:List Int} {u:Bool} {cnt n0:Nat} {dof:ι->D} {Q:ι->Prop}
theorem sc_mk (hf:IsFn Pr f) (hn:0<n0)
  (h:∀ (nx:Nat) (st:Int),nx+cnt<=4611686018427387904->ACall Pr GG f (.ptr 0 3 0 0::args.map .d) [(0,some (storeB bs u nx st))] n0 fun v H _=>∃ (i:ι) (st':Int) (nx':Nat),nx'<=nx+cnt/\Q i/\v = .d (dof i)/\H.get 0=some (storeB bs u nx' st')):SC f args bs u cnt n0 dof Q:=by
 refine ⟨hf,fun nx st hb=>acall_sub (h nx st hb) ?_⟩
 rintro v H n ⟨i,st',nx',h1,h2,rfl,h4⟩
 refine ⟨.d (dof i),[(0,some (storeB bs u nx' st'))],n0,?_,i,st',nx',h1,h2,rfl,rfl,rfl⟩
 exact keep_env (Nat.le_refl _) ⟨⟨rfl,rfl⟩,trivial⟩ ⟨⟨hn,_,rfl,h4,below_arr rfl⟩,trivial⟩ trivial
theorem sc_use {nx0 nx:Nat} {st:Int} {H:AHeap} {k:AV->AHeap->Nat->Prop} (h:SC f args bs u cnt n0 dof Q) (hn:nx0<=n0) (hb:nx+cnt<=4611686018427387904)
  (hg:H.get 0=some (storeB bs u nx st)) (hk:∀ (i:ι) (st':Int) (nx':Nat),nx'<=nx+cnt->Q i->k (.d (dof i)) ((0,some (storeB bs u nx' st'))::H) n0):CallVC Pr GG f (.ptr 0 3 0 0::args.map .d) H nx0 k:=by
 refine ⟨h.fn,acall_frame (h.call nx st hb) hn (fun m b hm=>?_) ?_⟩
 ·rw [get_consI] at hm
  by_cases e:m=0
  ·rw [if_pos e] at hm;rw [e,hg,hm]
  ·rw [if_neg e] at hm;cases hm
 ·rintro v H1 n ⟨d,st',nx',h1,h2,rfl,rfl,rfl⟩
  refine ⟨_,fun m b hm=>?_,hk d st' nx' h1 h2⟩
  rw [get_consI] at hm
  by_cases e:m=0
  ·rw [if_pos e] at hm;left;rw [get_consI,if_pos e,hm]
  ·rw [if_neg e] at hm
   right
   exact ⟨by rw [get_consI,if_neg e];rfl,hm⟩
theorem sc147 (bs:List Int) (u:Bool) (n0:Nat) (hn:0<n0) (hbs:bs.length<=1000):SC 147 [] bs u 1 n0 (fun x:Int=>.int .u32 x) fun x=>0<=x/\x<4294967296 :=
 sc_mk (isFn_of Tryz.func147 chk147) hn fun nx st hb=>acall_mono (draw147 bs u nx st n0 (by omega) hbs) fun v H n ⟨x,st',nx',h1,h2,h3,h4,h5⟩=>⟨x,st',nx',h1,⟨h2,h3⟩,h4,h5⟩
theorem chk71:chkFn Tryz.f71=true:=by kernel_rfl
theorem less_val {x:Int} {m:Nat} (x0:0<=x) (x1:x<4294967296) (hm:0<m):∃ y:Nat,y<m/\(IntKind.i64.wrap (ishr .u32 x 4)).tmod m=y:=by
 have h1:=shr_ge (b:=4) x0
 have h2:=shr_lt (b:=4) x0 x1
 generalize ishr .u32 x 4=z at h1 h2
 have e:IntKind.i64.wrap z=z:=by rw [IntKind.wrap_i64];omega
 refine ⟨(z % m).toNat,?_,?_⟩
 ·have:=Int.emod_lt_of_pos z (show (0:Int)<m by omega)
  have:=Int.emod_nonneg z (show (m:Int)≠0 by omega)
  omega
 ·rw [e,Int.tmod_eq_emod_of_nonneg h1]
  have:=Int.emod_nonneg z (show (m:Int)≠0 by omega)
  omega
theorem sc71 (bs:List Int) (u:Bool) (n0 m:Nat) (hn:0<n0) (hbs:bs.length<=1000) (hm:0<m):SC 71 [iD m] bs u 1 n0 (fun y:Nat=>iD y) fun y=>y<m:=by
 have c1:=sc147 bs u n0 hn hbs
 have hgt:decide ((m:Int)<=0)=false:=decide_eq_false (by omega)
 refine sc_mk (isFn_of Tryz.func71 chk71) hn fun nx st hb=>?_
 refine fn_walk pok Tryz.func71 chk71 ?_
 conv=>whnf
 repeat' first|(refine knownB hgt ?_;conv=>whnf)
 refine sc_use c1 (Nat.le_refl _) hb rfl ?_
 intro x st' nx' h1 hx
 obtain ⟨y,y1,y2⟩:=less_val hx.1 hx.2 hm
 conv=>whnf
 repeat' first|((first|refine And.intro (by first|exact (by omega:(m:Int)≠0)|assumption|exact ⟨by kernel_rfl,rfl⟩|decide|omega) ?_|fail);conv=>whnf)|fail
 exact fin ⟨y,st',nx',h1,y1,congrArg (fun n=>AV.d (iD n)) y2,rfl⟩
theorem chk63:chkFn Tryz.f63=true:=by kernel_rfl
theorem sc63 (bs:List Int) (u:Bool) (n0 m:Nat) (hn:0<n0) (hbs:bs.length<=1000) (hm:0<m) (hm2:m<1000000):SC 63 [iD 1,iD m] bs u 1 n0 (fun y:Nat=>iD y) fun y=>1<=y/\y<=m:=by
 have c1:=sc71 bs u n0 m hn hbs hm
 have e1:iadd .i64 (isub .i64 (m:Int) 1) 1=(m:Int):=by rw [isub_eq (by omega) (by omega),iadd_eq (by omega) (by omega)];omega
 refine sc_mk (isFn_of Tryz.func63 chk63) hn fun nx st hb=>?_
 refine fn_walk pok Tryz.func63 chk63 ?_
 conv=>whnf
 repeat' first|(rw [e1];conv=>whnf)
 refine sc_use c1 (Nat.le_refl _) hb rfl ?_
 intro y st' nx' h1 hy
 have e2:iadd .i64 1 (y:Int)=((1+y:Nat):Int):=iadd_nat (a:=1) (by omega)
 conv=>whnf
 skip
 exact fin ⟨1+y,st',nx',h1,⟨by omega,by omega⟩,congrArg (fun n=>AV.d (iD n)) e2,rfl⟩
end Go.Tz
namespace Go.AL
open Go
theorem acall_freeze1 {P:Program} {G:Nat->Option (List D)} {f:FuncId} {args:List AV} {H0:AHeap} {n0:Nat} {K K':AV->AHeap->Nat->Prop} (h:ACall P G f args H0 n0 K) (hK:∀ v H n,K v H n->∃ nm b d,H.get nm=some b/\AsD [(nm,some b)] v d/\K' (.d d) (dels [nm] H) n):ACall P G f args H0 n0 K':=by
 intro C vs hH hU hl hr
 refine (h C vs hH hU hl hr).mono ?_
 rintro e w' ⟨x,v,H',n,C',rfl,rfl,hk,hv,hHR,hU',hT⟩
 obtain ⟨nm,b,d,hg,ha,hk'⟩:=hK v H' n hk
 obtain ⟨C2,e1,e2,e3,g,tt,r,q⟩:=hrel_freezes [nm] hHR
 have hHL:HRel G C' [(nm,some b)]:=hrel_dropS hHR fun m bl h=>by
  by_cases em:m=nm
  ·subst em;rw [get_cons_same] at h;rw [hg,<- h]
  ·rw [get_cons_ne _ _ em] at h;cases h
 have hd:DRel C2.w C2.RO d x:=by
  have:=asD_relR hHL (RO:=C2.RO) r (fun m bl j h1 h2=>by
   by_cases em:m=nm
   ·subst em;exact q m _ j (by simp) hg h2
   ·rw [get_cons_ne _ _ em] at h1;cases h1) ha x hv
  rw [e1];exact this
 exact ⟨x,.d d,_,n,C2,rfl,e1,hk',.d _ _ hd,g,fun m hm=>hU' m (by rw [<- e2];exact hm),tr_step hT tt⟩
end Go.AL
namespace Go.Tz
open Go Go.AL Go.Proofs Go.Shelf
theorem insert146n {G:Nat->Option (List D)} {nv n0:Nat} (x:Int):ACall Pr G 146 [.d (.sl [] true),.d (iD 0),.sl nv 1 0 1 1 true] [(nv,some (.arr 1 [[.d (iD x)]]))] n0
   fun v H n=>∃ r':Nat,1<=r'/\r'<=9223372036854775807/\v = .sl n0 1 0 1 r' true/\H=[(n0,some (numsB [x]))]/\n=n0+1:=by
 intro C vs hH hU hsz hr
 have hn:¬ C.U n0:=fun h=>Nat.lt_irrefl _ (hU n0 h)
 have r0:=vrel_d (hr 0 _ rfl)
 have r1:=vrel_int (hr 1 _ rfl)
 have r2:=hr 2 _ rfl
 rw [arr3 (vs:=vs) (by simpa using hsz),r1]
 have hgv:AHeap.get [(nv,some (Blk.arr 1 [[.d (iD x)]]))] nv=some (.arr 1 [[.d (iD x)]]):=by rw [get_consI,if_pos rfl]
 rcases vrel_sl r2 with ⟨kv,cv,csv,ev,fzv,hUv,hbv,hlv,hrv,htv,hhv,hsv,hx2⟩|⟨_,h,_⟩
 rotate_left
 ·cases h
 obtain ⟨csv0,ev0,hhv0,hrov,_,_,hcsv⟩:=brel_flat (hH.blk nv _ hgv).2 hbv
 rw [hhv] at hhv0;cases hhv0
 have hv0:csv[0]?=some (.int .i64 x):=by
  obtain ⟨y,h1,h2⟩:=hcsv 0 (.d (iD x)) rfl
  rw [h1,vrel_int h2]
 have hvs:∀ j v,[Value.int .i64 x][j]?=some v->C.w.cell? ⟨kv,0*1+j,none⟩=some v:=fun j v hj=>by
  match j,hj with
  | 0,hj=>cases hj;rw [cell_of hhv];exact hv0
 have h1v:∀ v∈[Value.int .i64 x],v.oneCell'=true:=fun v hv=>by rw [List.mem_singleton.1 hv];rfl
 have hbase:∃ a c,vs.getD 0 undef = .slice a 0 c/\c=0:=by
  generalize vs.getD 0 undef=y at r0
  cases r0 with
  | sl0 _ a c ht=>exact ⟨a,c,rfl,ht rfl⟩
  | sl _ _ b o c sz ws hro hc ht hsz hm hr=>exact ⟨_,c,rfl,ht rfl⟩
 obtain ⟨a,c,ha,hc0⟩:=hbase
 subst hc0
 rw [ha,hx2]
 refine (Any2.slices_Insert_int_end_grow lays21 a 0 0 kv (0*1) 1 cv [] [.int .i64 x] C.w (by decide) (Nat.le_refl 0) (by decide) (by decide) rfl rfl (fun _=>rfl) (fun a _ j v hj=>by simp at hj) hvs h1v).mono ?_
 rintro e w' ⟨rfl,rfl⟩
 have hg2:=grownCap_ge C.w (0+1) 0 (rnI.t 3)
 have hg3:=grownCap_le_maxLen C.w (0+1) 0 (rnI.t 3) (by unfold maxLen;omega)
 generalize grownCap C.w (0+1) 0 (rnI.t 3)=cap at hg2 hg3 ⊢
 have hc:=nw_drew (nw_alloc C.w.drew (([]++[Value.int .i64 x]).toArray++Builtin.zeroCells (Value.int .i64 0).cells (cap-(0+1))) (rnI.t 3))
 have hq:∀ (q:Nat) (v:Int),[x][q]?=some v->(([]++[Value.int .i64 x]).toArray++Builtin.zeroCells (Value.int .i64 0).cells (cap-(0+1)))[q]?=some (.int .i64 v):=fun q v hq=>by
  match q,hq with
  | 0,hq=>cases hq;rw [Array.getElem?_append_left (by simp)];rfl
 obtain ⟨C',e1,e2,e3,e4,e5,e6⟩:=made2 (S:=1) hH hn hc (numsB_len [x]) (ints_rel hq)
 obtain ⟨e,at2⟩:=hc.at_
 have hsize:cap<=(([]++[Value.int .i64 x]).toArray++Builtin.zeroCells (Value.int .i64 0).cells (cap-(0+1))).size:=by
  simp [Builtin.zeroCells,Value.cells];omega
 refine ⟨_,_,_,_,C',rfl,e1,⟨cap,hg2,by unfold maxLen at hg3;omega,rfl,rfl,rfl⟩,?_,hrel_dropS e4 ?_,fun m hm=>?_,e5.anti ?_⟩
 ·have:=VRel.sl (C:=C') n0 1 0 1 cap true C.w.heap.size cap _ e (0,0) e3 e2 hg2 (Nat.le_refl _) (fun _=>rfl) (by rw [e1];exact at2) (by simpa using hsize)
  simpa using this
 ·intro a b hab
  rw [get_consI] at hab
  by_cases ea:a=n0
  ·rw [if_pos ea] at hab;rw [get_consI,if_pos ea];exact hab
  ·rw [if_neg ea] at hab;cases hab
 ·rcases e6 m hm with h|h
  ·have:=hU m h;omega
  ·omega
 ·intro a b hab
  rw [get_consI] at hab
  by_cases ea:a=n0
  ·rw [if_pos ea] at hab;rw [get_consI,if_pos ea];exact hab
  ·rw [if_neg ea] at hab;cases hab
end Go.Tz
namespace Go.Tz
open Go Go.AL Go.Proofs
theorem ins_use {nm nv nx0 i r:Nat} {H:AHeap} {l:List Int} {x:Int} {k:AV->AHeap->Nat->Prop} (hi:i<=l.length) (hbig:l.length<=1000) (hne:nm≠nv) (hr63:r<=9223372036854775807) (hg:H.get nm=some (numsB l)) (hgv:H.get nv=some (.arr 1 [[.d (iD x)]]))
  (hk:∀ r':Nat,l.length+1<=r'->r'<=9223372036854775807->k (.sl nx0 1 0 (l.length+1) r' true) ((nx0,some (numsB (insL l i x)))::(nm,none)::(nv,none)::H) (nx0+1)) :
  CallVC Pr GG 146 [.sl nm 1 0 l.length r true,.d (iD i),.sl nv 1 0 1 1 true] H nx0 k:=by
 refine ⟨isFn146,acall_frame (insert146 (n0:=nx0) x hi hbig hne hr63) (Nat.le_refl _) (fun m b hm=>?_) ?_⟩
 ·rw [get_consI,get_consI] at hm
  by_cases e:m=nm
  ·rw [if_pos e] at hm;rw [e,hg,hm]
  ·rw [if_neg e] at hm
   by_cases e2:m=nv
   ·rw [if_pos e2] at hm;rw [e2,hgv,hm]
   ·rw [if_neg e2] at hm;cases hm
 ·rintro v H1 n ⟨r',h1,h2,rfl,rfl,rfl⟩
  refine ⟨_,fun m b hm=>?_,hk r' h1 h2⟩
  rw [get_consI] at hm
  by_cases e:m=nx0
  ·rw [if_pos e] at hm;left;rw [get_consI,if_pos e,hm]
  ·rw [if_neg e] at hm
   right
   obtain ⟨a1,hm⟩:=get_drop hm
   obtain ⟨a2,hm⟩:=get_drop hm
   exact ⟨by rw [get_consI,if_neg a1,get_consI,if_neg a2];rfl,hm⟩
theorem ins_useL {nm nv nx0 i r n:Nat} {H:AHeap} {l:List Int} {x:Int} {k:AV->AHeap->Nat->Prop} (hl:l.length=n) (hi:i<=n) (hbig:n<=1000) (hne:nm≠nv) (hr63:r<=9223372036854775807) (hg:H.get nm=some (numsB l)) (hgv:H.get nv=some (.arr 1 [[.d (iD x)]]))
  (hk:∀ r':Nat,n+1<=r'->r'<=9223372036854775807->k (.sl nx0 1 0 (n+1) r' true) ((nx0,some (numsB (insL l i x)))::(nm,none)::(nv,none)::H) (nx0+1)) :
  CallVC Pr GG 146 [.sl nm 1 0 n r true,.d (iD i),.sl nv 1 0 1 1 true] H nx0 k:=by
 subst hl
 exact ins_use hi hbig hne hr63 hg hgv hk
theorem insn_use {nv nx0:Nat} {H:AHeap} {x:Int} {k:AV->AHeap->Nat->Prop} (hgv:H.get nv=some (.arr 1 [[.d (iD x)]]))
  (hk:∀ r':Nat,1<=r'->r'<=9223372036854775807->k (.sl nx0 1 0 1 r' true) ((nx0,some (numsB [x]))::(nv,none)::H) (nx0+1)) :
  CallVC Pr GG 146 [.d (.sl [] true),.d (iD 0),.sl nv 1 0 1 1 true] H nx0 k:=by
 refine ⟨isFn146,acall_frame (insert146n (n0:=nx0) x) (Nat.le_refl _) (fun m b hm=>?_) ?_⟩
 ·rw [get_consI] at hm
  by_cases e2:m=nv
  ·rw [if_pos e2] at hm;rw [e2,hgv,hm]
  ·rw [if_neg e2] at hm;cases hm
 ·rintro v H1 n ⟨r',h1,h2,rfl,rfl,rfl⟩
  refine ⟨_,fun m b hm=>?_,hk r' h1 h2⟩
  rw [get_consI] at hm
  by_cases e:m=nx0
  ·rw [if_pos e] at hm;left;rw [get_consI,if_pos e,hm]
  ·rw [if_neg e] at hm
   right
   obtain ⟨a2,hm⟩:=get_drop hm
   exact ⟨by rw [get_consI,if_neg a2];rfl,hm⟩
def Ord (n:Nat) (l:List Int):Prop:=l.length=n/\l.Nodup /\ ∀ x,x∈l->0<=x/\x<n
theorem ord_ins {n i:Nat} {l:List Int} (h:Ord n l) (hi:i<=n):Ord (n+1) (insL l i n):=by
 obtain ⟨h1,h2,h3⟩:=h
 have hp:(insL l i (n:Int)).Perm ((n:Int)::l):=by
  unfold insL
  refine List.perm_middle.trans ?_
  rw [List.take_append_drop]
 refine ⟨by rw [insL_len (by omega),h1],hp.nodup_iff.2 (List.nodup_cons.2 ⟨fun hm=>?_,h2⟩),fun x hx=>?_⟩
 ·have:=(h3 _ hm).2;omega
 ·rcases List.mem_cons.1 (hp.mem_iff.1 hx) with rfl|q
  ·exact ⟨by omega,by omega⟩
  ·have:=h3 x q;exact ⟨this.1,by omega⟩
theorem chk70:chkFn Tryz.f70=true:=by kernel_rfl
abbrev stOr (bs:List Int) (u:Bool) (n:Nat) (s:Nat × List Int × Nat × Int × Nat):St:=match s.1 with
 | 0=>⟨[(0,.ptr 0 3 0 0),(5,.d (.sl [] true)),(7,.d (iD n)),(8,.d (iD (0:Nat)))],[(0,some (storeB bs u s.2.2.2.2 s.2.2.2.1))],100⟩
 | i+1=>⟨[(0,.ptr 0 3 0 0),(5,.sl 100 1 0 (i+1) s.2.2.1 true),(7,.d (iD n)),(8,.d (iD (i+1:Nat)))],[(0,some (storeB bs u s.2.2.2.2 s.2.2.2.1)),(100,some (numsB s.2.1))],101⟩
theorem order70 (bs:List Int) (u:Bool) (n nx:Nat) (st:Int) (hn0:0<n) (hn:n<=100) (hbs:bs.length<=1000) (hb:nx+n<=4611686018427387904) :
  ACall Pr GG 70 [.ptr 0 3 0 0,.d (iD n)] [(0,some (storeB bs u nx st))] 100 fun v H _=>∃ (l:List Int) (t:Bool) (st':Int) (nx':Nat),nx'<=nx+n/\Ord n l/\v = .d (intsD l t)/\H.get 0=some (storeB bs u nx' st'):=by
 refine acall_mono (acall_freeze1 (K':=fun v H _=>∃ (l:List Int) (t:Bool) (st':Int) (nx':Nat),nx'<=nx+n/\Ord n l/\v = .d (intsD l t)/\H.get 0=some (storeB bs u nx' st')) (K:=fun v H _=>∃ (l:List Int) (r:Nat) (st':Int) (nx':Nat),nx'<=nx+n/\Ord n l/\0<n/\v = .sl 100 1 0 n r true/\H.get 0=some (storeB bs u nx' st')/\H.get 100=some (numsB l)) ?_ ?_) fun _ _ _ h=>h
 ·refine fn_walk pok Tryz.func70 chk70 ?_
  conv=>whnf
  skip
  refine loop_use2 (σ:={ s:Nat × List Int × Nat × Int × Nat // s.1<=n/\Ord s.1 s.2.1/\s.2.2.1<=9223372036854775807/\s.2.2.2.2<=nx+s.1 }) (fun s=>stOr bs u n s.1) (fun s=>n-s.1.1) ⟨(0,[],0,st,nx),Nat.zero_le _,⟨rfl,List.nodup_nil,fun x hx=>by cases hx⟩,Nat.zero_le _,Nat.le_refl _⟩ ?_ (by kernel_rfl) ?_
  ·refine keep_env (by first|exact Nat.zero_le _|exact Nat.le_of_ble_eq_true rfl) ?_ ?_ trivial
   ·repeat' first|exact trivial|refine ⟨⟨by first|rfl|assumption,rfl⟩,?_⟩
   ·repeat' first|exact trivial|refine ⟨⟨ltB rfl,_,rfl,by first|rfl|assumption,by first|exact below1 rfl|exact below_dblk _ _ _|exact below_arr rfl⟩,?_⟩
  ·rintro ⟨⟨i,l,r,st',nx'⟩,h1,h2,h3,h4⟩ A hA
   dsimp only at h1 h2 h3 h4 hA ⊢
   have e1:iadd .i64 (i:Int) 1=((i+1:Nat):Int):=iadd_nat (b:=1) (by omega)
   cases i with
   | zero =>
    have c1:=sc71 bs u 101 1 (by decide) hbs (by decide)
    conv=>whnf
    repeat' first|(intro t ht;cases t <;> conv=>whnf)
    ·exfalso;simp at ht;omega
    have e0:iadd .i64 ((0:Nat):Int) 1=((1:Nat):Int):=rfl
    rw [e0]
    refine sc_use (nx:=nx') (st:=st') c1 (by decide) (by omega) rfl ?_
    intro y st2 nx2 g1 g2
    obtain rfl:y=0:=by omega
    conv=>whnf
    repeat' first|((first|refine ShlP.mk _ (by first|(simp only [List.set,over,List.take,List.drop,List.append_eq,List.nil_append,List.cons_append,List.length];rfl)|rfl) ?_|fail);conv=>whnf)|fail
    refine insn_use rfl ?_
    intro r' r1 r2
    conv=>whnf
    skip
    refine hA _ ⟨(1,[((0:Nat):Int)],r',st2,nx2),by omega,ord_ins (n:=0) (i:=0) ⟨rfl,List.nodup_nil,fun x hx=>by cases hx⟩ (Nat.le_refl 0),r2,by show nx2<=nx+1;omega⟩ ?_ (by show n-1<n-0;omega)
    first|refine ren_env [(100,102)] ?_ ?_ ?_ trivial|refine ren_envB [(100,102)] rfl rfl ?_ ?_ ?_ trivial
    ·repeat' first|exact trivial|refine ⟨⟨by first|rfl|assumption|exact congrArg (fun n=>AV.d (iD n)) e0,rfl⟩,?_⟩
    ·repeat' first|exact trivial|refine ⟨⟨ltB rfl,_,rfl,by first|rfl|assumption|exact get_ren rfl (by first|rfl|assumption|exact get_ren rfl rfl)|exact get_ren rfl rfl,by first|exact below1 rfl|exact below_dblk _ _ _|exact below_arr rfl⟩,?_⟩
    ·repeat' first|exact trivial|(refine And.intro ?_ ?_)|(exact fun _=>rfl)|(exact fun h=>absurd h (Nat.ne_of_beq_eq_false rfl))
   | succ i =>
    have c1:=sc71 bs u 101 (i+1+1) (by decide) hbs (by omega)
    have hl:l.length=i+1:=h2.1
    conv=>whnf
    repeat' first|(intro t ht;cases t <;> conv=>whnf)
    ·have hin:i+1=n:=by
      have:=of_decide_eq_false ht
      omega
     subst hin
     exact fin ⟨l,r,st',nx',h4,h2,hn0,rfl,rfl,rfl⟩
    have hlt:i+1<n:=by
     have:=of_decide_eq_true ht
     omega
    rw [e1]
    refine sc_use (nx:=nx') (st:=st') c1 (by decide) (by omega) rfl ?_
    intro y st2 nx2 g1 g2
    conv=>whnf
    repeat' first|((first|refine ShlP.mk _ (by first|(simp only [List.set,over,List.take,List.drop,List.append_eq,List.nil_append,List.cons_append,List.length];rfl)|rfl) ?_|fail);conv=>whnf)|fail
    refine ins_useL hl (by omega) (by omega) (by decide) h3 rfl rfl ?_
    intro r' r1 r2
    conv=>whnf
    skip
    refine hA _ ⟨(i+1+1,insL l y ((i+1:Nat):Int),r',st2,nx2),hlt,ord_ins h2 (by omega),r2,by show nx2<=nx+(i+1+1);omega⟩ ?_ (by show n-(i+1+1)<n-(i+1);omega)
    first|refine ren_env [(100,102)] ?_ ?_ ?_ trivial|refine ren_envB [(100,102)] rfl rfl ?_ ?_ ?_ trivial
    ·repeat' first|exact trivial|refine ⟨⟨by first|rfl|assumption|exact congrArg (fun n=>AV.d (iD n)) e1,rfl⟩,?_⟩
    ·repeat' first|exact trivial|refine ⟨⟨ltB rfl,_,rfl,by first|rfl|assumption|exact get_ren rfl (by first|rfl|assumption|exact get_ren rfl (by rw [ren_dblk]))|exact get_ren rfl (by rw [ren_dblk]),by first|exact below1 rfl|exact below_dblk _ _ _|exact below_arr rfl⟩,?_⟩
    ·repeat' first|exact trivial|(refine And.intro ?_ ?_)|(exact fun _=>rfl)|(exact fun h=>absurd h (Nat.ne_of_beq_eq_false rfl))
 ·rintro v H m ⟨l,r,st',nx',h1,h2,h3,rfl,g0,g1⟩
  have hd:AHeap.get (dels [100] H) 0=some (storeB bs u nx' st'):=by
   show (AHeap.del H 100).get 0=_
   rw [get_del,if_neg (by decide)];exact g0
  refine ⟨100,_,intsD l (true&&decide (r=n)),g1,?_,l,_,st',nx',h1,h2,rfl,hd⟩
  have:=asD_pre (H:=[(100,some (numsB l))]) (nm:=100) (sz:=1) (l:=l.map fun x=>[iD x]) (len:=n) (room:=r) (t:=true) rfl (by rw [List.length_map,h2.1];exact Nat.le_refl _)
  rwa [List.take_of_length_le (by rw [List.length_map,h2.1];exact Nat.le_refl _)] at this
end Go.Tz
namespace Go.Tz
open Go Go.AL Go.Proofs
theorem sc70 (bs:List Int) (u:Bool) (n:Nat) (hn0:0<n) (hn:n<=100) (hbs:bs.length<=1000):SC 70 [iD n] bs u n 100 (fun p:List Int × Bool=>intsD p.1 p.2) fun p=>Ord n p.1 :=
 sc_mk (isFn_of Tryz.func70 chk70) (by decide) fun nx st hb=>acall_mono (order70 bs u n nx st hn0 hn hbs hb) fun _ _ _ ⟨l,t,st',nx',h1,h2,h3,h4⟩=>⟨(l,t),st',nx',h1,h2,h3,h4⟩
theorem chk140:chkFn Tryz.f140=true:=by kernel_rfl
theorem ar140 (k:Int):PC Pr GG 140 [iD k] (iD (arI k)):=by
 refine pc_walk pok Tryz.func140 chk140 ?_
 conv=>whnf
 repeat' first|(intro t ht;cases t <;> conv=>whnf)
 all_goals refine fin ?_
 all_goals refine fiI ?_
 all_goals simp at *
 all_goals first|exact (ari1 (by omega)).symm|exact (ari2 (by omega)).symm|exact (ari3 (by omega)).symm|exact (ari0 (by omega)).symm
def cfL:List Int:=[1,2,3,4,5,6,9,10,11]
abbrev cfD:D:=.sl (cfL.map fun k=>[iD k]) false
structure GtOk (w:Nat) (g:Gt):Prop where
 chk:gchk g w 0=0
 kind:kindB g.k=true
 len:g.ws.length<=2
 i0:g.i=0
theorem gt_ok {w a:Nat} {k:Int} {l:List Int} {t:Bool} (ho:Ord w l) (hk:kindB k=true) (ha:arI k=a) (haw:a<=w):GtOk w ⟨k,l.take a,t,0,0⟩:=by
 obtain ⟨h1,h2,h3⟩:=ho
 have hk':=of_decide_eq_true hk
 have ha2:a=1\/a=2:=by
  rcases hk' with q|q
  ·rw [ari1 (by omega)] at ha;omega
  ·rw [ari2 q] at ha;omega
 have hlen:(l.take a).length=a:=by rw [List.length_take,h1];omega
 refine ⟨?_,hk,by show (l.take a).length<=2;omega,rfl⟩
 unfold gchk
 dsimp only
 rw [if_neg (by omega),if_neg (by rw [hlen,ha];simp)]
 have ho:outB w (l.take a)=false:=List.any_eq_false.2 fun x hx=>by
  have:=h3 x (List.mem_of_mem_take hx)
  simp;omega
 have hd:dupB (l.take a)=false:=dupB_no fun j hj=>by
  rw [dupAt_lt hj]
  refine decide_eq_false fun hm=>?_
  obtain ⟨i,hi,he⟩:=List.mem_take_iff_getElem.1 hm
  have hnd:(l.take a).Nodup:=h2.sublist (List.take_sublist _ _)
  exact List.pairwise_iff_getElem.1 hnd i j (by omega) hj (by omega) he
 rw [ho,hd,if_neg (by decide),if_neg (by decide)]
 unfold bitE
 dsimp only
 rw [if_neg (by omega),if_neg (by omega)]
theorem cf_get {y:Nat} (h:y<9):∃ k:Int,(cfL.map fun k=>[iD k])[(y:Int).toNat]?=some [iD k]/\kindB k=true /\ ∃ a:Nat,arI k=a/\a<=2:=by
 have:((List.range 9).all fun y=>match cfL[y]? with
  | some k=>kindB k&&(decide (arI k=1)||decide (arI k=2))
  | none=>false)=true:=by kernel_rfl
 have hy:=List.all_eq_true.1 this y (List.mem_range.2 h)
 split at hy
 ·rename_i k hk
  simp only [Bool.and_eq_true,Bool.or_eq_true,decide_eq_true_eq] at hy
  refine ⟨k,by rw [Int.toNat_natCast,List.getElem?_map,hk];rfl,hy.1,?_⟩
  rcases hy.2 with q|q
  ·exact ⟨1,q,by decide⟩
  ·exact ⟨2,q,by decide⟩
 ·cases hy
theorem ints_len (l:List Int):∀ el:List D,el∈(l.map fun x=>[iD x])->el.length=1:=fun el h=>by
 obtain ⟨x,_,rfl⟩:=List.mem_map.1 h;rfl
theorem chk65:chkFn Tryz.f65=true:=by kernel_rfl
theorem sc65 (bs:List Int) (u:Bool) (w:Nat) (hw:1<=w/\w<=12) (hbs:bs.length<=1000):SC 65 [iD w,cfD] bs u 13 90 Gt.d fun g=>GtOk w g:=by
 have c1:=sc71 bs u 91 9 (by decide) hbs (by decide)
 have c2:=sc70 bs u w (by omega) (by omega) hbs
 refine sc_mk (isFn_of Tryz.func65 chk65) (by decide) fun nx st hb=>?_
 refine fn_walk pok Tryz.func65 chk65 ?_
 conv=>whnf
 skip
 refine sc_use (nx:=nx) (st:=st) c1 (by decide) (by omega) rfl ?_
 intro y st1 nx1 g1 g2
 obtain ⟨k,k1,k2,a,k3,k4⟩:=cf_get g2
 have c3:=ar140 k
 rw [k3] at c3
 conv=>whnf
 repeat' first|((first|refine LookP.mk _ (by first|rfl|exact k1) ?_|(refine And.intro (by first|exact ⟨Int.natCast_nonneg _,by simp only [List.length_map];show _<((9:Nat):Int);omega⟩|assumption|exact ⟨by kernel_rfl,rfl⟩|decide|omega) ?_)|refine pc_use c3 ?_);conv=>whnf)|(intro t ht;cases t <;> conv=>whnf)
 ·have hw2:a<=w:=by
   have:=of_decide_eq_false ht
   omega
  refine sc_use (nx:=nx1) (st:=st1) c2 (by decide) (by omega) rfl ?_
  rintro ⟨l,t⟩ st2 nx2 g3 g4
  dsimp only at g4 ⊢
  have hsl:(0<=(a:Int).toNat/\(a:Int).toNat<=(l.map fun x=>[iD x]).length /\ ∀ el:List D,el∈(l.map fun x=>[iD x])->el.length=1):=⟨Nat.zero_le _,by rw [List.length_map,g4.1];omega,ints_len l⟩
  have hsE:(l.map fun x=>[iD x]).take ((a:Int).toNat-0)=(l.take a).map fun x=>[iD x]:=by rw [Int.toNat_natCast,Nat.sub_zero,List.map_take]
  conv=>whnf
  repeat' first|((first|refine LookP.mk _ rfl ?_|refine ShlP.mk _ (by first|(simp only [List.set,over,List.take,List.drop,List.append_eq,List.nil_append,List.cons_append,List.length];rfl)|rfl) ?_|refine And.intro (by first|exact hsl|assumption|exact ⟨by kernel_rfl,rfl⟩|decide|omega) ?_|refine pc_use c3 ?_|rw [hsE]|refine HpP.force ?_);conv=>whnf)
  exact fin ⟨⟨k,l.take a,_,0,0⟩,st2,nx2,by omega,gt_ok g4 k2 k3 hw2,rfl,rfl⟩
 ·have c4:PC Pr GG 140 [iD 1] (iD (1:Nat)):=ar140 1
  refine sc_use (nx:=nx1) (st:=st1) c2 (by decide) (by omega) rfl ?_
  rintro ⟨l,t⟩ st2 nx2 g3 g4
  dsimp only at g4 ⊢
  have hsl:(0<=((1:Nat):Int).toNat/\((1:Nat):Int).toNat<=(l.map fun x=>[iD x]).length /\ ∀ el:List D,el∈(l.map fun x=>[iD x])->el.length=1):=⟨Nat.zero_le _,by rw [List.length_map,g4.1];omega,ints_len l⟩
  have hsE:(l.map fun x=>[iD x]).take (((1:Nat):Int).toNat-0)=(l.take 1).map fun x=>[iD x]:=by rw [Int.toNat_natCast,Nat.sub_zero,List.map_take]
  conv=>whnf
  repeat' first|((first|refine LookP.mk _ rfl ?_|refine ShlP.mk _ (by first|(simp only [List.set,over,List.take,List.drop,List.append_eq,List.nil_append,List.cons_append,List.length];rfl)|rfl) ?_|refine And.intro (by first|exact hsl|assumption|exact ⟨by kernel_rfl,rfl⟩|decide|omega) ?_|refine pc_use c4 ?_|rw [hsE]|refine HpP.force ?_);conv=>whnf)
  exact fin ⟨⟨1,l.take 1,_,0,0⟩,st2,nx2,by omega,gt_ok (a:=1) g4 rfl rfl (by omega),rfl,rfl⟩
end Go.Tz
namespace Go.Tz
open Go Go.AL Go.Proofs
abbrev ksC (w m i:Nat):List (Nat × AV):=[(0,.ptr 0 3 0 0),(1,.d (iD w)),(3,.d cfD),(8,.ptr 80 3 0 0),(9,.ptr 81 3 0 0),(15,.d (iD m)),(16,.d (iD i))]
abbrev r80:Blk:=.arr 3 [[.d (iD 0),.d (iD 0),.d (.sl [] true)]]
abbrev c81 (w nm i:Nat):Blk:=.arr 3 [[.d (iD w),.d (iD 0),.sl nm 4 0 i i false]]
def valC (w i:Nat) (g:Gt):Nat->AV
 | 0=>.ptr 81 3 0 (0+2)
 | 1=>.sl 82 4 0 i i false
 | 2=>.ptr 0 3 0 0
 | 3=>.d (iD w)
 | 4=>.d cfD
 | 5=>.d g.d
 | 6=>.sl 90 4 0 1 1 true
 | 7=>.sl 91 4 0 (i+1) (i+1) false
 | _=>.ptr 81 3 0 (0+2)
structure SS (bs:List Int) (u:Bool) (w m i nx:Nat) (st:Int) (gs:List Gt) (g:Gt) (nx':Nat) (st':Int) (L:Nat->Bool) (s:St):Prop where
 kp:∀ t v,(t,v)∈ksC w m i->lk s.env t=v
 hr:s.heap.get 80=some r80
 c0:L 9=false->s.heap.get 81=some (c81 w 82 i)
 c1:L 9=true->s.heap.get 81=some (c81 w 91 (i+1))
 s0:L 5=false->s.heap.get 0=some (storeB bs u nx st)/\s.nx=83
 s1:L 5=true->s.heap.get 0=some (storeB bs u nx' st')
 n5:L 5=true->L 6=false->s.nx=90
 n6:L 6=true->L 7=false->s.nx=91
 n7:L 7=true->s.nx=92
 o6:L 6=true->L 5=true
 o7:L 7=true->L 6=true/\L 1=true
 o9:L 9=true->L 7=true
 g82:L 7=false->s.heap.get 82=some (dblk 4 (gs.map Gt.l))
 b90:L 6=true->s.heap.get 90=some (.arr 4 [g.l.map AV.d])
 b91:L 7=true->s.heap.get 91=some (dblk 4 ((gs++[g]).map Gt.l))
 v:∀ j,j<9->L j=true->lk s.env (18+j)=valC w i g j
variable {bs:List Int} {u:Bool} {w m i nx nx':Nat} {st st':Int} {gs:List Gt} {g:Gt}
theorem ks_lt {t:Nat} {v:AV} (h:(t,v)∈ksC w m i):t<18:=by
 simp only [ksC,List.mem_cons,Prod.mk.injEq,List.not_mem_nil,or_false] at h
 omega
theorem ss_put {L:Nat->Bool} {s:St} {a:Nat} {v:AV} (h:SS bs u w m i nx st gs g nx' st' L s) (ha:a<9) (h5:a≠5) (h6:a≠6) (h7:a≠7) (hv:valC w i g a=v):SS bs u w m i nx st gs g nx' st' (fun j=>if j=a then true else L j) (s.put (some (18+a)) v):=by
 subst hv
 have e5:(if 5=a then true else L 5)=L 5:=if_neg (Ne.symm h5)
 have e6:(if 6=a then true else L 6)=L 6:=if_neg (Ne.symm h6)
 have e7:(if 7=a then true else L 7)=L 7:=if_neg (Ne.symm h7)
 have e9:(if 9=a then true else L 9)=L 9:=if_neg (by omega)
 refine ⟨fun t v hm=>?_,h.hr,?_,?_,?_,?_,?_,?_,?_,?_,?_,?_,?_,?_,?_,fun j hj hl=>?_⟩ <;> (try simp only [e5,e6,e7,e9])
 ·have:=ks_lt hm
  rw [lk_put_ne (by omega)]
  exact h.kp t v hm
 ·exact h.c0
 ·exact h.c1
 ·exact h.s0
 ·exact h.s1
 ·exact h.n5
 ·exact h.n6
 ·exact h.n7
 ·exact h.o6
 ·exact fun q=>⟨(h.o7 q).1,by by_cases e:1=a <;> simp [e,(h.o7 q).2]⟩
 ·exact h.o9
 ·exact h.g82
 ·exact h.b90
 ·exact h.b91
 ·by_cases e:j=a
  ·subst e;exact lk_cons_same _ _ _
  ·rw [lk_put_ne (by omega)]
   simp only [if_neg e] at hl
   exact h.v j hj hl
noncomputable def opsC:Array Oper:=(Tryz.f139.body.bind (findReg 4)).getD #[]
theorem regC (hw:1<=w/\w<=12) (hbs:bs.length<=1000) (hnx:nx+13<=4611686018427387904) (hl:gs.length=i) (hi:i<=1000) {s0:St} (S0:SS bs u w m i nx st gs g nx' st' (fun _=>false) s0) {k:Exit->St->Prop}
  (hk:∀ L s' g nx' st',GtOk w g->nx'<=nx+13->SS bs u w m i nx st gs g nx' st' L s'->(∀ a,a<10->L a=true)->∃ st'',Sub GG 80 [] s' st''/\k .normal st''):RegVC Pr GG Tryz.f139.ntmps 80 [] 4 opsC s0 k:=by
 refine ⟨fun r=>awp_any pok.mixed (edgeB_ok (by kernel_rfl)) (fun L s=>∃ g nx' st',(L 5=true->GtOk w g/\nx'<=nx+13)/\SS bs u w m i nx st gs g nx' st' L s) ⟨g,nx',st',⟨fun h=>(nomatch h),S0⟩⟩ ?_ ?_⟩
 ·rintro L s a op ⟨g,nx',st',hg,hS⟩ hL ho hall
  have ha:a<10:=(Array.getElem?_eq_some_iff.1 ho).1
  have v:=hS.v
  have T65:=pok.tab.get (t:=65) rfl
  have T63:=pok.tab.get (t:=63) rfl
  have T67:=pok.tab.get (t:=67) rfl
  have keep:∀ {c:Nat},c≠5->((if 5=c then true else L 5)=true->GtOk w g/\nx'<=nx+13):=fun hc h=>hg (by rwa [if_neg (Ne.symm hc)] at h)
  have cases10:a=0\/a=1\/a=2\/a=3\/a=4\/a=5\/a=6\/a=7\/a=8\/a=9:=by omega
  rcases cases10 with rfl|rfl|rfl|rfl|rfl|rfl|rfl|rfl|rfl|rfl
  all_goals
   have ho:=Option.some.inj (show some _=some op from ho)
   subst ho
   refine ⟨rfl,?_⟩
  ·exact opwp_pure (fun c h=>by cases h) (pure_fieldAddr rfl (T65.fld rfl rfl) (hS.kp 9 _ (List.mem_of_getElem? (i:=4) rfl))) rfl ⟨g,nx',st',keep (by decide),ss_put hS (a:=0) (by decide) (by decide) (by decide) (by decide) rfl⟩
  ·have q:=v 0 (by decide) (hall ⟨0,.data⟩ (Array.mem_of_getElem? (i:=0) rfl) rfl)
   have h9:L 9=false:=by
    cases h:L 9 with
    | false=>rfl
    | true=>exact absurd (hS.o7 (hS.o9 h)).2 (by rw [hL];decide)
   exact opwp_pure (fun c h=>by cases h) (pure_load rfl T63.tok (fun _=>rfl) q (hS.c0 h9) rfl rfl rfl) rfl ⟨g,nx',st',keep (by decide),ss_put hS (a:=1) (by decide) (by decide) (by decide) (by decide) rfl⟩
  ·exact opwp_pure (fun c h=>by cases h) (pure_move rfl (hS.kp 0 _ (List.mem_of_getElem? (i:=0) rfl))) rfl ⟨g,nx',st',keep (by decide),ss_put hS (a:=2) (by decide) (by decide) (by decide) (by decide) rfl⟩
  ·exact opwp_pure (fun c h=>by cases h) (pure_move rfl (hS.kp 1 _ (List.mem_of_getElem? (i:=1) rfl))) rfl ⟨g,nx',st',keep (by decide),ss_put hS (a:=3) (by decide) (by decide) (by decide) (by decide) rfl⟩
  ·exact opwp_pure (fun c h=>by cases h) (pure_move rfl (hS.kp 3 _ (List.mem_of_getElem? (i:=2) rfl))) rfl ⟨g,nx',st',keep (by decide),ss_put hS (a:=4) (by decide) (by decide) (by decide) (by decide) rfl⟩
  ·have q2:=v 2 (by decide) (hall ⟨2,.data⟩ (Array.mem_of_getElem? (i:=0) rfl) rfl)
   have q3:=v 3 (by decide) (hall ⟨3,.data⟩ (Array.mem_of_getElem? (i:=1) rfl) rfl)
   have q4:=v 4 (by decide) (hall ⟨4,.data⟩ (Array.mem_of_getElem? (i:=2) rfl) rfl)
   obtain ⟨e0,enx⟩:=hS.s0 hL
   have n6:L 6=false:=by
    cases h:L 6 with
    | false=>rfl
    | true=>exact absurd (hS.o6 h) (by rw [hL];decide)
   have n7:L 7=false:=by
    cases h:L 7 with
    | false=>rfl
    | true=>exact absurd (hS.o7 h).1 (by rw [n6];decide)
   have n9:L 9=false:=by
    cases h:L 9 with
    | false=>rfl
    | true=>exact absurd (hS.o9 h) (by rw [n7];decide)
   have hc:=sc_use (nx0:=s.nx) (nx:=nx) (st:=st) (H:=s.heap) (k:=fun v H' n'=>∃ g nx' st',((if 5=5 then true else L 5)=true->GtOk w g/\nx'<=nx+13)/\SS bs u w m i nx st gs g nx' st' (fun j=>if j=5 then true else L j) (({ env:=s.env,heap:=H',nx:=n' }:St).put (some 23) v)) (sc65 bs u w hw hbs) (by omega) hnx e0 ?_
   ·obtain ⟨hf,hc⟩:=hc
    refine opwp_call (f:=65) (fi:=[]) (ca:=[]) (l:=[.ptr 0 3 0 0,.d (iD w),.d cfD]) rfl rfl hf ?_ rfl hc
    show []++[lk s.env 20,lk s.env 21,lk s.env 22]++[]=_
    rw [show lk s.env 20=_ from q2,show lk s.env 21=_ from q3,show lk s.env 22=_ from q4];rfl
   ·intro g2 st2 nx2 hb2 hg2
    refine ⟨g2,nx2,st2,fun _=>⟨hg2,hb2⟩,fun t v hm=>?_,(get_cons_ne _ _ (by decide)).trans hS.hr,fun _=>(get_cons_ne _ _ (by decide)).trans (hS.c0 n9),fun h=>absurd (show L 9=true from h) (by rw [n9];decide),fun h=>(nomatch h),fun _=>get_cons_same _ _ _,fun _ _=>rfl,fun h=>absurd (show L 6=true from h) (by rw [n6];decide),fun h=>absurd (show L 7=true from h) (by rw [n7];decide),fun h=>absurd (show L 6=true from h) (by rw [n6];decide),fun h=>absurd (show L 7=true from h) (by rw [n7];decide),fun h=>absurd (show L 9=true from h) (by rw [n9];decide),fun _=>(get_cons_ne _ _ (by decide)).trans (hS.g82 n7),fun h=>absurd (show L 6=true from h) (by rw [n6];decide),fun h=>absurd (show L 7=true from h) (by rw [n7];decide),fun j hj hl=>?_⟩
    ·have:=ks_lt hm
     exact (lk_cons_ne _ _ (by omega)).trans (hS.kp t v hm)
    ·by_cases e:j=5
     ·subst e;exact lk_cons_same _ _ _
     ·simp only [if_neg e] at hl
      refine (lk_cons_ne _ _ (by omega)).trans ((hS.v j hj hl).trans ?_)
      match j,e with
      | 0,_=>rfl
      | 1,_=>rfl
      | 2,_=>rfl
      | 3,_=>rfl
      | 4,_=>rfl
      | 6,_=>rfl
      | 7,_=>rfl
      | j+8,_=>rfl
  ·have q:=v 5 (by decide) (hall ⟨5,.data⟩ (Array.mem_of_getElem? (i:=0) rfl) rfl)
   have l5:L 5=true:=hall ⟨5,.data⟩ (Array.mem_of_getElem? (i:=0) rfl) rfl
   have n7:L 7=false:=by
    cases h:L 7 with
    | false=>rfl
    | true=>exact absurd (hS.o7 h).1 (by rw [hL];decide)
   have n9:L 9=false:=by
    cases h:L 9 with
    | false=>rfl
    | true=>exact absurd (hS.o9 h) (by rw [n7];decide)
   have enx:=hS.n5 l5 hL
   refine opwp_step (k:=1) (fun c hc=>by cases hc) ((step_buildSlice (len:=1) (ps:=#[(0,.tmp 23)]) (nm:=90) (zs:=[.d (iD 0),.d (.sl [] true),.d (iD 0),.d (iD 0)]) (els:=[g.l.map AV.d]) rfl ⟨T63.2,T67.1⟩ rfl rfl (by show fillA [(0*4,4)] _ [(0,lk s.env 23)]=_;rw [show lk s.env 23=_ from q];rfl) (fun el h=>by simp at h;subst h;rfl) rfl (Nat.le_of_ble_eq_true rfl)).names fun m hm=>by subst hm;omega) rfl ?_
   refine ⟨g,nx',st',keep (by decide),fun t v hm=>?_,(get_cons_ne _ _ (by decide)).trans hS.hr,fun _=>(get_cons_ne _ _ (by decide)).trans (hS.c0 n9),fun h=>absurd (show L 9=true from h) (by rw [n9];decide),fun h=>absurd (show L 5=false from h) (by rw [l5];decide),fun _=>(get_cons_ne _ _ (by decide)).trans (hS.s1 l5),fun _ h=>(nomatch h),fun _ _=>by show s.nx+1=91;omega,fun h=>absurd (show L 7=true from h) (by rw [n7];decide),fun _=>l5,fun h=>absurd (show L 7=true from h) (by rw [n7];decide),fun h=>absurd (show L 9=true from h) (by rw [n9];decide),fun _=>(get_cons_ne _ _ (by decide)).trans (hS.g82 n7),fun _=>get_cons_same _ _ _,fun h=>absurd (show L 7=true from h) (by rw [n7];decide),fun j hj hl=>?_⟩
   ·have:=ks_lt hm
    exact (lk_cons_ne _ _ (by omega)).trans (hS.kp t v hm)
   ·by_cases e:j=6
    ·subst e;exact lk_cons_same _ _ _
    ·simp only [if_neg e] at hl
     exact (lk_cons_ne _ _ (by omega)).trans (hS.v j hj hl)
  ·have q1:=v 1 (by decide) (hall ⟨1,.data⟩ (Array.mem_of_getElem? (i:=0) rfl) rfl)
   have q6:=v 6 (by decide) (hall ⟨6,.data⟩ (Array.mem_of_getElem? (i:=1) rfl) rfl)
   have l1:L 1=true:=hall ⟨1,.data⟩ (Array.mem_of_getElem? (i:=0) rfl) rfl
   have l6:L 6=true:=hall ⟨6,.data⟩ (Array.mem_of_getElem? (i:=1) rfl) rfl
   have l5:=hS.o6 l6
   have n9:L 9=false:=by
    cases h:L 9 with
    | false=>rfl
    | true=>exact absurd (hS.o9 h) (by rw [hL];decide)
   have enx:=hS.n6 l6 hL
   have b82:=hS.g82 hL
   have b90:=hS.b90 l6
   have hlen:((gs.map Gt.l).map fun el=>el.map AV.d).length=i:=by rw [List.length_map,List.length_map,hl]
   have hev:s.ev GG (.tmp 24) = .sl 90 4 0 1 1 true:=q6
   have hE:Els s.heap 4 (s.ev GG (.tmp 24)) [g.l.map AV.d]:=by
    rw [hev]
    exact Els.sl 90 0 1 1 true [g.l.map AV.d] b90 (Nat.le_refl 1)
   have hsc:∀ el,el∈[g.l.map AV.d]->∀ v,v∈el->v.scalar=true:=fun el h v hv=>by
    simp only [List.mem_singleton] at h
    subst h
    simp only [Gt.l,List.map_cons,List.map_nil,List.mem_cons,List.not_mem_nil,or_false] at hv
    rcases hv with rfl|rfl|rfl|rfl <;> rfl
   refine opwp_step (k:=1) (fun c hc=>by cases hc) ((step_append (t:=63) (t2:=63) (e:=67) (e2:=67) (x:=.tmp 19) (y:=.tmp 24) (nm':=91) (nm:=82) (len:=i) (room:=i) (tg:=false) (S:=4) (B:=48) (ys:=[g.l.map AV.d]) (by exact rfl) ⟨T63.2,T67.1⟩ T63.2 q1 b82 hlen (Nat.le_refl _) hE hsc (by decide) (by show (2*(i+1)+192)*48<=281474976710656;omega)).names fun m hm=>by subst hm;omega) rfl ?_
   have old':∀ n bl,n≠91->n≠82->s.heap.get n=some bl->AHeap.get ((91,some (.arr 4 (((gs.map Gt.l).map fun el=>el.map AV.d)++[g.l.map AV.d])))::(82,none)::s.heap) n=some bl:=fun n bl h1 h2 h3=>by rw [get_cons_ne _ _ h1,get_cons_ne _ _ h2,h3]
   refine ⟨g,nx',st',keep (by decide),fun t v hm=>?_,old' _ _ (by decide) (by decide) hS.hr,fun _=>old' _ _ (by decide) (by decide) (hS.c0 n9),fun h=>absurd (show L 9=true from h) (by rw [n9];decide),fun h=>absurd (show L 5=false from h) (by rw [l5];decide),fun _=>old' _ _ (by decide) (by decide) (hS.s1 l5),fun _ h=>absurd (show L 6=false from h) (by rw [l6];decide),fun _ h=>(nomatch h),fun _=>by show s.nx+1=92;omega,fun _=>l5,fun _=>⟨l6,l1⟩,fun h=>absurd (show L 9=true from h) (by rw [n9];decide),fun h=>(nomatch h),fun _=>old' _ _ (by decide) (by decide) b90,fun _=>?_,fun j hj hl'=>?_⟩
   ·have:=ks_lt hm
    exact (lk_cons_ne _ _ (by omega)).trans (hS.kp t v hm)
   ·refine (get_cons_same _ _ _).trans (congrArg some ?_)
    show _=dblk 4 _
    unfold dblk
    simp only [List.map_append,List.map_cons,List.map_nil]
   ·by_cases e:j=7
    ·subst e;exact lk_cons_same _ _ _
    ·simp only [if_neg e] at hl'
     exact (lk_cons_ne _ _ (by omega)).trans (hS.v j hj hl')
  ·exact opwp_pure (fun c h=>by cases h) (pure_fieldAddr rfl (T65.fld rfl rfl) (hS.kp 9 _ (List.mem_of_getElem? (i:=4) rfl))) rfl ⟨g,nx',st',keep (by decide),ss_put hS (a:=8) (by decide) (by decide) (by decide) (by decide) rfl⟩
  ·have q7:=v 7 (by decide) (hall ⟨7,.data⟩ (Array.mem_of_getElem? (i:=1) rfl) rfl)
   have q8:=v 8 (by decide) (hall ⟨8,.data⟩ (Array.mem_of_getElem? (i:=0) rfl) rfl)
   have l7:L 7=true:=hall ⟨7,.data⟩ (Array.mem_of_getElem? (i:=1) rfl) rfl
   have l6:=(hS.o7 l7).1
   have l5:=hS.o6 l6
   refine opwp_step (k:=0) (fun c hc=>by cases hc) ((step_store (x:=.tmp 26) (y:=.tmp 25) (nm:=81) (sz:=3) (idx:=0) (off:=2) (v:=.sl 91 4 0 (i+1) (i+1) false) rfl T63.1 q8 q7 (hS.c0 hL) rfl rfl rfl rfl (Nat.le_of_ble_eq_true rfl)).names fun _ h=>h.elim) rfl ?_
   refine ⟨g,nx',st',keep (by decide),hS.kp,(get_cons_ne _ _ (by decide)).trans hS.hr,fun h=>(nomatch h),fun _=>get_cons_same _ _ _,fun h=>absurd (show L 5=false from h) (by rw [l5];decide),fun _=>(get_cons_ne _ _ (by decide)).trans (hS.s1 l5),fun _ h=>absurd (show L 6=false from h) (by rw [l6];decide),fun _ h=>absurd (show L 7=false from h) (by rw [l7];decide),fun _=>hS.n7 l7,fun _=>l5,hS.o7,fun _=>l7,fun h=>absurd (show L 7=false from h) (by rw [l7];decide),fun _=>(get_cons_ne _ _ (by decide)).trans (hS.b90 l6),fun _=>(get_cons_ne _ _ (by decide)).trans (hS.b91 l7),fun j hj hl=>hS.v j hj ?_⟩
   simpa [show j≠9 by omega] using hl
 ·rintro L s ⟨g,nx',st',hg,hS⟩ hall
  obtain ⟨h1,h2⟩:=hg (hall 5 (by decide))
  exact ⟨rfl,hk L s g nx' st' h1 h2 hS fun a ha=>hall a ha⟩
end Go.Tz
namespace Go.AL
open Go
variable {P:Program} {G:Nat->Option (List D)} {T:Tab} {b n:Nat} {ms:List Nat} {st:St}
theorem loop_useR {σ:Type} (hp:POk P T) (ID:Nat) {c:Code} {k:Exit->St->Prop} (I:σ->St) (μ:σ->Nat) (s0:σ) (hs:Sub G b ms st (I s0)) (hc:chkCode n c=true)
  (round:∀ (s:σ) (A:St->Prop),(∀ st' (t:σ),Sub G b ms st' (I t)->μ t<μ s->A st')->xcodeR P ID T G n b ms c (I s) fun e st'=>nextK e st' A k):LoopVC P G n b ms c st k:=by
 refine ⟨fun r=>awp_loop (Q:=fun e st' ms'=>ms'=ms/\k e st') I μ s0 hs ?_⟩
 intro s
 refine awp_mono (xcodeR_sound hp c (I s) _ hc (round s (fun st'=>∃ t:σ,Sub G b ms st' (I t)/\μ t<μ s) fun st' t h1 h2=>⟨t,h1,h2⟩)) ?_
 rintro e s' m' ⟨hm,h⟩
 cases e with
 | normal=>exact ⟨hm,h⟩
 | _=>exact ⟨hm,h⟩
end Go.AL
namespace Go.Tz
open Go Go.AL Go.Proofs
variable {bs:List Int} {u:Bool} {w m i nx:Nat} {st:Int} {gs:List Gt}
theorem regCc {ops:Array Oper} (hops:ops=opsC) (hw:1<=w/\w<=12) (hbs:bs.length<=1000) (hnx:nx+13<=4611686018427387904) (hl:gs.length=i) (hi:i<=1000) {e:List (Nat × AV)} {H:AHeap} {n:Nat}
  (he:AllP (fun p=>lk e p.1=p.2) (ksC w m i)) (h0:H.get 0=some (storeB bs u nx st)) (hr:H.get 80=some r80) (h81:H.get 81=some (c81 w 82 i)) (h82:H.get 82=some (dblk 4 (gs.map Gt.l))) (hn:n=83) {k:Exit->St->Prop}
  (hk:∀ (g:Gt) (nx':Nat) (st':Int),GtOk w g->nx'<=nx+13->k .normal ⟨ksC w m i,[(0,some (storeB bs u nx' st')),(80,some r80),(81,some (c81 w 91 (i+1))),(91,some (dblk 4 ((gs++[g]).map Gt.l)))],92⟩):RegVC Pr GG Tryz.f139.ntmps 80 [] 4 ops ⟨e,H,n⟩ k:=by
 subst hops
 refine regC (g:=⟨0,[],false,0,0⟩) (nx':=0) (st':=0) hw hbs hnx hl hi ⟨fun t v hm=>AllP.mem he _ hm,hr,fun _=>h81,fun h=>(nomatch h),fun _=>⟨h0,hn⟩,fun h=>(nomatch h),fun h=>(nomatch h),fun h=>(nomatch h),fun h=>(nomatch h),fun h=>(nomatch h),fun h=>(nomatch h),fun h=>(nomatch h),fun _=>h82,fun h=>(nomatch h),fun h=>(nomatch h),fun j _ h=>(nomatch h)⟩ ?_
 intro L s' g nx' st' hg hb hS hL
 refine ⟨_,keep_env (Nat.le_of_ble_eq_true rfl) ?_ ?_ trivial,hk g nx' st' hg hb⟩
 ·have q:=fun j (v:Nat × AV) (h:(ksC w m i)[j]?=some v)=>hS.kp v.1 v.2 (List.mem_of_getElem? h)
  exact ⟨⟨q 0 _ rfl,rfl⟩,⟨q 1 _ rfl,rfl⟩,⟨q 2 _ rfl,rfl⟩,⟨q 3 _ rfl,rfl⟩,⟨q 4 _ rfl,rfl⟩,⟨q 5 _ rfl,rfl⟩,⟨q 6 _ rfl,rfl⟩,trivial⟩
 ·exact ⟨⟨ltB rfl,_,rfl,hS.s1 (hL 5 (by decide)),below_arr rfl⟩,⟨ltB rfl,_,rfl,hS.hr,below_arr rfl⟩,⟨ltB rfl,_,rfl,hS.c1 (hL 9 (by decide)),below_arr rfl⟩,⟨ltB rfl,_,rfl,hS.b91 (hL 7 (by decide)),below_dblk _ _ _⟩,trivial⟩
theorem chk139:chkFn Tryz.f139=true:=by kernel_rfl
abbrev stC (bs:List Int) (u:Bool) (w m:Nat) (s:List Gt × Int × Nat):St:=⟨ksC w m s.1.length,[(0,some (storeB bs u s.2.2 s.2.1)),(80,some r80),(81,some (c81 w 82 s.1.length)),(82,some (dblk 4 (s.1.map Gt.l)))],83⟩
theorem circ139 (bs:List Int) (u:Bool) (w most nx:Nat) (st:Int) (hw:1<=w/\w<=12) (hm:most<=130) (hbs:bs.length<=1000) (hb:nx+(1+13*most)<=4611686018427387904) :
  ACall Pr GG 139 [.ptr 0 3 0 0,.d (iD w),.d (iD most),.d cfD] [(0,some (storeB bs u nx st))] 80 fun v H _=>∃ (gs:List Gt) (st':Int) (nx':Nat),nx'<=nx+(1+13*most)/\(gs.length<=most /\ ∀ g,g∈gs->GtOk w g)/\v = .agg [.d (iD w),.d (iD 0),.sl 82 4 0 gs.length gs.length false]/\H.get 0=some (storeB bs u nx' st')/\H.get 82=some (dblk 4 (gs.map Gt.l)):=by
 have c1:=sc71 bs u 82 (most+1) (by decide) hbs (by omega)
 have e0:iadd .i64 (most:Int) 1=((most+1:Nat):Int):=iadd_nat (b:=1) (by omega)
 refine fn_walkR pok 4 Tryz.func139 chk139 ?_
 conv=>whnf
 repeat' first|((first|refine LookP.mk _ rfl ?_|refine ShlP.mk _ (by first|(simp only [List.set,over,List.take,List.drop,List.append_eq,List.nil_append,List.cons_append,List.length];rfl)|rfl) ?_|rw [e0]|refine HpP.force ?_);conv=>whnf)
 refine sc_use (nx:=nx) (st:=st) c1 (by decide) (by omega) rfl ?_
 intro m st1 nx1 b1 m1
 conv=>whnf
 skip
 refine loop_useR (σ:={ s:List Gt × Int × Nat // s.1.length<=m/\(∀ g,g∈s.1->GtOk w g)/\s.2.2<=nx+1+13*s.1.length }) pok 4 (fun s=>stC bs u w m s.1) (fun s=>m-s.1.1.length) ⟨([],st1,nx1),Nat.zero_le _,fun g hg=>(nomatch hg),b1⟩ ?_ (by kernel_rfl) ?_
 ·refine Sub.trans (sub_nilH3 (nm:=81) (S:=4) (by decide) rfl) ?_
  refine keep_env (by first|exact Nat.zero_le _|exact Nat.le_of_ble_eq_true rfl) ?_ ?_ trivial
  ·repeat' first|exact trivial|refine ⟨⟨by first|rfl|assumption,rfl⟩,?_⟩
  ·repeat' first|exact trivial|refine ⟨⟨ltB rfl,_,rfl,by first|rfl|assumption,by first|exact below1 rfl|exact below_dblk _ _ _|exact below_arr rfl⟩,?_⟩
 ·rintro ⟨⟨gs,st2,nx2⟩,h1,h2,h3⟩ A hA
  dsimp only at h1 h2 h3 hA ⊢
  have e1:iadd .i64 (gs.length:Int) 1=((gs.length+1:Nat):Int):=iadd_nat (b:=1) (by omega)
  conv=>whnf
  repeat' first|((first|refine LookP.mk _ rfl ?_|refine ShlP.mk _ (by first|(simp only [List.set,over,List.take,List.drop,List.append_eq,List.nil_append,List.cons_append,List.length];rfl)|rfl) ?_|refine HpP.force ?_);conv=>whnf)|(intro t ht;cases t <;> conv=>whnf)
  ·exact fin ⟨gs,st2,nx2,by omega,⟨by omega,h2⟩,rfl,rfl,rfl⟩
  ·have hlt:gs.length<m:=by
    have:=of_decide_eq_true ht
    dsimp only at this
    omega
   refine regCc (gs:=gs) (nx:=nx2) (st:=st2) rfl hw hbs (by omega) rfl (by omega) ⟨rfl,rfl,rfl,rfl,rfl,rfl,rfl,trivial⟩ rfl rfl rfl rfl rfl ?_
   intro g nx3 st3 g1 g2
   have hln:(gs++[g]).length=gs.length+1:=by rw [List.length_append];rfl
   conv=>whnf
   skip
   refine hA _ ⟨(gs++[g],st3,nx3),by rw [hln];exact hlt,fun g' hg'=>?_,by show nx3<=nx+1+13*(gs++[g]).length;rw [hln];omega⟩ ?_ (by show m-(gs++[g]).length<m-gs.length;rw [hln];omega)
   ·rcases List.mem_append.1 hg' with q|q
    ·exact h2 _ q
    ·rw [List.mem_singleton.1 q];exact g1
   ·have e3:stC bs u w m (gs++[g],st3,nx3)=⟨ksC w m (gs.length+1),[(0,some (storeB bs u nx3 st3)),(80,some r80),(81,some (c81 w 82 (gs.length+1))),(82,some (dblk 4 ((gs++[g]).map Gt.l)))],83⟩:=by
     simp only [stC,hln]
    refine Eq.subst (motive:=fun s=>AL.Sub GG 80 [] _ s) e3.symm ?_
    first|refine ren_env [(82,91)] ?_ ?_ ?_ trivial|refine ren_envB [(82,91)] rfl rfl ?_ ?_ ?_ trivial
    ·repeat' first|exact trivial|refine ⟨⟨by first|rfl|assumption|exact congrArg (fun n=>AV.d (iD n)) e1,rfl⟩,?_⟩
    ·repeat' first|exact trivial|refine ⟨⟨ltB rfl,_,rfl,by first|rfl|assumption|exact get_ren rfl (by first|rfl|assumption|exact get_ren rfl (show some (Blk.ren _ (dblk 4 ((gs++[g]).map Gt.l)))=some (dblk 4 ((gs++[g]).map Gt.l)) from by rw [ren_dblk]))|exact get_ren rfl (show some (Blk.ren _ (dblk 4 ((gs++[g]).map Gt.l)))=some (dblk 4 ((gs++[g]).map Gt.l)) from by rw [ren_dblk]),by first|exact below1 rfl|exact below_dblk _ _ _|exact below_arr rfl⟩,?_⟩
    ·repeat' first|exact trivial|(refine And.intro ?_ ?_)|(exact fun _=>rfl)|(exact fun h=>absurd h (Nat.ne_of_beq_eq_false rfl))
theorem sc139 (bs:List Int) (u:Bool) (w most:Nat) (hw:1<=w/\w<=12) (hm:most<=130) (hbs:bs.length<=1000):SC 139 [iD w,iD most,cfD] bs u (1+13*most) 80 (fun p:List Gt × Bool=>circD w 0 p.1 p.2) fun p=>p.1.length<=most /\ ∀ g,g∈p.1->GtOk w g :=
 sc_mk (isFn_of Tryz.func139 chk139) (by decide) fun nx st hb=>by
  refine acall_mono (acall_freeze1 (K':=fun v H _=>∃ (p:List Gt × Bool) (st':Int) (nx':Nat),nx'<=nx+(1+13*most)/\(p.1.length<=most /\ ∀ g,g∈p.1->GtOk w g)/\v = .d (circD w 0 p.1 p.2)/\H.get 0=some (storeB bs u nx' st')) (circ139 bs u w most nx st hw hm hbs hb) ?_) fun _ _ _ h=>h
  rintro v H m ⟨gs,st',nx',h1,h2,rfl,g0,g1⟩
  have hd:AHeap.get (dels [82] H) 0=some (storeB bs u nx' st'):=by
   show (AHeap.del H 82).get 0=_
   rw [get_del,if_neg (by decide)];exact g0
  exact ⟨82,_,circD w 0 gs false,g1,asD_agg3 (.d _) (.d _) (asD_dblk (nm:=82) (sz:=4) (l:=gs.map Gt.l) rfl (by simp)),(gs,false),st',nx',h1,h2,rfl,hd⟩
end Go.Tz
namespace Go.AL
open Go
variable {P:Program} {G G2:Nat->Option (List D)} {f:FuncId}
theorem hrel_down (hG:∀ g ds,G g=some ds->G2 g=some ds) {C:Ctx} {H:AHeap} (h:HRel G2 C H):HRel G C H:=⟨h.blk,h.inj,h.ro,fun g ds e=>h.glob g ds (hG g ds e)⟩
theorem acall_up (hG:∀ g ds,G g=some ds->G2 g=some ds) {args:List AV} {H:AHeap} {nx:Nat} {K:AV->AHeap->Nat->Prop} (h:ACall P G f args H nx K):ACall P G2 f args H nx K:=by
 intro C vs hH hU hl hr
 refine (h C vs (hrel_down hG hH) hU hl hr).mono ?_
 rintro e w' ⟨x,v,H',n',C',rfl,rfl,hk,hv,h1,hU',hT⟩
 exact ⟨x,v,H',n',C',rfl,rfl,hk,hv,⟨h1.blk,h1.inj,h1.ro,fun g ds e=>(hH.glob g ds e).later hT hH⟩,hU',hT⟩
theorem pc_up (hG:∀ g ds,G g=some ds->G2 g=some ds) {ds:List D} {d:D} (h:PC P G f ds d):PC P G2 f ds d:=⟨h.fn,acall_up hG h.call⟩
end Go.AL
namespace Go.Tz
open Go Go.AL Go.Proofs
def GK:Nat->Option (List D):=fun g=>match Nat.beq g 0 with
 | true=>some [cfD]
 | false=>GG g
theorem gk_up:∀ g ds,GG g=some ds->GK g=some ds:=fun g ds h=>by
 match g,h with
 | g+1,h=>exact h
theorem up {f:FuncId} {ds:List D} {d:D} (h:PC Pr GG f ds d):PC Pr GK f ds d:=pc_up gk_up h
structure SK {ι:Type} (f:FuncId) (args:List D) (bs:List Int) (u:Bool) (cnt n0:Nat) (dof:ι->D) (Q:ι->Prop):Prop where
 fn:IsFn Pr f
 call:∀ (nx:Nat) (st:Int),nx+cnt<=4611686018427387904->ACall Pr GK f (.ptr 0 3 0 0::args.map .d) [(0,some (storeB bs u nx st))] n0 fun v H n=>∃ (i:ι) (st':Int) (nx':Nat),nx'<=nx+cnt/\Q i/\v = .d (dof i)/\H=[(0,some (storeB bs u nx' st'))]/\n=n0
variable {ι:Type} {f:FuncId} {args:List D} {bs:List Int} {u:Bool} {cnt n0:Nat} {dof:ι->D} {Q:ι->Prop}
theorem SC.k (h:SC f args bs u cnt n0 dof Q):SK f args bs u cnt n0 dof Q:=⟨h.fn,fun nx st hb=>acall_up gk_up (h.call nx st hb)⟩
theorem sk_mk (hf:IsFn Pr f) (hn:0<n0)
  (h:∀ (nx:Nat) (st:Int),nx+cnt<=4611686018427387904->ACall Pr GK f (.ptr 0 3 0 0::args.map .d) [(0,some (storeB bs u nx st))] n0 fun v H _=>∃ (i:ι) (st':Int) (nx':Nat),nx'<=nx+cnt/\Q i/\v = .d (dof i)/\H.get 0=some (storeB bs u nx' st')):SK f args bs u cnt n0 dof Q:=by
 refine ⟨hf,fun nx st hb=>acall_sub (h nx st hb) ?_⟩
 rintro v H n ⟨i,st',nx',h1,h2,rfl,h4⟩
 refine ⟨.d (dof i),[(0,some (storeB bs u nx' st'))],n0,?_,i,st',nx',h1,h2,rfl,rfl,rfl⟩
 exact keep_env (Nat.le_refl _) ⟨⟨rfl,rfl⟩,trivial⟩ ⟨⟨hn,_,rfl,h4,below_arr rfl⟩,trivial⟩ trivial
theorem sk_use {nx0 nx:Nat} {st:Int} {H:AHeap} {k:AV->AHeap->Nat->Prop} (h:SK f args bs u cnt n0 dof Q) (hn:nx0<=n0) (hb:nx+cnt<=4611686018427387904)
  (hg:H.get 0=some (storeB bs u nx st)) (hk:∀ (i:ι) (st':Int) (nx':Nat),nx'<=nx+cnt->Q i->k (.d (dof i)) ((0,some (storeB bs u nx' st'))::H) n0):CallVC Pr GK f (.ptr 0 3 0 0::args.map .d) H nx0 k:=by
 refine ⟨h.fn,acall_frame (h.call nx st hb) hn (fun m b hm=>?_) ?_⟩
 ·rw [get_consI] at hm
  by_cases e:m=0
  ·rw [if_pos e] at hm;rw [e,hg,hm]
  ·rw [if_neg e] at hm;cases hm
 ·rintro v H1 n ⟨d,st',nx',h1,h2,rfl,rfl,rfl⟩
  refine ⟨_,fun m b hm=>?_,hk d st' nx' h1 h2⟩
  rw [get_consI] at hm
  by_cases e:m=0
  ·rw [if_pos e] at hm;left;rw [get_consI,if_pos e,hm]
  ·rw [if_neg e] at hm
   right
   exact ⟨by rw [get_consI,if_neg e];rfl,hm⟩
theorem zero_sok {w:Nat} (hw:1<=w/\w<=12):SOk w (zeroS w):=by
 have key:((List.range 13).all fun w=>Nat.beq w 0||decide (chkS w (zeroS w)=0))=true:=by kernel_rfl
 have h:=List.all_eq_true.1 key w (List.mem_range.2 (by omega))
 simp only [Bool.or_eq_true,decide_eq_true_eq] at h
 rcases h with h|h
 ·have:=Nat.eq_of_beq_eq_true h;omega
 ·obtain ⟨W,e,hs⟩:=chk_ok h
  obtain rfl:w=W:=Int.ofNat.inj e
  exact hs
theorem of_sok {w:Nat} (hw:1<=w/\w<=12) {gs:List Gt} (h:∀ g,g∈gs->GtOk w g):SOk w (ofS w gs):=by
 have key:∀ (gs:List Gt) (l:List Ps),(∀ g,g∈gs->GtOk w g)->SOk w l->SOk w (gs.foldl (fun l g=>appG w g l) l):=by
  intro gs
  induction gs with
  | nil=>exact fun l _ h=>h
  | cons g gs ih=>exact fun l hg hl=>ih _ (fun g' hg'=>hg g' (List.mem_cons_of_mem _ hg')) (appG_sok (hg g (List.mem_cons_self ..)).chk (hg g (List.mem_cons_self ..)).kind hl)
 exact key gs _ h (zero_sok hw)
theorem ofE0 {w:Nat} (hw:1<=w/\w<=12) {gs:List Gt} (hn:gs.length<=120) (h:∀ g,g∈gs->GtOk w g):ofE w 0 gs=0:=by
 have h1:cchk w 0 gs=0:=cchk0 (by omega) (by omega) fun g hg=>(h g hg).chk
 have h2:gs.all cliffB=true:=List.all_eq_true.2 fun g hg=>by
  unfold cliffB
  rw [(h g hg).i0,(h g hg).kind];rfl
 unfold ofE
 rw [if_neg (fun q=>q h1),if_pos h2]
theorem of49d {w:Nat} {gs:List Gt} (h:ofE w 0 gs=0) (t:Bool) (hn:gs.length<=1000) (hws:∀ g,g∈gs->g.ws.length<=1000):PC Pr GG 49 [circD w 0 gs t] (.tup [stD w (ofS w gs) (tfB gs.length),iD 0]):=by
 have hc:=of49 h t hn hws
 have hlen:(ofS w gs).length=w:=by unfold ofS;rw [ofS_len,zeroS_len]
 refine pc_freeze hc.fn (acall_mono hc.call ?_)
 rintro v H _ ⟨rfl,rfl,_⟩
 refine asD_tup2 (asD_agg2 (.d _) ?_) (.d _)
 have:=asD_pre (H:=[(0,some (dblk 4 ((ofS w gs).map Ps.l)))]) (nm:=0) (sz:=4) (l:=(ofS w gs).map Ps.l) (len:=w) (room:=w) (t:=tfB gs.length) rfl (by rw [List.length_map,hlen];exact Nat.le_refl _)
 rwa [List.take_of_length_le (by rw [List.length_map,hlen];exact Nat.le_refl _),decide_eq_true rfl,Bool.and_true] at this
theorem chk64:chkFn Tryz.f64=true:=by kernel_rfl
theorem sk64 (bs:List Int) (u:Bool) (w most:Nat) (hw:1<=w/\w<=12) (hm:most<=120) (hbs:bs.length<=1000):SK 64 [iD w,iD most] bs u (1+13*most) 70 (fun p:List Ps × Bool=>.tup [stD w p.1 p.2,.bool true]) fun p=>SOk w p.1:=by
 have c1:=(sc139 bs u w most hw (by omega) hbs).k
 refine sk_mk (isFn_of Tryz.func64 chk64) (by decide) fun nx st hb=>?_
 refine fn_walk pok Tryz.func64 chk64 ?_
 conv=>whnf
 skip
 refine sk_use (nx:=nx) (st:=st) c1 (by decide) hb rfl ?_
 rintro ⟨gs,t⟩ st1 nx1 b1 ⟨g1,g2⟩
 dsimp only at g1 g2 ⊢
 have h0:=ofE0 hw (by omega) g2
 have hs:=of_sok hw g2
 have c2:=up (of49d h0 t (by omega) fun g hg=>by have:=(g2 g hg).len;omega)
 have hlen:(ofS w gs).length=w:=hs.len
 have c3:=up (check36 w (ofS w gs) (tfB gs.length) (by omega))
 rw [ok_chk hs] at c3
 conv=>whnf
 repeat' first|((first|refine LookP.mk _ rfl ?_|refine ShlP.mk _ (by first|(simp only [List.set,over,List.take,List.drop,List.append_eq,List.nil_append,List.cons_append,List.length];rfl)|rfl) ?_|refine And.intro (by first|assumption|exact ⟨by kernel_rfl,rfl⟩|decide|omega) ?_|refine pc_use c2 ?_|refine pc_head c3 ?_|refine HpP.force ?_);conv=>whnf)|(intro t ht;cases t <;> conv=>whnf)
 all_goals first
  | exact fin ⟨(ofS w gs,tfB gs.length),st1,nx1,b1,hs,rfl,rfl⟩
  | (exfalso;simp [hlen] at *;done)
end Go.Tz
namespace Go.Tz
open Go Go.AL Go.Proofs
variable {G:Nat->Option (List D)}
abbrev bytesD (bs:List Int) (t:Bool):D:=.sl (bs.map fun b=>[.int .u8 b]) t
theorem bytes_len (l:List Int):∀ el:List D,el∈(l.map fun x=>[D.int IntKind.u8 x])->el.length=1:=fun el h=>by
 obtain ⟨x,_,rfl⟩:=List.mem_map.1 h;rfl
theorem chk138:chkFn Tryz.f138=true:=by kernel_rfl
theorem bytes_sc (l:List Int):(((l.map fun k=>[D.int IntKind.u8 k]).map (·.map AV.d)).all fun el=>el.all AV.scalar)=true:=by
 simp [AV.scalar,D.scalar]
theorem clone138 (es:List (List D)) (tg:Bool) (hes:∀ el,el∈es->el.length=1) (hsc:((es.map (·.map AV.d)).all fun el=>el.all AV.scalar)=true) (hbig:es.length<=1000000) :
  ACall Pr G 138 [.d (.sl es tg)] [] 0 fun v N k=>(v = .d (.sl [] true)/\es=[])\/(v = .sl 1 1 0 (0+es.length) (0+es.length) false/\N.get 1=some (.arr 1 (es.map (·.map .d)))/\k=2):=by
 refine fn_walk pok Tryz.func138 chk138 ?_
 conv=>whnf
 repeat' first|((first|refine ShlP.mk _ (by first|(simp only [List.set,over,List.take,List.drop,List.append_eq,List.nil_append,List.cons_append,List.length];rfl)|rfl) ?_|refine And.intro (by first|exact ⟨rfl,by decide,by simp only [List.length_map,Nat.zero_add];omega⟩|assumption|exact ⟨by kernel_rfl,rfl⟩|decide|omega|exact ⟨rfl,by decide,by simp only [List.length_map,Nat.zero_add];omega⟩) ?_|rw [hsc]|refine HpP.force ?_);conv=>whnf)|(intro t ht;cases t <;> conv=>whnf)
 ·refine fin (.inr ⟨by simp,?_,rfl⟩)
  simp [chunk,AHeap.get]
 ·refine fin (.inl ⟨rfl,?_⟩)
  cases es with
  | nil=>rfl
  | cons a l=>simp at ht
theorem cloneB (l:List Int) (t:Bool) (hn:l.length<=1000000):PC Pr G 138 [bytesD l t] (bytesD l false):=by
 refine pc_freezeW (isFn_of Tryz.func138 chk138) (acall_mono (clone138 _ t (bytes_len l) (bytes_sc l) (by simpa using hn)) ?_)
 rintro v N k (⟨rfl,he⟩|⟨rfl,hg,_⟩)
 ·exact ⟨_,.d _,by show DW _ (.sl _ false);rw [he];exact dw_sl [] true⟩
 ·have:=asD_sl_map (lo:=0) (len:=0+(l.map fun k=>[D.int IntKind.u8 k]).length) (room:=0+(l.map fun k=>[D.int IntKind.u8 k]).length) (t:=false) hg (by omega)
  refine ⟨_,this,?_⟩
  simp only [List.drop_zero,Nat.zero_add,List.take_length,Bool.false_and]
  exact DW.rfl _
theorem chk62:chkFn Tryz.f62=true:=by kernel_rfl
theorem of62 (bs:List Int) (t:Bool):ACall Pr G 62 [.d (bytesD bs t)] [] 0 fun v H n=>∃ (bs':List Int) (u:Bool),bs'.length<=300/\v = .ptr 0 3 0 0/\H=[(0,some (storeB bs' u 0 2463534242))]/\n=1:=by
 have hM:∃ m:Nat,m<=bs.length/\m<=300/\(if (300:Int)<(((bs.map fun b=>[D.int IntKind.u8 b]).length:Nat):Int) then (300:Int) else (((bs.map fun b=>[D.int IntKind.u8 b]).length:Nat):Int)).toNat=m:=by
  rw [List.length_map]
  by_cases h:(300:Int)<(bs.length:Int)
  ·exact ⟨300,by omega,Nat.le_refl _,by rw [if_pos h];rfl⟩
  ·exact ⟨bs.length,Nat.le_refl _,by omega,by rw [if_neg h];rfl⟩
 obtain ⟨m,m1,m2,m3⟩:=hM
 have hsl:(0<=m/\m<=(bs.map fun b=>[D.int IntKind.u8 b]).length /\ ∀ el:List D,el∈(bs.map fun b=>[D.int IntKind.u8 b])->el.length=1):=⟨Nat.zero_le _,by rw [List.length_map];exact m1,bytes_len bs⟩
 have hsE:((bs.map fun b=>[D.int IntKind.u8 b]).drop 0).take (m-0)=(bs.take m).map fun b=>[D.int IntKind.u8 b]:=by rw [Nat.sub_zero,List.drop_zero,List.map_take]
 have hl:(bs.take m).length<=300:=by rw [List.length_take];omega
 have key:∀ tt,PC Pr G 138 [bytesD (bs.take m) tt] (bytesD (bs.take m) false):=fun tt=>cloneB _ tt (by omega)
 refine acall_sub (K:=fun v H _=>v = .ptr 0 3 0 0/\H.get 0=some (storeB (bs.take m) false 0 2463534242)) (fn_walk pok Tryz.func62 chk62 ?_) ?_
 ·conv=>whnf
  repeat' first|((first|refine And.intro (by first|exact hsl|assumption|exact ⟨by kernel_rfl,rfl⟩|decide|omega) ?_|refine pc_use (key _) ?_|rw [m3]|rw [hsE]);conv=>whnf)
  exact fin ⟨rfl,rfl⟩
 ·rintro v H n ⟨rfl,h4⟩
  refine ⟨.ptr 0 3 0 0,[(0,some (storeB (bs.take m) false 0 2463534242))],1,?_,bs.take m,false,hl,rfl,rfl,rfl⟩
  exact keep_env (Nat.zero_le _) ⟨⟨rfl,rfl⟩,trivial⟩ ⟨⟨ltB rfl,_,rfl,h4,below_arr rfl⟩,trivial⟩ trivial
end Go.Tz
namespace Go.Tz
open Go Go.AL Go.Proofs
abbrev q4 (w X Z Q:Nat):Blk:=.arr 4 [[.d (iD w),.d (iD X),.d (iD Z),.d (iD Q)]]
variable {bs:List Int} {u:Bool} {w nx X Z Q nx':Nat} {st':Int}
end Go.Tz
namespace Go.Tz
open Go Go.AL Go.Proofs
theorem store_brel {C C':Ctx} {nm nm':Nat} {bs:List Int} {u:Bool} {nx st:Int} (hw:C'.w=C.w) (hro:∀ k,C'.RO k ↔ C.RO k) (hβ:C'.β nm'=C.β nm) (h:BRel C nm (storeB bs u nx st)):BRel C' nm' (storeB bs u nx st):=by
 rcases h with ⟨_,q⟩|⟨k,cs,ty,g1,g2,g3,g4,g5,g6⟩
 ·cases q
 ·refine .inr ⟨k,cs,ty,hβ.trans g1,by rw [hw];exact g2,fun q=>g3 ((hro k).1 q),g4,g5,fun i j el v a1 a2=>?_⟩
  obtain ⟨x,x1,x2⟩:=g6 i j el v a1 a2
  refine ⟨x,x1,?_⟩
  have hd:∃ d,v = .d d:=by
   match i,j,a1,a2 with
   | 0,0,a1,a2=>simp at a1;subst a1;simp at a2;exact ⟨_,a2.symm⟩
   | 0,1,a1,a2=>simp at a1;subst a1;simp at a2;exact ⟨_,a2.symm⟩
   | 0,2,a1,a2=>simp at a1;subst a1;simp at a2;exact ⟨_,a2.symm⟩
   | 0,j+3,a1,a2=>simp at a1;subst a1;simp at a2
   | i+1,_,a1,_=>simp at a1
  obtain ⟨d,rfl⟩:=hd
  have:=vrel_d x2
  refine .d _ _ ?_
  have e:C'.RO=C.RO:=funext fun k=>propext (hro k)
  rw [hw,e];exact this
variable {ι:Type} {f:FuncId} {args:List D} {bs:List Int} {u:Bool} {cnt n0:Nat} {dof:ι->D} {Q:ι->Prop}
theorem acall_at (h:SK f args bs u cnt n0 dof Q) (hn:0<n0) {sn nx:Nat} {st:Int} (hb:nx+cnt<=4611686018427387904) (n1:Nat) :
  ACall Pr GK f (.ptr sn 3 0 0::args.map .d) [(sn,some (storeB bs u nx st))] n1 fun v H n=>∃ (i:ι) (st':Int) (nx':Nat),nx'<=nx+cnt/\Q i/\v = .d (dof i)/\H=[(sn,some (storeB bs u nx' st'))]/\n=n1:=by
 intro C vs hH hU hl hr
 obtain ⟨us,bk⟩:=hH.blk sn _ (get_cons_same _ _ _)
 have one:∀ {m nm:Nat} {b b':Blk},AHeap.get [(m,some b)] nm=some b'->nm=m/\b'=b:=fun {m nm b b'} g=>by
  by_cases e:nm=m
  ·subst e
   rw [get_cons_same] at g
   exact ⟨rfl,(Option.some.inj g).symm⟩
  ·rw [get_cons_ne _ _ e] at g;cases g
 have hH0:HRel GK ⟨fun m=>m=0,fun m=>if m=0 then C.β sn else none,C.RO,C.w⟩ [(0,some (storeB bs u nx st))]:=by
  refine ⟨fun nm b g=>?_,fun nm nm' b b' k g1 g2 _ _=>?_,hH.ro,hH.glob⟩
  ·obtain ⟨rfl,rfl⟩:=one g
   exact ⟨rfl,store_brel (C:=C) (nm:=sn) rfl (fun _=>Iff.rfl) rfl bk⟩
  ·rw [(one g1).1,(one g2).1]
 refine (h.call nx st hb _ vs hH0 (fun m hm=>by rw [show m=0 from hm];exact hn) hl (fun i v hi=>?_)).mono ?_
 ·match i,hi with
  | 0,hi =>
   cases hi
   obtain ⟨k,k1,k2,k3⟩:=vrel_ptr (hr 0 (.ptr sn 3 0 0) rfl)
   rw [k3]
   exact .ptr _ _ _ _ k rfl k2
  | i+1,hi =>
   have:=hr (i+1) v hi
   simp only [List.getElem?_cons_succ,List.getElem?_map,Option.map_eq_some_iff] at hi
   obtain ⟨d,_,rfl⟩:=hi
   have h2:DRel C.w C.RO d (vs.getD (i+1) undef):=vrel_d this
   exact .d _ _ h2
 ·rintro e w' ⟨x,v,H1,n,C0,rfl,rfl,⟨i,st',nx',h1,h2,rfl,rfl,rfl⟩,hv,hHR,hU',hT⟩
  obtain ⟨us0,bk0⟩:=hHR.blk 0 _ (get_cons_same _ _ _)
  obtain ⟨_,hβ⟩:=hT.names 0 rfl
  have hβ:C0.β 0=C.β sn:=hβ
  have hd:DRel C0.w C0.RO (dof i) x:=vrel_d hv
  have hvd:VRel ⟨C.U,C.β,C0.RO,C0.w⟩ (.d (dof i)) x:=.d _ _ hd
  refine ⟨x,.d (dof i),[(sn,some (storeB bs u nx' st'))],n1,⟨C.U,C.β,C0.RO,C0.w⟩,rfl,rfl,⟨i,st',nx',h1,h2,rfl,rfl,rfl⟩,hvd,⟨fun nm b g=>?_,fun nm nm' b b' k g1 g2 _ _=>?_,hHR.ro,hHR.glob⟩,hU,?_⟩
  ·obtain ⟨rfl,rfl⟩:=one g
   exact ⟨us,store_brel (C:=C0) (nm:=0) rfl (fun _=>Iff.rfl) hβ.symm bk0⟩
  ·rw [(one g1).1,(one g2).1]
  ·exact {
    os:=hT.os,tape:=hT.tape,output:=hT.output,size:=hT.size,shape:=hT.shape,
    frame:=fun k hk hn=>hT.frame k hk fun nm b hb=>by
     obtain ⟨rfl,rfl⟩:=one hb
     show (if 0=0 then C.β sn else none)≠some k
     rw [if_pos rfl]
     exact hn sn _ (get_cons_same _ _ _),
    names:=fun nm h=>⟨h,rfl⟩,ros:=hT.ros,
    img:=fun nm b k q1 q2 q3=>by
     obtain ⟨rfl,rfl⟩:=one q1
     exact ⟨_,_,get_cons_same _ _ _,q2⟩,
    rob:=fun k q1 q2=>by
     rcases hT.rob k q1 q2 with q|⟨nm0,b0,c1,c2⟩
     ·exact .inl q
     ·obtain ⟨rfl,rfl⟩:=one c1
      have c2:(if 0=0 then C.β sn else none)=some k:=c2
      rw [if_pos rfl] at c2
      exact .inr ⟨sn,_,get_cons_same _ _ _,c2⟩ }
theorem sk_useN {sn nx0 nx:Nat} {st:Int} {H:AHeap} {k:AV->AHeap->Nat->Prop} (h:SK f args bs u cnt n0 dof Q) (hn:0<n0) (hb:nx+cnt<=4611686018427387904)
  (hg:H.get sn=some (storeB bs u nx st)) (hk:∀ (i:ι) (st':Int) (nx':Nat),nx'<=nx+cnt->Q i->k (.d (dof i)) ((sn,some (storeB bs u nx' st'))::H) nx0):CallVC Pr GK f (.ptr sn 3 0 0::args.map .d) H nx0 k:=by
 refine ⟨h.fn,acall_frame (acall_at (st:=st) (sn:=sn) h hn hb nx0) (Nat.le_refl _) (fun m b hm=>?_) ?_⟩
 ·rw [get_consI] at hm
  by_cases e:m=sn
  ·rw [if_pos e] at hm;rw [e,hg,hm]
  ·rw [if_neg e] at hm;cases hm
 ·rintro v H1 n ⟨d,st',nx',h1,h2,rfl,rfl,rfl⟩
  refine ⟨_,fun m b hm=>?_,hk d st' nx' h1 h2⟩
  rw [get_consI] at hm
  by_cases e:m=sn
  ·rw [if_pos e] at hm;left;rw [get_consI,if_pos e,hm]
  ·rw [if_neg e] at hm
   right
   exact ⟨by rw [get_consI,if_neg e];rfl,hm⟩
end Go.Tz
namespace Go.Ma
open Classical
theorem ovl_same (L:List E):∀ (P:List E) (n:Int),(∀ p,p∈P->Gen L p)->ovlE L P n=n
 | [],_,_=>rfl
 | p::P,n,h=>by
  show (if Gen L p then ovlE L P n else _)=n
  rw [if_pos (h p (List.mem_cons_self ..))]
  exact ovl_same L P n fun q hq=>h q (List.mem_cons_of_mem _ hq)
theorem gen_gE {k a b:Nat} (h:gOk k a b) {L:List E} (hL:Good L) {g:E} (hg:Gen L g):Gen (L.map (gE k a b)) (gE k a b g):=by
 induction hg with
 | one =>
  rw [gE_one h];exact .one
 | mul x f hx _ ih =>
  rw [gE_mul h]
  exact .mul _ _ (List.mem_map.2 ⟨x,hx,rfl⟩) ih
end Go.Ma
namespace Go.Tz
open Go Go.AL Go.Proofs Go.Ma
variable {w n o:Nat} {l:List Ps}
end Go.Tz
namespace Go.Tz
open Go Go.AL Go.Proofs Go.Ma
variable {w n o:Nat} {l:List Ps}
theorem both0 {l':List Ps} (hs:SOk w l) (hs':SOk w l'):bothS w l w l'=0:=by
 unfold bothS
 rw [if_neg (fun q=>q (ok_chk hs)),if_neg (fun q=>q (ok_chk hs')),if_neg (fun q=>q rfl)]
theorem over33d {l':List Ps} (hs:SOk w l) (hs':SOk w l') (t t':Bool) {x:Int} (hx:ovR w l' l=x):PC Pr GG 33 [stD w l t,stD w l' t'] (.tup [iD x,iD 0]):=by
 have h:=over33 w l t w l' t' (sok_len hs) (sok_len hs') fun W hW h1 h2=>by
  obtain rfl:w=W:=Int.ofNat.inj hW
  exact (ovl_ok h1 h2).1
 unfold overD at h
 rw [if_pos (both0 hs hs'),Int.toNat_natCast,(ovl_ok hs hs').2,hx] at h
 exact h
theorem same32d {l':List Ps} (hs:SOk w l) (hs':SOk w l') (t t':Bool) {b:Bool} (hb:decide (redRows l (2*w)=redRows l' (2*w))=b):PC Pr GG 32 [stD w l t,stD w l' t'] (.tup [.bool b,iD 0]):=by
 have h:=same32 w l t w l' t' (sok_len hs) (sok_len hs')
 unfold sameD at h
 rw [if_pos (both0 hs hs'),Int.toNat_natCast,hb] at h
 exact h
end Go.Tz
namespace Go.Tz
open Go Go.AL Go.Proofs Go.Ma
theorem q0:isub IntKind.i64 (imul IntKind.i64 2 0) 1 = -1:=by kernel_rfl
theorem q1:isub IntKind.i64 (imul IntKind.i64 2 1) 1=1:=by kernel_rfl
end Go.Tz
namespace Go.Tz
open Go Go.AL Go.Proofs Go.Ma
variable {w:Nat} {l:List Ps} {p q m:Ps}
theorem apply47d {g:Gt} (hs:SOk w l) (hg:GtOk w g) (t:Bool):PC Pr GK 47 [stD w l t,g.d] (.tup [stD w (appG w g l) true,iD 0]):=by
 have h0:apE w l g=0:=by
  unfold apE
  rw [if_neg (fun q=>q (ok_chk hs)),if_neg (fun q=>q hg.chk),if_pos hg.kind]
 have hc:=apply47 h0 t (by have:=hg.len;omega)
 have hR:=(appG_sok hg.chk hg.kind hs).len
 rw [hs.len] at hc
 refine up (pc_freeze hc.fn (acall_mono hc.call ?_))
 rintro v H _ ⟨rfl,rfl,_⟩
 refine asD_tup2 (asD_agg2 (.d _) ?_) (.d _)
 have:=asD_pre (H:=[(0,some (dblk 4 ((appG w g l).map Ps.l)))]) (nm:=0) (sz:=4) (l:=(appG w g l).map Ps.l) (len:=w) (room:=w) (t:=true) rfl (by rw [List.length_map,hR];exact Nat.le_refl _)
 rwa [List.take_of_length_le (by rw [List.length_map,hR];exact Nat.le_refl _),decide_eq_true rfl,Bool.and_true] at this
end Go.Tz
namespace Go.Tz
open Go Go.AL Go.Proofs Go.Ma
theorem of_useN {bs:List Int} {t:Bool} {H:AHeap} {nx:Nat} {k:AV->AHeap->Nat->Prop} (hk:∀ (bs':List Int) (u:Bool),bs'.length<=300->k (.ptr nx 3 0 0) ((nx,some (storeB bs' u ((0:Nat):Int) 2463534242))::H) (nx+1)):CallVC Pr GK 62 [.d (bytesD bs t)] H nx k :=
 ⟨isFn_of Tryz.func62 chk62,acall_data (ds:=[bytesD bs t]) (of62 bs t) fun v H' n ⟨bs',u,h1,h2,h3,h4⟩=>by
  subst h2 h3 h4
  have:=hk bs' u h1
  show k (.ptr (0+nx) 3 0 0) ((0+nx,some (Blk.ren _ (storeB bs' u 0 2463534242)))::H) (nx+1)
  rw [Nat.zero_add]
  exact this⟩
end Go.Tz
namespace Go.Ma
variable {k:Nat} {f:Nat->Nat}
theorem pow_le {a b:Nat} (h:2^a<=2^b):a<=b:=(Nat.pow_le_pow_iff_right (by decide)).1 h
def msk (M v:Nat):Nat:=v &&& M
variable {M M' w:Nat}
def cw (M:Nat):Nat->Nat
 | 0=>0
 | w+1=>cw M w+(M.testBit w).toNat
variable {L:List Nat}
def inn (w:Nat) (L:List Nat) (M:Nat):Nat:=cn 24 fun u=>spB ((U w).map (msk M)) u&&perpB L u
end Go.Ma
namespace Go.Tz
open Go Go.AL Go.Proofs Go.Ma
structure ST (tv:List (Nat × Nat × AV)) (ks:List (Nat × AV)) (Z:(Nat->Bool)->St->Prop) (L:Nat->Bool) (s:St):Prop where
 kp:∀ p,p∈ks->lk s.env p.1=p.2
 tv:∀ p,p∈tv->L p.1=true->lk s.env p.2.1=p.2.2
 z:Z L s
variable {tv:List (Nat × Nat × AV)} {ks:List (Nat × AV)} {Z:(Nat->Bool)->St->Prop} {L:Nat->Bool} {s:St} {c i d:Nat} {v:AV} {H:AHeap} {n:Nat}
theorem st_put (h:ST tv ks Z L s) (hks:∀ p,p∈ks->p.1<c) (hd:c<=d) (htv:AllP (fun p:Nat × Nat × AV=>(p.1=i/\p.2=(d,v))\/(p.1≠i/\p.2.1≠d)) tv)
  (hz:Z (fun j=>if j=i then true else L j) (({ env:=s.env,heap:=H,nx:=n }:St).put (some d) v)):ST tv ks Z (fun j=>if j=i then true else L j) (({ env:=s.env,heap:=H,nx:=n }:St).put (some d) v):=by
 refine ⟨fun p hp=>?_,fun p hp hl=>?_,hz⟩
 ·have:=hks p hp
  exact (lk_cons_ne _ _ (by omega)).trans (h.kp p hp)
 ·rcases AllP.mem htv p hp with ⟨_,e⟩|⟨e1,e2⟩
  ·rw [e];exact lk_cons_same _ _ _
  ·simp only [if_neg e1] at hl
   exact (lk_cons_ne _ _ e2).trans (h.tv p hp hl)
end Go.Tz
namespace Go.Tz
open Go Go.AL Go.Proofs Go.Ma
variable {w lst m:Nat} {L:List E} {val:Nat->Option Nat}
def actV (e:E) (val:Nat->Option Nat) (k:Nat):Option Nat:=(val (k^^^xv e.2)).map fun p=>(p+phE e (k^^^xv e.2)) % 4
theorem act_own (hL:Ma.Good L) (ha:Amp L w lst m val) {g:E} (hg:Gen L g) (hx:xv g.2<2^w):∀ k,k<2^w->actV g val k=val k:=fun k hk=>by
 have hb:k^^^xv g.2<2^w:=Nat.xor_lt_two_pow hk hx
 have hmv:∀ {f:E} {b:Nat},lst^^^xv f.2=b->lst^^^xv (emul g f).2=b^^^xv g.2:=fun {f b} e=>by
  show lst^^^xv (g.2^^^f.2)=_
  rw [xv_xor,<- e,Nat.xor_comm (xv g.2),Nat.xor_assoc]
 unfold actV
 cases e:val (k^^^xv g.2) with
 | none =>
  cases e2:val k with
  | none=>rfl
  | some q =>
   obtain ⟨h,h1,h2,_⟩:=ha.has k q hk e2
   exact absurd (hmv h2) (ha.no _ hb e _ (gen_mul' hL hg h1))
 | some p =>
  obtain ⟨h,h1,h2,h3⟩:=ha.has _ p hb e
  have h4:=hmv h2
  rw [xor_cancel] at h4
  have hgm:=gen_mul' hL hg h1
  cases e2:val k with
  | none=>exact absurd h4 (ha.no k hk e2 _ hgm)
  | some q =>
   obtain ⟨f,f1,f2,f3⟩:=ha.has k q hk e2
   have hxe:xv f.2=xv (emul g h).2:=by
    have:=f2.trans h4.symm
    have:=congrArg (fun n=>lst^^^n) this
    simpa only [<- Nat.xor_assoc,Nat.xor_self,Nat.zero_xor] using this
   have:=sup_uniq hL ha.sup f1 hgm hxe
   rw [f3,phE_mul,h3,h2] at this
   show some _=some _
   rw [this]
theorem cn_range:∀ (k:Nat) (f:Nat->Bool),((List.range (2^k)).filter f).length=cn k f
 | 0,f=>by
  show (List.filter f [0]).length=(f 0).toNat
  cases e:f 0 <;> simp [e]
 | k+1,f=>by
  have hp:2^(k+1)=2^k+2^k:=by rw [Nat.pow_succ];omega
  rw [hp,List.range_add,List.filter_append,List.length_append,cn_range k f]
  show _=cn k f+cn k (fun v=>f (v^^^2^k))
  congr 1
  rw [<- cn_range k,List.filter_map,List.length_map]
  congr 1
  refine List.filter_congr fun v hv=>?_
  have hv:=List.mem_range.1 hv
  show f (2^k+v)=f (v^^^2^k)
  congr 1
  refine Nat.eq_of_testBit_eq fun j=>?_
  have:=Nat.testBit_two_pow_mul_add 1 hv j
  rw [Nat.mul_one] at this
  rw [this,Nat.testBit_xor,Nat.testBit_two_pow]
  by_cases hj:j<k
  ·rw [if_pos hj,decide_eq_false (by omega),Bool.xor_false]
  ·rw [if_neg hj,Nat.testBit_lt_two_pow (Nat.lt_of_lt_of_le hv (Nat.pow_le_pow_right (by decide) (by omega))),Bool.false_xor]
   by_cases e:k=j
   ·subst e;simp
   ·rw [decide_eq_false e]
    exact Nat.testBit_lt_two_pow (Nat.lt_of_lt_of_le (by decide:1<2^1) (Nat.pow_le_pow_right (by decide) (by omega)))
theorem amp_count (ha:Amp L w lst m val) (hx:∀ g,Gen L g->xv g.2<2^w):((List.range (2^w)).filter fun k=>(val k).isSome).length=2^m:=by
 obtain ⟨A,a1,a2,a3,a4⟩:=ha.rank
 have hlt:∀ a,a∈A->a<2^w:=fun a h=>by
  obtain ⟨g,h1,h2⟩:=(a4 a).1 (sp_mem _ _ h)
  rw [<- h2];exact hx g h1
 have h1:cn w (fun k=>(val k).isSome)=cn w (fun k=>spB A (k^^^lst)):=cn_congr _ _ _ fun k hk=>by
  rw [Bool.eq_iff_iff,a4]
  constructor
  ·intro h
   obtain ⟨p,hp⟩:=Option.isSome_iff_exists.1 h
   obtain ⟨g,g1,g2,_⟩:=ha.has k p hk hp
   refine ⟨g,g1,?_⟩
   rw [<- g2,Nat.xor_comm lst,xor_cancel]
  ·rintro ⟨g,g1,g2⟩
   cases e:val k with
   | some p=>rfl
   | none=>exact absurd (by rw [g2,Nat.xor_comm k,<- Nat.xor_assoc,Nat.xor_self,Nat.zero_xor]) (ha.no k hk e g g1)
 have a2':rk A=A.length:=a2
 rw [cn_range,h1,cn_xor w lst (spB A) ha.lt,cn_span A hlt,a2',a3]
end Go.Tz
namespace Go.Tz
open Go Go.AL Go.Proofs
variable {val:Nat->Option Nat} {m N w:Nat}
abbrev V4 (val:Nat->Option Nat):Prop:=∀ k p,val k=some p->p<4
theorem vc_len (val:Nat->Option Nat) (m N:Nat):(vcL val m N).length=N:=by simp
theorem am_ex (v:Option Nat) (m:Nat):∃ a b c d e:Int,amL v m=[iD a,iD b,iD c,iD d,iD e]:=by
 cases v <;> exact ⟨_,_,_,_,_,rfl⟩
end Go.Tz
namespace Go.Tz
open Go Go.AL Go.Proofs Go.Ma
variable {w m lst:Nat} {l:List Ps} {val:Nat->Option Nat}
def cutV (w:Nat) (val:Nat->Option Nat) (k:Nat):Option Nat:=if k<2^w then val k else none
theorem cut_vc (w:Nat) (val:Nat->Option Nat) (m:Nat):vcL (cutV w val) m (2^w)=vcL val m (2^w):=by
 refine List.map_congr_left fun k hk=>?_
 unfold cutV
 rw [if_pos (List.mem_range.1 hk)]
theorem cut_amp {L:List E} (ha:Amp L w lst m val):Amp L w lst m (cutV w val):=by
 refine ⟨ha.sup,ha.lt,ha.min,fun b p hb h=>ha.has b p hb ?_,fun b hb h=>ha.no b hb ?_,ha.rank⟩
 ·unfold cutV at h;rwa [if_pos hb] at h
 ·unfold cutV at h;rwa [if_pos hb] at h
theorem cut_4 {L:List E} (ha:Amp L w lst m val):V4 (cutV w val):=fun k p h=>by
 unfold cutV at h
 split at h
 ·rename_i hk
  obtain ⟨g,_,_,e⟩:=ha.has k p hk h
  rw [<- e];exact phE_lt _ _
 ·cases h
theorem gen_xv (hs:SOk w l):∀ g,Gen (l.map nf) g->xv g.2<2^w:=fun g hg=>by
 have hin:inV w g.2:=by
  have:=gen_span hg
  refine sp_sub _ _ (fun a ha=>?_) _ this
  obtain ⟨x,hx,rfl⟩:=List.mem_map.1 ha
  exact (sok_sta hs).inv x hx
 refine Nat.lt_pow_two_of_testBit _ fun j hj=>?_
 unfold xv
 rw [show 4096=2^12 from rfl,Nat.testBit_mod_two_pow]
 by_cases h12:j<12
 ·rw [sp_bit _ (U_bit (.inl ⟨hj,h12⟩)) _ hin,Bool.and_false]
 ·rw [decide_eq_false h12];rfl
end Go.Tz
namespace Go.Tz
open Go Go.AL Go.Proofs Go.Ma
def cntV (val:Nat->Option Nat) (i:Nat):Nat:=((List.range i).filter fun k=>(val k).isSome).length
theorem cnt_le' (val:Nat->Option Nat) (i:Nat):cntV val i<=i:=by
 have:=List.length_filter_le (fun k=>(val k).isSome) (List.range i)
 rwa [List.length_range] at this
end Go.Tz
namespace Go.Tz
open Go Go.AL Go.Proofs
structure P4 where
 a:Int
 b:Int
 c:Int
 d:Int
namespace P4
def z:P4:=⟨0,0,0,0⟩
def evn (p:P4):Prop:=(p.a-p.c) % 2=0/\(p.b-p.d) % 2=0
instance (p:P4):Decidable p.evn:=inferInstanceAs (Decidable (_/\_))
instance (p q:P4):Decidable (p=q):=decidable_of_iff (p.a=q.a/\p.b=q.b/\p.c=q.c/\p.d=q.d) (by
 obtain ⟨a,b,c,d⟩:=p
 obtain ⟨a',b',c',d'⟩:=q
 simp)
def hlf (p:P4):P4:=⟨(p.b-p.d) / 2,(p.a+p.c) / 2,(p.b+p.d) / 2,(p.c-p.a) / 2⟩
def twc (p:P4):P4:=⟨p.b-p.d,p.a+p.c,p.b+p.d,p.c-p.a⟩
def add (p q:P4):P4:=⟨p.a+q.a,p.b+q.b,p.c+q.c,p.d+q.d⟩
def con (p:P4):P4:=⟨p.a,-p.d,-p.c,-p.b⟩
def mul (p q:P4):P4:=⟨p.a*q.a-p.b*q.d-p.c*q.c-p.d*q.b,p.a*q.b+p.b*q.a-p.c*q.d-p.d*q.c,p.a*q.c+p.b*q.b+p.c*q.a-p.d*q.d,p.a*q.d+p.b*q.c+p.c*q.b+p.d*q.a⟩
def rse:Nat->P4->P4
 | 0,p=>p
 | j+1,p=>rse j p.twc
def lst:Nat->P4->P4 × Nat
 | 0,p=>(p,0)
 | k+1,p=>if p.evn then lst k p.hlf else (p,k+1)
def lsz (k:Nat) (p:P4):P4 × Nat:=if p=z then (z,0) else lst k p
def Bd (n:Int) (p:P4):Prop:=-n<=p.a/\p.a<=n /\ -n<=p.b/\p.b<=n /\ -n<=p.c/\p.c<=n /\ -n<=p.d/\p.d<=n
variable {p q:P4} {n m:Int} {k j:Nat}
theorem twc_hlf (h:p.evn):p.hlf.twc=p:=by
 obtain ⟨a,b,c,d⟩:=p
 unfold evn at h
 simp only [hlf,twc,mk.injEq] at h ⊢
 omega
theorem hlf_bd (hn:0<=n) (h:Bd n p):Bd n p.hlf:=by
 unfold Bd hlf at *
 simp only
 omega
theorem twc_bd (h:Bd n p):Bd (2*n) p.twc:=by
 unfold Bd twc at *
 simp only
 omega
theorem Bd.mono (h:Bd n p) (hm:n<=m):Bd m p:=by
 unfold Bd at *
 omega
theorem con_bd (h:Bd n p):Bd n p.con:=by
 unfold Bd con at *
 simp only
 omega
theorem add_bd (h:Bd n p) (g:Bd m q):Bd (n+m) (p.add q):=by
 unfold Bd add at *
 simp only
 omega
theorem z_rse:∀ j,rse j z=z
 | 0=>rfl
 | j+1=>z_rse j
theorem rse_twc:∀ (j:Nat) (p:P4),rse j p.twc=(rse j p).twc
 | 0,_=>rfl
 | j+1,p=>rse_twc j p.twc
theorem rse_bd:∀ (j:Nat) {n:Int} {p:P4},Bd n p->Bd (2^j*n) (rse j p)
 | 0,n,p,h=>by rw [Int.pow_zero,Int.one_mul];exact h
 | j+1,n,p,h=>by
  have:=rse_bd j (twc_bd h)
  rw [Int.pow_succ,Int.mul_assoc];exact this
theorem rse_lst:∀ (k:Nat) (p:P4),(lst k p).2<=k/\rse (k-(lst k p).2) (lst k p).1=p
 | 0,_=>⟨Nat.le_refl _,rfl⟩
 | k+1,p=>by
  unfold lst
  split
  ·rename_i h
   obtain ⟨h1,h2⟩:=rse_lst k p.hlf
   refine ⟨by omega,?_⟩
   rw [show k+1-(lst k p.hlf).2=(k-(lst k p.hlf).2)+1 by omega]
   show rse _ (twc _)=p
   rw [rse_twc,h2,twc_hlf h]
  ·exact ⟨Nat.le_refl _,by rw [Nat.sub_self];rfl⟩
theorem lst_nz (h:p≠z):(lst k p).1≠z:=fun e=>by
 have:=(rse_lst k p).2
 rw [e,z_rse] at this
 exact h this.symm
theorem lst_lst:∀ (k:Nat) (p:P4),lst (lst k p).2 (lst k p).1=lst k p
 | 0,_=>rfl
 | k+1,p=>by
  by_cases h:p.evn
  ·have e:lst (k+1) p=lst k p.hlf:=if_pos h
   rw [e];exact lst_lst k p.hlf
  ·have e:lst (k+1) p=(p,k+1):=if_neg h
   rw [e];exact e
theorem rse_lsz (k:Nat) (p:P4):(lsz k p).2<=k/\rse (k-(lsz k p).2) (lsz k p).1=p:=by
 by_cases h:p=z
 ·have e:lsz k p=(z,0):=if_pos h
  rw [e,h];exact ⟨Nat.zero_le _,z_rse _⟩
 ·have e:lsz k p=lst k p:=if_neg h
  rw [e];exact rse_lst k p
theorem lst_bd:∀ (k:Nat) {p:P4},0<=n->Bd n p->Bd n (lst k p).1
 | 0,_,_,h=>h
 | k+1,p,hn,h=>by
  unfold lst
  split
  ·exact lst_bd k hn (hlf_bd hn h)
  ·exact h
theorem z_bd (hn:0<=n):Bd n z:=by
 unfold Bd z
 simp only
 omega
theorem lsz_bd (k:Nat) (hn:0<=n) (h:Bd n p):Bd n (lsz k p).1:=by
 unfold lsz
 split
 ·exact z_bd hn
 ·exact lst_bd k hn h
def Gau (p:P4):Prop:=(p.b=0/\p.d=0)\/(p.a=0/\p.c=0)
def nrm (p:P4):Int:=p.a*p.a+p.b*p.b+p.c*p.c+p.d*p.d
theorem hlf_gau (h:Gau p):Gau p.hlf:=by
 unfold Gau hlf at *
 simp only
 omega
theorem nrm_twc (h:Gau p):nrm p.twc=2*nrm p:=by
 unfold Gau nrm twc at *
 simp only
 rcases h with ⟨h1,h2⟩|⟨h1,h2⟩ <;> (rw [h1,h2];grind)
theorem lst_gau:∀ (k:Nat) {p:P4},Gau p->Gau (lst k p).1
 | 0,_,h=>h
 | k+1,p,h=>by
  unfold lst
  split
  ·exact lst_gau k (hlf_gau h)
  ·exact h
theorem twc_gau (h:Gau p):Gau p.twc:=by
 unfold Gau twc at *
 simp only
 omega
theorem nrm_rse:∀ (j:Nat) {p:P4},Gau p->nrm (rse j p)=2^j*nrm p
 | 0,p,_=>by rw [Int.pow_zero,Int.one_mul];rfl
 | j+1,p,h=>by
  show nrm (rse j p.twc)=_
  rw [nrm_rse j (twc_gau h),nrm_twc h,Int.pow_succ,Int.mul_assoc]
theorem mul_con (h:Gau p):p.mul p.con=⟨nrm p,0,0,0⟩:=by
 obtain ⟨a,b,c,d⟩:=p
 unfold Gau at h
 simp only at h
 simp only [mul,con,nrm,mk.injEq]
 rcases h with ⟨rfl,rfl⟩|⟨rfl,rfl⟩ <;> (refine ⟨?_,?_,?_,?_⟩ <;> grind)
theorem con_evn:p.con.evn ↔ p.evn:=by
 unfold evn con
 simp only
 omega
theorem con_nz (h:p≠z):p.con≠z:=fun e=>by
 obtain ⟨a,b,c,d⟩:=p
 apply h
 simp only [con,z,mk.injEq] at e ⊢
 omega
theorem lsz_con {K:Nat} {S:P4}:lsz (lsz K S).2 (lsz K S).1.con=((lsz K S).1.con,(lsz K S).2):=by
 have key:∀ k {p:P4},lst k p=(p,k)->lst k p.con=(p.con,k):=fun k p h=>by
  cases k with
  | zero=>rfl
  | succ k =>
   unfold lst at h ⊢
   by_cases e:p.evn
   ·rw [if_pos e] at h
    have:=(rse_lst k p.hlf).1
    rw [h] at this
    exact absurd this (by simp only;omega)
   ·rw [if_neg fun x=>e (con_evn.1 x)]
 by_cases h:S=z
 ·have e:lsz K S=(z,0):=if_pos h
  rw [e];rfl
 ·have e:lsz K S=lst K S:=if_neg h
  rw [e,lsz,if_neg (con_nz (lst_nz h))]
  exact key _ (lst_lst K S)
theorem lst_pow:∀ (s K:Nat),2*s<=K->lst K ⟨2^s,0,0,0⟩=(⟨1,0,0,0⟩,K-2*s)
 | 0,K,_=>by
  cases K with
  | zero=>rfl
  | succ K=>rfl
 | s+1,K,h=>by
  obtain ⟨K,rfl⟩:∃ k,K=k+2:=⟨K-2,by omega⟩
  have e1:evn (⟨2^(s+1),0,0,0⟩:P4):=by
   unfold evn
   simp only
   rw [Int.pow_succ];omega
  have e2:hlf (⟨2^(s+1),0,0,0⟩:P4)=⟨0,2^s,0,-2^s⟩:=by
   unfold hlf
   simp only [mk.injEq]
   rw [Int.pow_succ];omega
  have e3:evn (⟨0,2^s,0,-2^s⟩:P4):=by
   unfold evn
   simp only
   omega
  have e4:hlf (⟨0,2^s,0,-2^s⟩:P4)=⟨2^s,0,0,0⟩:=by
   unfold hlf
   simp only [mk.injEq]
   omega
  show (if evn _ then lst (K+1) _ else _)=_
  rw [if_pos e1,e2]
  show (if evn _ then lst K _ else _)=_
  rw [if_pos e3,e4,lst_pow s K (by omega)]
  congr 1
  omega
theorem lsz_norm {K n:Nat} {S:P4} (h:Gau S) (hn:nrm S*2^n=2^K):lsz ((lsz K S).2+(lsz K S).2) ((lsz K S).1.mul (lsz K S).1.con)=(⟨1,0,0,0⟩,2*n):=by
 have hz:S≠z:=fun e=>by
  rw [e] at hn
  have:nrm z=0:=rfl
  rw [this,Int.zero_mul] at hn
  have:(0:Int)<2^K:=Int.pow_pos (by decide)
  omega
 have e:lsz K S=lst K S:=if_neg hz
 rw [e]
 obtain ⟨h1,h2⟩:=rse_lst K S
 have hg:=lst_gau K h
 rw [mul_con hg]
 have h3:=nrm_rse (K-(lst K S).2) hg
 rw [h2] at h3
 generalize (lst K S).1=p at h3 hg ⊢
 generalize (lst K S).2=k at h1 h3 ⊢
 -- nrm p*2^n=2^k
 have h4:nrm p*2^n=2^k:=by
  rw [h3] at hn
  have e5:(2:Int)^K=2^(K-k)*2^k:=by rw [<- Int.pow_add];congr 1;omega
  rw [e5,Int.mul_assoc] at hn
  exact Int.eq_of_mul_eq_mul_left (by have:(0:Int)<2^(K-k):=Int.pow_pos (by decide);omega) hn
 have hnk:n<=k:=Nat.le_of_not_lt fun hlt=>by
  have e6:(2:Int)^n=2^k*2^(n-k):=by rw [<- Int.pow_add];congr 1;omega
  rw [e6,<- Int.mul_assoc,Int.mul_comm (nrm p),Int.mul_assoc] at h4
  have hp:(0:Int)<2^k:=Int.pow_pos (by decide)
  have e7:(2:Int)^k*(nrm p*2^(n-k))=2^k*1:=by rw [h4,Int.mul_one]
  have e8:=Int.eq_of_mul_eq_mul_left (by omega) e7
  have e9:(2:Int)^(n-k)=2*2^(n-k-1):=by rw [<- Int.pow_succ'];congr 1;omega
  rw [e9] at e8
  have:nrm p*(2*2^(n-k-1))=2*(nrm p*2^(n-k-1)):=by grind
  omega
 have h5:nrm p=2^(k-n):=by
  have e6:(2:Int)^k=2^(k-n)*2^n:=by rw [<- Int.pow_add];congr 1;omega
  rw [e6] at h4
  exact Int.eq_of_mul_eq_mul_right (by have:(0:Int)<2^n:=Int.pow_pos (by decide);omega) h4
 rw [h5]
 have hnz:(⟨2^(k-n),0,0,0⟩:P4)≠z:=fun e=>by
  have:(2:Int)^(k-n)=0:=congrArg P4.a e
  have:(0:Int)<2^(k-n):=Int.pow_pos (by decide)
  omega
 rw [lsz,if_neg hnz,lst_pow (k-n) (k+k) (by omega)]
 congr 1
 omega
end P4
end Go.Tz
namespace Go.Tz
open Go Go.AL Go.Proofs
variable {G:Nat->Option (List D)}
abbrev pD (p:P4):D:=.agg [iD p.a,iD p.b,iD p.c,iD p.d]
abbrev nD (p:P4) (k:Int):D:=.agg [iD p.a,iD p.b,iD p.c,iD p.d,iD k]
abbrev wD (p:P4) (k:Int):D:=.agg [iD p.a,iD p.b,iD p.c,iD p.d,iD k,.fn 219 [] []]
theorem chk149:chkFn Tryz.f149=true:=by kernel_rfl
theorem work149 (p:P4) (k:Int):PC Pr G 149 [nD p k] (wD p k):=by
 refine pc_walk pok Tryz.func149 chk149 ?_
 conv=>whnf
 repeat' first|((first|refine LookP.mk _ rfl ?_|refine ShlP.mk _ (by first|(simp only [List.set,over,List.take,List.drop,List.append_eq,List.nil_append,List.cons_append,List.length];rfl)|rfl) ?_|refine HpP.force ?_);conv=>whnf)
 exact fin rfl
theorem chk150:chkFn Tryz.f150=true:=by kernel_rfl
theorem of150 (p:P4) (k:Int):PC Pr G 150 [pD p,iD k] (nD p k):=by
 refine pc_walk pok Tryz.func150 chk150 ?_
 conv=>whnf
 repeat' first|((first|refine LookP.mk _ rfl ?_|refine ShlP.mk _ (by first|(simp only [List.set,over,List.take,List.drop,List.append_eq,List.nil_append,List.cons_append,List.length];rfl)|rfl) ?_|refine And.intro (by first|assumption|exact ⟨by kernel_rfl,rfl⟩|decide|omega) ?_|refine HpP.force ?_);conv=>whnf)
 exact fin rfl
theorem chk151:chkFn Tryz.f151=true:=by kernel_rfl
theorem parts151 (p:P4) (k:Int):PC Pr G 151 [wD p k] (pD p):=by
 refine pc_walk pok Tryz.func151 chk151 ?_
 conv=>whnf
 repeat' first|((first|refine LookP.mk _ rfl ?_|refine ShlP.mk _ (by first|(simp only [List.set,over,List.take,List.drop,List.append_eq,List.nil_append,List.cons_append,List.length];rfl)|rfl) ?_|refine HpP.force ?_);conv=>whnf)
 exact fin rfl
theorem ineg_eq {a:Int} (h0:-1000000000000<=a) (h1:a<=1000000000000):ineg .i64 a = -a:=by
 unfold ineg;rw [IntKind.wrap_i64];omega
abbrev Big (p:P4):Prop:=P4.Bd 100000000000 p
theorem chk152:chkFn Tryz.f152=true:=by kernel_rfl
theorem conj152 {p:P4} (h:Big p):PC Pr G 152 [pD p] (pD p.con):=by
 have e1:=ineg_eq (a:=p.b) (by unfold Big P4.Bd at h;omega) (by unfold Big P4.Bd at h;omega)
 have e2:=ineg_eq (a:=p.c) (by unfold Big P4.Bd at h;omega) (by unfold Big P4.Bd at h;omega)
 have e3:=ineg_eq (a:=p.d) (by unfold Big P4.Bd at h;omega) (by unfold Big P4.Bd at h;omega)
 refine pc_walk pok Tryz.func152 chk152 ?_
 conv=>whnf
 repeat' first|((first|refine LookP.mk _ rfl ?_|refine ShlP.mk _ (by first|(simp only [List.set,over,List.take,List.drop,List.append_eq,List.nil_append,List.cons_append,List.length];rfl)|rfl) ?_|refine And.intro (by first|assumption|exact ⟨by kernel_rfl,rfl⟩|decide|omega) ?_|refine HpP.force ?_);conv=>whnf)
 refine fin ?_
 unfold pD P4.con
 rw [<- e1,<- e2,<- e3]
theorem tdiv2 {a:Int} (h:a % 2=0):a.tdiv 2=a / 2:=by
 obtain ⟨c,rfl⟩:=Int.dvd_of_emod_eq_zero h
 rw [Int.mul_tdiv_cancel_left _ (by decide),Int.mul_ediv_cancel_left _ (by decide)]
theorem tmod2 (a:Int):(a.tmod 2==0)=decide (a % 2=0):=by
 rw [Bool.eq_iff_iff,beq_iff_eq,decide_eq_true_iff,<- Int.dvd_iff_tmod_eq_zero,Int.dvd_iff_emod_eq_zero]
theorem iquo2 {a:Int} (h:a % 2=0) (h0:-1000000000000<=a) (h1:a<=1000000000000):iquo .i64 a 2=a / 2:=by
 unfold iquo;rw [tdiv2 h,IntKind.wrap_i64];omega
theorem chk220:chkFn Tryz.f220=true:=by kernel_rfl
theorem half220 {p:P4} (h:Big p) (he:p.evn):PC Pr G 220 [pD p] (pD p.hlf):=by
 unfold Big P4.Bd at h
 unfold P4.evn at he
 have a1:isub .i64 p.b p.d=p.b-p.d:=isub_eq (by omega) (by omega)
 have a2:iadd .i64 p.a p.c=p.a+p.c:=iadd_eq (by omega) (by omega)
 have a3:iadd .i64 p.b p.d=p.b+p.d:=iadd_eq (by omega) (by omega)
 have a4:isub .i64 p.c p.a=p.c-p.a:=isub_eq (by omega) (by omega)
 have b1:=iquo2 (a:=p.b-p.d) (by omega) (by omega) (by omega)
 have b2:=iquo2 (a:=p.a+p.c) (by omega) (by omega) (by omega)
 have b3:=iquo2 (a:=p.b+p.d) (by omega) (by omega) (by omega)
 have b4:=iquo2 (a:=p.c-p.a) (by omega) (by omega) (by omega)
 refine pc_walk pok Tryz.func220 chk220 ?_
 conv=>whnf
 repeat' first|((first|refine LookP.mk _ rfl ?_|refine ShlP.mk _ (by first|(simp only [List.set,over,List.take,List.drop,List.append_eq,List.nil_append,List.cons_append,List.length];rfl)|rfl) ?_|refine And.intro (by first|assumption|exact ⟨by kernel_rfl,rfl⟩|decide|omega) ?_|refine HpP.force ?_);conv=>whnf)
 refine fin ?_
 unfold pD P4.hlf
 rw [<- b1,<- b2,<- b3,<- b4,a1,a2,a3,a4]
theorem chk222:chkFn Tryz.f222=true:=by kernel_rfl
theorem twice222 {p:P4} (h:Big p):PC Pr G 222 [pD p] (pD p.twc):=by
 unfold Big P4.Bd at h
 have a1:isub .i64 p.b p.d=p.b-p.d:=isub_eq (by omega) (by omega)
 have a2:iadd .i64 p.a p.c=p.a+p.c:=iadd_eq (by omega) (by omega)
 have a3:iadd .i64 p.b p.d=p.b+p.d:=iadd_eq (by omega) (by omega)
 have a4:isub .i64 p.c p.a=p.c-p.a:=isub_eq (by omega) (by omega)
 refine pc_walk pok Tryz.func222 chk222 ?_
 conv=>whnf
 repeat' first|((first|refine LookP.mk _ rfl ?_|refine ShlP.mk _ (by first|(simp only [List.set,over,List.take,List.drop,List.append_eq,List.nil_append,List.cons_append,List.length];rfl)|rfl) ?_|refine And.intro (by first|assumption|exact ⟨by kernel_rfl,rfl⟩|decide|omega) ?_|refine HpP.force ?_);conv=>whnf)
 refine fin ?_
 unfold pD P4.twc
 rw [<- a1,<- a2,<- a3,<- a4]
theorem chk221:chkFn Tryz.f221=true:=by kernel_rfl
theorem even221 {p:P4} (h:Big p):PC Pr G 221 [pD p] (.bool (decide p.evn)):=by
 unfold Big P4.Bd at h
 have a1:isub .i64 p.b p.d=p.b-p.d:=isub_eq (by omega) (by omega)
 have a4:isub .i64 p.a p.c=p.a-p.c:=isub_eq (by omega) (by omega)
 have e3:decide p.evn=(((p.a-p.c).tmod 2==0)&&((p.b-p.d).tmod 2==0)):=by
  rw [tmod2,tmod2,Bool.eq_iff_iff,decide_eq_true_iff,Bool.and_eq_true,decide_eq_true_iff,decide_eq_true_iff];rfl
 rw [e3]
 refine pc_walk pok Tryz.func221 chk221 ?_
 conv=>whnf
 repeat' first|((first|refine LookP.mk _ rfl ?_|refine And.intro (by first|assumption|exact ⟨by kernel_rfl,rfl⟩|decide|omega) ?_|rw [a4]|rw [a1]);conv=>whnf)|(intro t ht;cases t <;> conv=>whnf)
 all_goals (refine fin ?_;simp [*])
theorem chk262:chkFn Tryz.f262=true:=by kernel_rfl
theorem in262 {q n:Int} (hn:0<=n) (hb:n<=1000000000000) (h1:-n<=q) (h2:q<=n):PC Pr G 262 [iD q,.rop [iD n] 0] (.bool true):=by
 have e:=ineg_eq (a:=n) (by omega) hb
 have z1:decide (q<=n)=true:=decide_eq_true h2
 have z2:decide (q >= -n)=true:=decide_eq_true h1
 refine pc_walk pok Tryz.func262 chk262 ?_
 conv=>whnf
 repeat' first|(rw [e];conv=>whnf)|(intro t ht;cases t <;> conv=>whnf)
 all_goals first|exact fin rfl|(exfalso;rw [z1] at ht;cases ht;done)|(exfalso;rw [z2] at ht;cases ht;done)
theorem chk274:chkFn Tryz.f274=true:=by kernel_rfl
theorem ev274 (q:Int) (f:FuncId) (first cap:List D) (b:Bool) (hf:PC Pr G f (first++[iD q]++cap) (.bool b)):PC Pr G 274 [iD q,.rop [.fn f first cap] 0] (.bool (!b)):=by
 refine pc_walk pok Tryz.func274 chk274 ?_
 conv=>whnf
 repeat' first|((first|rw [forceL_eq]|refine pc_use3B hf rfl ?_);conv=>whnf)|(intro t ht;cases t <;> conv=>whnf)
 all_goals rw [ht];exact fin rfl
theorem chk261:chkFn Tryz.f261=true:=by kernel_rfl
theorem every261 (l:List Int) (t:Bool) (f:FuncId) (first cap:List D) (p:Int->Bool) (hn:l.length<=1000) (hf:∀ q,q∈l->PC Pr G f (first++[iD q]++cap) (.bool (p q))):PC Pr G 261 [intsD l t,.fn f first cap] (.bool (l.all p)):=by
 have hi:=has209 (G:=G) l t 274 [] [.rop [.fn f first cap] 0] (fun q=>!p q) hn fun q hq=>ev274 q f first cap (p q) (hf q hq)
 refine pc_walk pok Tryz.func261 chk261 ?_
 conv=>whnf
 have e:l.all p = !l.any (fun q=>!p q):=by
  rw [List.all_eq_not_any_not]
 rw [e]
 repeat' first|(refine pc_lendcB hi rfl ?_)|(intro t ht;cases t <;> conv=>whnf)
 all_goals rw [ht];exact fin rfl
theorem chk218:chkFn Tryz.f218=true:=by kernel_rfl
theorem within218 {p:P4} {n:Int} (hn:0<=n) (hb:n<=1000000000000) (h:P4.Bd n p):PC Pr G 218 [pD p,iD n] (.bool true):=by
 have hc:=every261 (G:=G) [p.a,p.b,p.c,p.d] true 262 [] [.rop [iD n] 0] (fun _=>true) (by simp) fun q hq=>by
  unfold P4.Bd at h
  refine in262 hn hb ?_ ?_ <;> (simp only [List.mem_cons,List.not_mem_nil,or_false] at hq;rcases hq with rfl|rfl|rfl|rfl <;> omega)
 refine pc_walk pok Tryz.func218 chk218 ?_
 conv=>whnf
 repeat' first|((first|refine pc_lend2 hc (.d _) (asD_fn1 (asD_rop rfl)) rfl ?_|refine HpP.force ?_);conv=>whnf)
 exact fin (by simp)
end Go.Tz
namespace Go.Tz
open Go Go.AL Go.Proofs
variable {G:Nat->Option (List D)}
theorem big_of {p:P4} {n:Int} (h:P4.Bd n p) (hn:n<=100000000000):Big p:=h.mono hn
theorem chk148:chkFn Tryz.f148=true:=by kernel_rfl
theorem check148g {p:P4} {k:Nat} (hk:k<=60) (h:P4.Bd 1073741824 p):PC Pr G 148 [nD p k] (iD 0):=by
 have c1:=work149 (G:=G) p k
 have c2:=parts151 (G:=G) p k
 have c3:=within218 (G:=G) (p:=p) (n:=1073741824) (by decide) (by decide) h
 have z1:decide ((k:Int)<0)=false:=decide_eq_false (by omega)
 have z2:decide ((k:Int)>60)=false:=decide_eq_false (by omega)
 refine pc_walk pok Tryz.func148 chk148 ?_
 conv=>whnf
 repeat' first|((first|refine LookP.mk _ rfl ?_|refine pc_use c1 ?_|refine pc_use c2 ?_|refine pc_use c3 ?_);conv=>whnf)|(intro t ht;cases t <;> conv=>whnf)
 all_goals first|exact fin rfl|(exfalso;rw [z1] at ht;cases ht;done)|(exfalso;rw [z2] at ht;cases ht;done)
theorem eq_z (p:P4):([p.a,p.b,p.c,p.d]==[0,0,0,0])=decide (p=P4.z):=by
 obtain ⟨a,b,c,d⟩:=p
 rw [Bool.eq_iff_iff,decide_eq_true_iff]
 simp [P4.z]
theorem chk153:chkFn Tryz.f153=true:=by kernel_rfl
theorem least153 {p:P4} {k:Nat} (hk:k<=60) (h:P4.Bd 1073741824 p):PC Pr G 153 [wD p k] (.tup [nD (P4.lsz k p).1 (P4.lsz k p).2,iD 0]):=by
 have c2:=parts151 (G:=G) p k
 have ez:=eq_z p
 refine pc_walk pok Tryz.func153 chk153 ?_
 conv=>whnf
 repeat' first|((first|refine LookP.mk _ rfl ?_|refine ShlP.mk _ (by first|(simp only [List.set,over,List.take,List.drop,List.append_eq,List.nil_append,List.cons_append,List.length];rfl)|rfl) ?_|refine And.intro (by first|assumption|exact ⟨by kernel_rfl,rfl⟩|decide|omega) ?_|refine pc_head c2 ?_|refine HpP.force ?_);conv=>whnf)|(intro t ht;cases t <;> conv=>whnf)
 ·have hnz:p≠P4.z:=fun e=>by rw [ez,decide_eq_false_iff_not] at ht;exact ht e
  have hb0:(0:Int)<=1073741824:=by decide
  rw [P4.lsz,if_neg hnz]
  refine loop_use2 (σ:={ s:P4 × Nat // P4.lst s.2 s.1=P4.lst k p/\s.2<=k/\P4.Bd 1073741824 s.1 }) (fun s=>⟨[(2,.ptr 1 5 0 0),(4,.ptr 2 4 0 0),(5,.d (iD s.1.2)),(6,.d (.fn 220 [pD s.1.1] [])),(7,.d (.fn 221 [pD s.1.1] []))],[(1,some (.arr 5 [(nmD 0 0 0 0 0).map AV.d])),(2,some (.arr 4 [[.d (iD s.1.1.a),.d (iD s.1.1.b),.d (iD s.1.1.c),.d (iD s.1.1.d)]]))],3⟩) (fun s=>s.1.2) ⟨(p,k),rfl,Nat.le_refl _,h⟩ ?_ (by kernel_rfl) ?_
  ·refine keep_env (by first|exact Nat.zero_le _|exact Nat.le_of_ble_eq_true rfl) ?_ ?_ trivial
   ·repeat' first|exact trivial|refine ⟨⟨by first|rfl|assumption,rfl⟩,?_⟩
   ·repeat' first|exact trivial|refine ⟨⟨ltB rfl,_,rfl,by first|rfl|assumption,by first|exact below1 rfl|exact below_dblk _ _ _|exact below_arr rfl⟩,?_⟩
  ·rintro ⟨⟨q,j⟩,h1,h2,h3⟩ A hA
   dsimp only at h1 h2 h3 hA ⊢
   have c3:=within218 (G:=G) (p:=q) (n:=1073741824) (by decide) (by decide) h3
   have c4:=of150 (G:=G) q j
   have c5:=even221 (G:=G) (big_of h3 (by decide))
   have z2:decide ((j:Int)>60)=false:=decide_eq_false (by omega)
   have z3:decide ((j:Int)<0)=false:=decide_eq_false (by omega)
   by_cases he:q.evn
   ·rw [decide_eq_true he] at c5
    cases j with
    | zero =>
     have z1:decide (((0:Nat):Int)>0)=false:=rfl
     conv=>whnf
     repeat' first|(refine knownB z1 ?_;conv=>whnf)
     refine loop_use2 (σ:=Unit) (fun _=>⟨[(2,.ptr 1 5 0 0),(4,.ptr 2 4 0 0),(5,.d (iD ((0:Nat):Int)))],[(1,some (.arr 5 [(nmD 0 0 0 0 0).map AV.d])),(2,some (.arr 4 [[.d (iD q.a),.d (iD q.b),.d (iD q.c),.d (iD q.d)]]))],3⟩) (fun _=>0) () ?_ (by kernel_rfl) ?_
     ·refine keep_env (by first|exact Nat.zero_le _|exact Nat.le_of_ble_eq_true rfl) ?_ ?_ trivial
      ·repeat' first|exact trivial|refine ⟨⟨by first|rfl|assumption,rfl⟩,?_⟩
      ·repeat' first|exact trivial|refine ⟨⟨ltB rfl,_,rfl,by first|rfl|assumption,by first|exact below1 rfl|exact below_dblk _ _ _|exact below_arr rfl⟩,?_⟩
     ·intro _ B hB
      conv=>whnf
      repeat' first|((first|refine LookP.mk _ rfl ?_|refine ShlP.mk _ (by first|(simp only [List.set,over,List.take,List.drop,List.append_eq,List.nil_append,List.cons_append,List.length];rfl)|rfl) ?_|refine knownB z3 ?_|refine pc_use c3 ?_|refine pc_use c4 ?_|refine HpP.force ?_);conv=>whnf)
      rw [<- h1];exact fin rfl
    | succ j =>
     have z1:decide (((j+1:Nat):Int)>0)=true:=decide_eq_true (by omega)
     have c6:=half220 (G:=G) (big_of h3 (by decide)) he
     have e1:isub .i64 ((j+1:Nat):Int) 1=(j:Int):=by rw [isub_eq (by omega) (by omega)];omega
     conv=>whnf
     repeat' first|((first|refine LookP.mk _ rfl ?_|refine ShlP.mk _ (by first|(simp only [List.set,over,List.take,List.drop,List.append_eq,List.nil_append,List.cons_append,List.length];rfl)|rfl) ?_|refine knownB z1 ?_|refine pc_use c5 ?_|refine pc_use c6 ?_|refine HpP.force ?_);conv=>whnf)
     refine hA _ ⟨(q.hlf,j),?_,by omega,P4.hlf_bd hb0 h3⟩ ?_ (by show j<j+1;omega)
     ·rw [<- h1];exact (if_pos he).symm
     ·refine keep_env (by first|exact Nat.zero_le _|exact Nat.le_of_ble_eq_true rfl) ?_ ?_ trivial
      ·repeat' first|exact trivial|refine ⟨⟨by first|rfl|assumption|exact congrArg (fun n=>AV.d (iD n)) e1,rfl⟩,?_⟩
      ·repeat' first|exact trivial|refine ⟨⟨ltB rfl,_,rfl,by first|rfl|assumption,by first|exact below1 rfl|exact below_dblk _ _ _|exact below_arr rfl⟩,?_⟩
   ·rw [decide_eq_false he] at c5
    have h1':P4.lst j q=(q,j):=by
     cases j with
     | zero=>rfl
     | succ j=>exact if_neg he
    conv=>whnf
    repeat' first|(refine pc_use c5 ?_;conv=>whnf)|(intro t ht;cases t <;> conv=>whnf)
    all_goals
     refine loop_use2 (σ:=Unit) (fun _=>⟨[(2,.ptr 1 5 0 0),(4,.ptr 2 4 0 0),(5,.d (iD (j:Int)))],[(1,some (.arr 5 [(nmD 0 0 0 0 0).map AV.d])),(2,some (.arr 4 [[.d (iD q.a),.d (iD q.b),.d (iD q.c),.d (iD q.d)]]))],3⟩) (fun _=>0) () ?_ (by kernel_rfl) ?_
     ·refine keep_env (by first|exact Nat.zero_le _|exact Nat.le_of_ble_eq_true rfl) ?_ ?_ trivial
      ·repeat' first|exact trivial|refine ⟨⟨by first|rfl|assumption,rfl⟩,?_⟩
      ·repeat' first|exact trivial|refine ⟨⟨ltB rfl,_,rfl,by first|rfl|assumption,by first|exact below1 rfl|exact below_dblk _ _ _|exact below_arr rfl⟩,?_⟩
     ·intro _ B hB
      conv=>whnf
      repeat' first|((first|refine LookP.mk _ rfl ?_|refine ShlP.mk _ (by first|(simp only [List.set,over,List.take,List.drop,List.append_eq,List.nil_append,List.cons_append,List.length];rfl)|rfl) ?_|refine knownB z3 ?_|refine pc_use c3 ?_|refine knownB z2 ?_|refine pc_use c4 ?_|refine HpP.force ?_);conv=>whnf)
      rw [<- h1,h1'];exact fin rfl
 ·rw [ez,decide_eq_true_iff] at ht
  rw [P4.lsz,if_pos ht];exact fin rfl
end Go.Tz
namespace Go.Tz
open Go Go.AL Go.Proofs
variable {G:Nat->Option (List D)}
theorem chk154:chkFn Tryz.f154=true:=by kernel_rfl
theorem checks154 (l:List (P4 × Nat)) (t:Bool) (hn:l.length<=1000) (h:∀ s,s∈l->s.2<=60/\P4.Bd 1073741824 s.1):PC Pr G 154 [.sl (l.map fun s=>[iD s.1.a,iD s.1.b,iD s.1.c,iD s.1.d,iD s.2]) t] (iD 0):=by
 have hl:(l.map fun s=>[iD s.1.a,iD s.1.b,iD s.1.c,iD s.1.d,iD s.2]).length=l.length:=by simp
 have hg:∀ k:Nat,(hk:k<l.length)->(l.map fun s=>[iD s.1.a,iD s.1.b,iD s.1.c,iD s.1.d,iD s.2])[(k:Int).toNat]?=some [iD l[k].1.a,iD l[k].1.b,iD l[k].1.c,iD l[k].1.d,iD l[k].2]:=fun k hk=>by
  rw [Int.toNat_natCast,List.getElem?_map,List.getElem?_eq_getElem hk];rfl
 generalize (l.map fun s=>[iD s.1.a,iD s.1.b,iD s.1.c,iD s.1.d,iD s.2])=V at hl hg ⊢
 refine pc_walk pok Tryz.func154 chk154 ?_
 conv=>whnf
 skip
 refine for_use pok (fun k=>⟨[(6,.d (.sl V t)),(7,.d (iD V.length)),(8,.d (iD k))],[],0⟩) (V.length) (fun _=>True) (trivial) ?_ (by kernel_rfl) ?_ ?_
 ·refine keep_env (by first|exact Nat.zero_le _|exact Nat.le_of_ble_eq_true rfl) ?_ ?_ trivial
  ·repeat' first|exact trivial|refine ⟨⟨by first|rfl|assumption,rfl⟩,?_⟩
  ·repeat' first|exact trivial|refine ⟨⟨ltB rfl,_,rfl,by first|rfl|assumption,by first|exact below1 rfl|exact below_dblk _ _ _|exact below_arr rfl⟩,?_⟩
 ·intro k A_k h_k I_k N_k
  have e_k:iadd .i64 (k:Int) 1=((k+1:Nat):Int):=iadd_nat (by first|omega|(simp at *;omega))
  have hgk:=hg k (by omega)
  have hs:=h (l[k]'(by omega)) (List.getElem_mem _)
  have c1:=check148g (G:=G) hs.1 hs.2
  have z0:((0:Int) != 0)=false:=rfl
  conv=>whnf
  repeat (refine LookP.mk _ rfl ?_;conv=>whnf)
  intro t ht
  cases t
  ·exfalso;first|(simp at ht;done)|(simp at ht;omega)
  conv=>whnf
  repeat' first|((first|refine LookP.mk _ (by first|rfl|exact hgk) ?_|refine ShlP.mk _ (by first|(simp only [List.set,over,List.take,List.drop,List.append_eq,List.nil_append,List.cons_append,List.length];rfl)|rfl) ?_|refine And.intro (by first|assumption|exact ⟨by kernel_rfl,rfl⟩|decide|omega) ?_|refine pc_use c1 ?_|refine knownB z0 ?_|refine HpP.force ?_);conv=>whnf)
  refine N_k _ ?_ ?_
  ·first|trivial|assumption|omega
  ·refine keep_env (by first|exact Nat.zero_le _|exact Nat.le_of_ble_eq_true rfl) ?_ ?_ trivial
   ·repeat' first|exact trivial|refine ⟨⟨by first|rfl|assumption|exact congrArg (fun n=>AV.d (iD n)) e_k,rfl⟩,?_⟩
   ·repeat' first|exact trivial|refine ⟨⟨ltB rfl,_,rfl,by first|rfl|assumption,by first|exact below1 rfl|exact below_dblk _ _ _|exact below_arr rfl⟩,?_⟩
 ·intro A_last I_last
  conv=>whnf
  repeat (refine LookP.mk _ rfl ?_;conv=>whnf)
  intro t ht
  cases t
  rotate_left
  ·exfalso;first|(simp at ht;done)|(simp at ht;omega)
  conv=>whnf
  skip
  exact fin rfl
theorem chk219:chkFn Tryz.f219=true:=by kernel_rfl
theorem with219 {a b:Int} (h0:-1000000000000<=a+b) (h1:a+b<=1000000000000):PC Pr G 219 [iD a,iD b] (iD (a+b)):=by
 have e:iadd .i64 a b=a+b:=iadd_eq (by omega) (by omega)
 refine pc_walk pok Tryz.func219 chk219 ?_
 conv=>whnf
 skip
 rw [<- e];exact fin rfl
theorem chk224:chkFn Tryz.f224=true:=by kernel_rfl
theorem raised224 {p:P4} {k K:Nat} (hk:k<=K) (hK:K<=1000) (hB:∀ j,j<=K-k->Big (P4.rse j p)):PC Pr G 224 [wD p k,iD K] (pD (P4.rse (K-k) p)):=by
 have c2:=parts151 (G:=G) p k
 have e1:isub .i64 (K:Int) (k:Int)=((K-k:Nat):Int):=isub_nat hk (by omega)
 refine pc_walk pok Tryz.func224 chk224 ?_
 conv=>whnf
 repeat' first|((first|refine LookP.mk _ rfl ?_|refine ShlP.mk _ (by first|(simp only [List.set,over,List.take,List.drop,List.append_eq,List.nil_append,List.cons_append,List.length];rfl)|rfl) ?_|refine pc_use c2 ?_|rw [e1]|refine HpP.force ?_);conv=>whnf)
 refine for_use pok (fun j=>⟨[(4,.ptr 1 4 0 0),(5,.ptr 2 4 0 0),(12,.d (iD (K-k:Nat))),(13,.d (iD j))],[(1,some (.arr 4 [[.d (iD 0),.d (iD 0),.d (iD 0),.d (iD 0)]])),(2,some (.arr 4 [[.d (iD (P4.rse j p).a),.d (iD (P4.rse j p).b),.d (iD (P4.rse j p).c),.d (iD (P4.rse j p).d)]]))],3⟩) ((K-k)) (fun _=>True) (trivial) ?_ (by kernel_rfl) ?_ ?_
 ·refine keep_env (by first|exact Nat.zero_le _|exact Nat.le_of_ble_eq_true rfl) ?_ ?_ trivial
  ·repeat' first|exact trivial|refine ⟨⟨by first|rfl|assumption|exact congrArg (fun n=>AV.d (iD n)) e1,rfl⟩,?_⟩
  ·repeat' first|exact trivial|refine ⟨⟨ltB rfl,_,rfl,by first|rfl|assumption,by first|exact below1 rfl|exact below_dblk _ _ _|exact below_arr rfl⟩,?_⟩
 ·intro j A_j h_j I_j N_j
  have e_j:iadd .i64 (j:Int) 1=((j+1:Nat):Int):=iadd_nat (by first|omega|(simp at *;omega))
  have c3:=twice222 (G:=G) (hB j (by omega))
  have er:P4.rse (j+1) p=(P4.rse j p).twc:=P4.rse_twc j p
  rw [er] at N_j
  generalize P4.rse j p=q at c3 N_j ⊢
  conv=>whnf
  repeat (refine LookP.mk _ rfl ?_;conv=>whnf)
  intro t ht
  cases t
  ·exfalso;first|(simp at ht;done)|(simp at ht;omega)
  conv=>whnf
  repeat' first|((first|refine LookP.mk _ rfl ?_|refine ShlP.mk _ (by first|(simp only [List.set,over,List.take,List.drop,List.append_eq,List.nil_append,List.cons_append,List.length];rfl)|rfl) ?_|refine pc_use c3 ?_|refine HpP.force ?_);conv=>whnf)
  refine N_j _ ?_ ?_
  ·first|trivial|assumption|omega
  ·refine keep_env (by first|exact Nat.zero_le _|exact Nat.le_of_ble_eq_true rfl) ?_ ?_ trivial
   ·repeat' first|exact trivial|refine ⟨⟨by first|rfl|assumption|exact congrArg (fun n=>AV.d (iD n)) e_j,rfl⟩,?_⟩
   ·repeat' first|exact trivial|refine ⟨⟨ltB rfl,_,rfl,by first|rfl|assumption,by first|exact below1 rfl|exact below_dblk _ _ _|exact below_arr rfl⟩,?_⟩
 ·intro A_last I_last
  conv=>whnf
  repeat (refine LookP.mk _ rfl ?_;conv=>whnf)
  intro t ht
  cases t
  rotate_left
  ·exfalso;first|(simp at ht;done)|(simp at ht;omega)
  conv=>whnf
  repeat' first|((first|refine LookP.mk _ rfl ?_|refine ShlP.mk _ (by first|(simp only [List.set,over,List.take,List.drop,List.append_eq,List.nil_append,List.cons_append,List.length];rfl)|rfl) ?_|refine HpP.force ?_);conv=>whnf)
  exact fin rfl
end Go.Tz
namespace Go.Tz
open Go Go.AL Go.Proofs
variable {G:Nat->Option (List D)}
theorem mul_bd {u v:Int} (h1:-16384<=u) (h2:u<=16384) (h3:-16384<=v) (h4:v<=16384):-268435456<=u*v/\u*v<=268435456:=by
 have h:(u*v).natAbs<=16384*16384:=by
  rw [Int.natAbs_mul]
  exact Nat.mul_le_mul (by omega) (by omega)
 omega
def upd (o:P4):Nat->Int->P4
 | 0,x=>⟨o.a+x,o.b,o.c,o.d⟩
 | 1,x=>⟨o.a,o.b+x,o.c,o.d⟩
 | 2,x=>⟨o.a,o.b,o.c+x,o.d⟩
 | _,x=>⟨o.a,o.b,o.c,o.d+x⟩
def P4.at (p:P4):Nat->Int
 | 0=>p.a
 | 1=>p.b
 | 2=>p.c
 | _=>p.d
def tmU (p q:P4) (i k:Nat) (o:P4):P4:=upd o ((i+k) % 4) (if i+k<4 then p.at i*q.at k else-(p.at i*q.at k))
def tmI (p q:P4) (i:Nat):Nat->P4->P4
 | 0,o=>o
 | k+1,o=>tmU p q i k (tmI p q i k o)
def tmO (p q:P4):Nat->P4
 | 0=>P4.z
 | i+1=>tmI p q i 4 (tmO p q i)
theorem tm_mul (p q:P4):tmO p q 4=p.mul q:=by
 simp only [tmO,tmI,tmU,upd,P4.at,P4.mul,P4.z,P4.mk.injEq]
 refine ⟨?_,?_,?_,?_⟩ <;> (simp;try grind)
theorem at_bd {p:P4} (h:P4.Bd 16384 p) (i:Nat):-16384<=p.at i/\p.at i<=16384:=by
 unfold P4.Bd at h
 unfold P4.at
 split <;> omega
theorem upd_bd {o:P4} {n x m:Int} (h:P4.Bd n o) (hx:-m<=x/\x<=m) (j:Nat):P4.Bd (n+m) (upd o j x):=by
 unfold P4.Bd at *
 unfold upd
 split <;> (simp only;omega)
theorem tmU_bd {p q o:P4} (h1:P4.Bd 16384 p) (h2:P4.Bd 16384 q) {n:Int} (h:P4.Bd n o) (i k:Nat):P4.Bd (n+268435456) (tmU p q i k o):=by
 have a:=at_bd h1 i
 have b:=at_bd h2 k
 have c:=mul_bd a.1 a.2 b.1 b.2
 refine upd_bd h ?_ _
 split <;> omega
theorem tmI_bd {p q o:P4} (h1:P4.Bd 16384 p) (h2:P4.Bd 16384 q) {n:Int} (h:P4.Bd n o) (i:Nat):∀ k:Nat,P4.Bd (n+268435456*k) (tmI p q i k o)
 | 0=>by
  show P4.Bd _ o
  exact h.mono (by omega)
 | k+1=>by
  have:=tmU_bd h1 h2 (tmI_bd h1 h2 h i k) i k
  exact this.mono (by push_cast;omega)
theorem tmO_bd {p q:P4} (h1:P4.Bd 16384 p) (h2:P4.Bd 16384 q):∀ i:Nat,P4.Bd (268435456*4*i) (tmO p q i)
 | 0=>P4.z_bd (by decide)
 | i+1=>(tmI_bd h1 h2 (tmO_bd h1 h2 i) i 4).mono (by push_cast;omega)
theorem chk223:chkFn Tryz.f223=true:=by kernel_rfl
set_option maxHeartbeats 4000000 in
theorem times223 {p q:P4} (h1:P4.Bd 16384 p) (h2:P4.Bd 16384 q):PC Pr G 223 [pD p,pD q] (pD (p.mul q)):=by
 rw [<- tm_mul]
 refine pc_walk pok Tryz.func223 chk223 ?_
 conv=>whnf
 repeat' first|(refine LookP.mk _ rfl ?_;conv=>whnf)
 refine for_use pok (fun i=>⟨[(3,.ptr 1 4 0 0),(4,.ptr 2 4 0 0),(5,.ptr 3 4 0 0),(10,.d (pD p)),(11,.d (iD i))],[(1,some (.arr 4 [[.d (iD q.a),.d (iD q.b),.d (iD q.c),.d (iD q.d)]])),(2,some (.arr 4 [[.d (iD 0),.d (iD 0),.d (iD 0),.d (iD 0)]])),(3,some (.arr 4 [[.d (iD (tmO p q i).a),.d (iD (tmO p q i).b),.d (iD (tmO p q i).c),.d (iD (tmO p q i).d)]]))],4⟩) (4) (fun _=>True) (trivial) ?_ (by kernel_rfl) ?_ ?_
 ·refine keep_env (by first|exact Nat.zero_le _|exact Nat.le_of_ble_eq_true rfl) ?_ ?_ trivial
  ·repeat' first|exact trivial|refine ⟨⟨by first|rfl|assumption,rfl⟩,?_⟩
  ·repeat' first|exact trivial|refine ⟨⟨ltB rfl,_,rfl,by first|rfl|assumption,by first|exact below1 rfl|exact below_dblk _ _ _|exact below_arr rfl⟩,?_⟩
 ·intro i A_i h_i I_i N_i
  have e_i:iadd .i64 (i:Int) 1=((i+1:Nat):Int):=iadd_nat (by first|omega|(simp at *;omega))
  have hob:=(tmO_bd h1 h2 i).mono (show 268435456*4*(i:Int)<=4294967296 by omega)
  have eI:tmO p q (i+1)=tmI p q i 4 (tmO p q i):=rfl
  rw [eI] at N_i
  generalize tmO p q i=o at hob N_i ⊢
  have hi4:i=0\/i=1\/i=2\/i=3:=by omega
  rcases hi4 with rfl|rfl|rfl|rfl
  ·conv=>whnf
   repeat (refine LookP.mk _ rfl ?_;conv=>whnf)
   intro t ht
   cases t
   ·exfalso;first|(simp at ht;done)|(simp at ht;omega)
   conv=>whnf
   repeat' first|((first|refine LookP.mk _ rfl ?_|refine And.intro (by first|exact ⟨by decide,by decide,rfl,by decide⟩|assumption|exact ⟨by kernel_rfl,rfl⟩|decide|omega) ?_|fail);conv=>whnf)|fail
   refine for_use pok (fun k=>⟨[(3,.ptr 1 4 0 0),(4,.ptr 2 4 0 0),(5,.ptr 3 4 0 0),(6,.d (iD (0:Nat))),(7,.d (iD p.a)),(10,.d (pD p)),(11,.d (iD (0:Nat))),(15,.d (pD q)),(16,.d (iD k))],[(1,some (.arr 4 [[.d (iD q.a),.d (iD q.b),.d (iD q.c),.d (iD q.d)]])),(2,some (.arr 4 [[.d (iD 0),.d (iD 0),.d (iD 0),.d (iD 0)]])),(3,some (.arr 4 [[.d (iD (tmI p q 0 k o).a),.d (iD (tmI p q 0 k o).b),.d (iD (tmI p q 0 k o).c),.d (iD (tmI p q 0 k o).d)]]))],4⟩) (4) (fun _=>True) (trivial) ?_ (by kernel_rfl) ?_ ?_
   ·refine keep_env (by first|exact Nat.zero_le _|exact Nat.le_of_ble_eq_true rfl) ?_ ?_ trivial
    ·repeat' first|exact trivial|refine ⟨⟨by first|rfl|assumption,rfl⟩,?_⟩
    ·repeat' first|exact trivial|refine ⟨⟨ltB rfl,_,rfl,by first|rfl|assumption,by first|exact below1 rfl|exact below_dblk _ _ _|exact below_arr rfl⟩,?_⟩
   ·intro k A_k h_k I_k N_k
    have e_k:iadd .i64 (k:Int) 1=((k+1:Nat):Int):=iadd_nat (by first|omega|(simp at *;omega))
    have hkb:=(tmI_bd h1 h2 hob 0 k).mono (show 4294967296+268435456*(k:Int)<=8589934592 by omega)
    have eK:tmI p q 0 (k+1) o=tmU p q 0 k (tmI p q 0 k o):=rfl
    rw [eK] at N_k
    generalize tmI p q 0 k o=u at hkb N_k ⊢
    have hk4:k=0\/k=1\/k=2\/k=3:=by omega
    have hai:=at_bd h1 0
    unfold P4.Bd at hkb
    rcases hk4 with rfl|rfl|rfl|rfl
    ·have hbk:=at_bd h2 0
     have hm:-268435456<=p.a*q.a/\p.a*q.a<=268435456:=mul_bd hai.1 hai.2 hbk.1 hbk.2
     have em:imul .i64 p.a q.a=p.a*q.a:=imul_eq (by omega) (by omega)
     have eo:iadd .i64 u.a (p.a*q.a)=(tmU p q 0 0 u).a:=iadd_eq (by omega) (by omega)
     have es:iadd .i64 ((0:Nat):Int) ((0:Nat):Int)=0:=by decide
     have hl4:decide ((0:Int)<4)=true:=by decide
     conv=>whnf
     repeat (refine LookP.mk _ rfl ?_;conv=>whnf)
     intro t ht
     cases t
     ·exfalso;first|(simp at ht;done)|(simp at ht;omega)
     conv=>whnf
     repeat' first|((first|refine LookP.mk _ rfl ?_|refine ShlP.mk _ (by first|(simp only [List.set,over,List.take,List.drop,List.append_eq,List.nil_append,List.cons_append,List.length];rfl)|rfl) ?_|refine And.intro (by first|exact ⟨by decide,by decide,rfl,by decide⟩|assumption|exact ⟨by kernel_rfl,rfl⟩|decide|omega) ?_|rw [es]|refine knownB hl4 ?_|rw [em]|rw [eo]|refine HpP.force ?_);conv=>whnf)
     refine N_k _ ?_ ?_
     ·first|trivial|assumption|omega
     ·refine keep_env (by first|exact Nat.zero_le _|exact Nat.le_of_ble_eq_true rfl) ?_ ?_ trivial
      ·repeat' first|exact trivial|refine ⟨⟨by first|rfl|assumption|exact congrArg (fun n=>AV.d (iD n)) e_k,rfl⟩,?_⟩
      ·repeat' first|exact trivial|refine ⟨⟨ltB rfl,_,rfl,by first|rfl|assumption,by first|exact below1 rfl|exact below_dblk _ _ _|exact below_arr rfl⟩,?_⟩
    ·have hbk:=at_bd h2 1
     have hm:-268435456<=p.a*q.b/\p.a*q.b<=268435456:=mul_bd hai.1 hai.2 hbk.1 hbk.2
     have em:imul .i64 p.a q.b=p.a*q.b:=imul_eq (by omega) (by omega)
     have eo:iadd .i64 u.b (p.a*q.b)=(tmU p q 0 1 u).b:=iadd_eq (by omega) (by omega)
     have es:iadd .i64 ((0:Nat):Int) ((1:Nat):Int)=1:=by decide
     have hl4:decide ((1:Int)<4)=true:=by decide
     conv=>whnf
     repeat (refine LookP.mk _ rfl ?_;conv=>whnf)
     intro t ht
     cases t
     ·exfalso;first|(simp at ht;done)|(simp at ht;omega)
     conv=>whnf
     repeat' first|((first|refine LookP.mk _ rfl ?_|refine ShlP.mk _ (by first|(simp only [List.set,over,List.take,List.drop,List.append_eq,List.nil_append,List.cons_append,List.length];rfl)|rfl) ?_|refine And.intro (by first|exact ⟨by decide,by decide,rfl,by decide⟩|assumption|exact ⟨by kernel_rfl,rfl⟩|decide|omega) ?_|rw [es]|refine knownB hl4 ?_|rw [em]|rw [eo]|refine HpP.force ?_);conv=>whnf)
     refine N_k _ ?_ ?_
     ·first|trivial|assumption|omega
     ·refine keep_env (by first|exact Nat.zero_le _|exact Nat.le_of_ble_eq_true rfl) ?_ ?_ trivial
      ·repeat' first|exact trivial|refine ⟨⟨by first|rfl|assumption|exact congrArg (fun n=>AV.d (iD n)) e_k,rfl⟩,?_⟩
      ·repeat' first|exact trivial|refine ⟨⟨ltB rfl,_,rfl,by first|rfl|assumption,by first|exact below1 rfl|exact below_dblk _ _ _|exact below_arr rfl⟩,?_⟩
    ·have hbk:=at_bd h2 2
     have hm:-268435456<=p.a*q.c/\p.a*q.c<=268435456:=mul_bd hai.1 hai.2 hbk.1 hbk.2
     have em:imul .i64 p.a q.c=p.a*q.c:=imul_eq (by omega) (by omega)
     have eo:iadd .i64 u.c (p.a*q.c)=(tmU p q 0 2 u).c:=iadd_eq (by omega) (by omega)
     have es:iadd .i64 ((0:Nat):Int) ((2:Nat):Int)=2:=by decide
     have hl4:decide ((2:Int)<4)=true:=by decide
     conv=>whnf
     repeat (refine LookP.mk _ rfl ?_;conv=>whnf)
     intro t ht
     cases t
     ·exfalso;first|(simp at ht;done)|(simp at ht;omega)
     conv=>whnf
     repeat' first|((first|refine LookP.mk _ rfl ?_|refine ShlP.mk _ (by first|(simp only [List.set,over,List.take,List.drop,List.append_eq,List.nil_append,List.cons_append,List.length];rfl)|rfl) ?_|refine And.intro (by first|exact ⟨by decide,by decide,rfl,by decide⟩|assumption|exact ⟨by kernel_rfl,rfl⟩|decide|omega) ?_|rw [es]|refine knownB hl4 ?_|rw [em]|rw [eo]|refine HpP.force ?_);conv=>whnf)
     refine N_k _ ?_ ?_
     ·first|trivial|assumption|omega
     ·refine keep_env (by first|exact Nat.zero_le _|exact Nat.le_of_ble_eq_true rfl) ?_ ?_ trivial
      ·repeat' first|exact trivial|refine ⟨⟨by first|rfl|assumption|exact congrArg (fun n=>AV.d (iD n)) e_k,rfl⟩,?_⟩
      ·repeat' first|exact trivial|refine ⟨⟨ltB rfl,_,rfl,by first|rfl|assumption,by first|exact below1 rfl|exact below_dblk _ _ _|exact below_arr rfl⟩,?_⟩
    ·have hbk:=at_bd h2 3
     have hm:-268435456<=p.a*q.d/\p.a*q.d<=268435456:=mul_bd hai.1 hai.2 hbk.1 hbk.2
     have em:imul .i64 p.a q.d=p.a*q.d:=imul_eq (by omega) (by omega)
     have eo:iadd .i64 u.d (p.a*q.d)=(tmU p q 0 3 u).d:=iadd_eq (by omega) (by omega)
     have es:iadd .i64 ((0:Nat):Int) ((3:Nat):Int)=3:=by decide
     have hl4:decide ((3:Int)<4)=true:=by decide
     conv=>whnf
     repeat (refine LookP.mk _ rfl ?_;conv=>whnf)
     intro t ht
     cases t
     ·exfalso;first|(simp at ht;done)|(simp at ht;omega)
     conv=>whnf
     repeat' first|((first|refine LookP.mk _ rfl ?_|refine ShlP.mk _ (by first|(simp only [List.set,over,List.take,List.drop,List.append_eq,List.nil_append,List.cons_append,List.length];rfl)|rfl) ?_|refine And.intro (by first|exact ⟨by decide,by decide,rfl,by decide⟩|assumption|exact ⟨by kernel_rfl,rfl⟩|decide|omega) ?_|rw [es]|refine knownB hl4 ?_|rw [em]|rw [eo]|refine HpP.force ?_);conv=>whnf)
     refine N_k _ ?_ ?_
     ·first|trivial|assumption|omega
     ·refine keep_env (by first|exact Nat.zero_le _|exact Nat.le_of_ble_eq_true rfl) ?_ ?_ trivial
      ·repeat' first|exact trivial|refine ⟨⟨by first|rfl|assumption|exact congrArg (fun n=>AV.d (iD n)) e_k,rfl⟩,?_⟩
      ·repeat' first|exact trivial|refine ⟨⟨ltB rfl,_,rfl,by first|rfl|assumption,by first|exact below1 rfl|exact below_dblk _ _ _|exact below_arr rfl⟩,?_⟩
   ·intro A_last I_last
    conv=>whnf
    repeat (refine LookP.mk _ rfl ?_;conv=>whnf)
    intro t ht
    cases t
    rotate_left
    ·exfalso;first|(simp at ht;done)|(simp at ht;omega)
    conv=>whnf
    skip
    refine N_i _ ?_ ?_
    ·first|trivial|assumption|omega
    ·refine keep_env (by first|exact Nat.zero_le _|exact Nat.le_of_ble_eq_true rfl) ?_ ?_ trivial
     ·repeat' first|exact trivial|refine ⟨⟨by first|rfl|assumption|exact congrArg (fun n=>AV.d (iD n)) e_i,rfl⟩,?_⟩
     ·repeat' first|exact trivial|refine ⟨⟨ltB rfl,_,rfl,by first|rfl|assumption,by first|exact below1 rfl|exact below_dblk _ _ _|exact below_arr rfl⟩,?_⟩
  ·conv=>whnf
   repeat (refine LookP.mk _ rfl ?_;conv=>whnf)
   intro t ht
   cases t
   ·exfalso;first|(simp at ht;done)|(simp at ht;omega)
   conv=>whnf
   repeat' first|((first|refine LookP.mk _ rfl ?_|refine And.intro (by first|exact ⟨by decide,by decide,rfl,by decide⟩|assumption|exact ⟨by kernel_rfl,rfl⟩|decide|omega) ?_|fail);conv=>whnf)|fail
   refine for_use pok (fun k=>⟨[(3,.ptr 1 4 0 0),(4,.ptr 2 4 0 0),(5,.ptr 3 4 0 0),(6,.d (iD (1:Nat))),(7,.d (iD p.b)),(10,.d (pD p)),(11,.d (iD (1:Nat))),(15,.d (pD q)),(16,.d (iD k))],[(1,some (.arr 4 [[.d (iD q.a),.d (iD q.b),.d (iD q.c),.d (iD q.d)]])),(2,some (.arr 4 [[.d (iD 0),.d (iD 0),.d (iD 0),.d (iD 0)]])),(3,some (.arr 4 [[.d (iD (tmI p q 1 k o).a),.d (iD (tmI p q 1 k o).b),.d (iD (tmI p q 1 k o).c),.d (iD (tmI p q 1 k o).d)]]))],4⟩) (4) (fun _=>True) (trivial) ?_ (by kernel_rfl) ?_ ?_
   ·refine keep_env (by first|exact Nat.zero_le _|exact Nat.le_of_ble_eq_true rfl) ?_ ?_ trivial
    ·repeat' first|exact trivial|refine ⟨⟨by first|rfl|assumption,rfl⟩,?_⟩
    ·repeat' first|exact trivial|refine ⟨⟨ltB rfl,_,rfl,by first|rfl|assumption,by first|exact below1 rfl|exact below_dblk _ _ _|exact below_arr rfl⟩,?_⟩
   ·intro k A_k h_k I_k N_k
    have e_k:iadd .i64 (k:Int) 1=((k+1:Nat):Int):=iadd_nat (by first|omega|(simp at *;omega))
    have hkb:=(tmI_bd h1 h2 hob 1 k).mono (show 4294967296+268435456*(k:Int)<=8589934592 by omega)
    have eK:tmI p q 1 (k+1) o=tmU p q 1 k (tmI p q 1 k o):=rfl
    rw [eK] at N_k
    generalize tmI p q 1 k o=u at hkb N_k ⊢
    have hk4:k=0\/k=1\/k=2\/k=3:=by omega
    have hai:=at_bd h1 1
    unfold P4.Bd at hkb
    rcases hk4 with rfl|rfl|rfl|rfl
    ·have hbk:=at_bd h2 0
     have hm:-268435456<=p.b*q.a/\p.b*q.a<=268435456:=mul_bd hai.1 hai.2 hbk.1 hbk.2
     have em:imul .i64 p.b q.a=p.b*q.a:=imul_eq (by omega) (by omega)
     have eo:iadd .i64 u.b (p.b*q.a)=(tmU p q 1 0 u).b:=iadd_eq (by omega) (by omega)
     have es:iadd .i64 ((1:Nat):Int) ((0:Nat):Int)=1:=by decide
     have hl4:decide ((1:Int)<4)=true:=by decide
     conv=>whnf
     repeat (refine LookP.mk _ rfl ?_;conv=>whnf)
     intro t ht
     cases t
     ·exfalso;first|(simp at ht;done)|(simp at ht;omega)
     conv=>whnf
     repeat' first|((first|refine LookP.mk _ rfl ?_|refine ShlP.mk _ (by first|(simp only [List.set,over,List.take,List.drop,List.append_eq,List.nil_append,List.cons_append,List.length];rfl)|rfl) ?_|refine And.intro (by first|exact ⟨by decide,by decide,rfl,by decide⟩|assumption|exact ⟨by kernel_rfl,rfl⟩|decide|omega) ?_|rw [es]|refine knownB hl4 ?_|rw [em]|rw [eo]|refine HpP.force ?_);conv=>whnf)
     refine N_k _ ?_ ?_
     ·first|trivial|assumption|omega
     ·refine keep_env (by first|exact Nat.zero_le _|exact Nat.le_of_ble_eq_true rfl) ?_ ?_ trivial
      ·repeat' first|exact trivial|refine ⟨⟨by first|rfl|assumption|exact congrArg (fun n=>AV.d (iD n)) e_k,rfl⟩,?_⟩
      ·repeat' first|exact trivial|refine ⟨⟨ltB rfl,_,rfl,by first|rfl|assumption,by first|exact below1 rfl|exact below_dblk _ _ _|exact below_arr rfl⟩,?_⟩
    ·have hbk:=at_bd h2 1
     have hm:-268435456<=p.b*q.b/\p.b*q.b<=268435456:=mul_bd hai.1 hai.2 hbk.1 hbk.2
     have em:imul .i64 p.b q.b=p.b*q.b:=imul_eq (by omega) (by omega)
     have eo:iadd .i64 u.c (p.b*q.b)=(tmU p q 1 1 u).c:=iadd_eq (by omega) (by omega)
     have es:iadd .i64 ((1:Nat):Int) ((1:Nat):Int)=2:=by decide
     have hl4:decide ((2:Int)<4)=true:=by decide
     conv=>whnf
     repeat (refine LookP.mk _ rfl ?_;conv=>whnf)
     intro t ht
     cases t
     ·exfalso;first|(simp at ht;done)|(simp at ht;omega)
     conv=>whnf
     repeat' first|((first|refine LookP.mk _ rfl ?_|refine ShlP.mk _ (by first|(simp only [List.set,over,List.take,List.drop,List.append_eq,List.nil_append,List.cons_append,List.length];rfl)|rfl) ?_|refine And.intro (by first|exact ⟨by decide,by decide,rfl,by decide⟩|assumption|exact ⟨by kernel_rfl,rfl⟩|decide|omega) ?_|rw [es]|refine knownB hl4 ?_|rw [em]|rw [eo]|refine HpP.force ?_);conv=>whnf)
     refine N_k _ ?_ ?_
     ·first|trivial|assumption|omega
     ·refine keep_env (by first|exact Nat.zero_le _|exact Nat.le_of_ble_eq_true rfl) ?_ ?_ trivial
      ·repeat' first|exact trivial|refine ⟨⟨by first|rfl|assumption|exact congrArg (fun n=>AV.d (iD n)) e_k,rfl⟩,?_⟩
      ·repeat' first|exact trivial|refine ⟨⟨ltB rfl,_,rfl,by first|rfl|assumption,by first|exact below1 rfl|exact below_dblk _ _ _|exact below_arr rfl⟩,?_⟩
    ·have hbk:=at_bd h2 2
     have hm:-268435456<=p.b*q.c/\p.b*q.c<=268435456:=mul_bd hai.1 hai.2 hbk.1 hbk.2
     have em:imul .i64 p.b q.c=p.b*q.c:=imul_eq (by omega) (by omega)
     have eo:iadd .i64 u.d (p.b*q.c)=(tmU p q 1 2 u).d:=iadd_eq (by omega) (by omega)
     have es:iadd .i64 ((1:Nat):Int) ((2:Nat):Int)=3:=by decide
     have hl4:decide ((3:Int)<4)=true:=by decide
     conv=>whnf
     repeat (refine LookP.mk _ rfl ?_;conv=>whnf)
     intro t ht
     cases t
     ·exfalso;first|(simp at ht;done)|(simp at ht;omega)
     conv=>whnf
     repeat' first|((first|refine LookP.mk _ rfl ?_|refine ShlP.mk _ (by first|(simp only [List.set,over,List.take,List.drop,List.append_eq,List.nil_append,List.cons_append,List.length];rfl)|rfl) ?_|refine And.intro (by first|exact ⟨by decide,by decide,rfl,by decide⟩|assumption|exact ⟨by kernel_rfl,rfl⟩|decide|omega) ?_|rw [es]|refine knownB hl4 ?_|rw [em]|rw [eo]|refine HpP.force ?_);conv=>whnf)
     refine N_k _ ?_ ?_
     ·first|trivial|assumption|omega
     ·refine keep_env (by first|exact Nat.zero_le _|exact Nat.le_of_ble_eq_true rfl) ?_ ?_ trivial
      ·repeat' first|exact trivial|refine ⟨⟨by first|rfl|assumption|exact congrArg (fun n=>AV.d (iD n)) e_k,rfl⟩,?_⟩
      ·repeat' first|exact trivial|refine ⟨⟨ltB rfl,_,rfl,by first|rfl|assumption,by first|exact below1 rfl|exact below_dblk _ _ _|exact below_arr rfl⟩,?_⟩
    ·have hbk:=at_bd h2 3
     have hm:-268435456<=p.b*q.d/\p.b*q.d<=268435456:=mul_bd hai.1 hai.2 hbk.1 hbk.2
     have em:imul .i64 p.b q.d=p.b*q.d:=imul_eq (by omega) (by omega)
     have eo:isub .i64 u.a (p.b*q.d)=(tmU p q 1 3 u).a:=by rw [isub_eq (by omega) (by omega)];show _=_ + -(_*_);exact Int.sub_eq_add_neg
     have es:iadd .i64 ((1:Nat):Int) ((3:Nat):Int)=4:=by decide
     have hl4:decide ((4:Int)<4)=false:=by decide
     have e4:isub .i64 4 4=0:=by decide
     conv=>whnf
     repeat (refine LookP.mk _ rfl ?_;conv=>whnf)
     intro t ht
     cases t
     ·exfalso;first|(simp at ht;done)|(simp at ht;omega)
     conv=>whnf
     repeat' first|((first|refine LookP.mk _ rfl ?_|refine ShlP.mk _ (by first|(simp only [List.set,over,List.take,List.drop,List.append_eq,List.nil_append,List.cons_append,List.length];rfl)|rfl) ?_|refine And.intro (by first|exact ⟨by decide,by decide,rfl,by decide⟩|assumption|exact ⟨by kernel_rfl,rfl⟩|decide|omega) ?_|rw [es]|refine knownB hl4 ?_|rw [e4]|rw [em]|rw [eo]|refine HpP.force ?_);conv=>whnf)
     refine N_k _ ?_ ?_
     ·first|trivial|assumption|omega
     ·refine keep_env (by first|exact Nat.zero_le _|exact Nat.le_of_ble_eq_true rfl) ?_ ?_ trivial
      ·repeat' first|exact trivial|refine ⟨⟨by first|rfl|assumption|exact congrArg (fun n=>AV.d (iD n)) e_k,rfl⟩,?_⟩
      ·repeat' first|exact trivial|refine ⟨⟨ltB rfl,_,rfl,by first|rfl|assumption,by first|exact below1 rfl|exact below_dblk _ _ _|exact below_arr rfl⟩,?_⟩
   ·intro A_last I_last
    conv=>whnf
    repeat (refine LookP.mk _ rfl ?_;conv=>whnf)
    intro t ht
    cases t
    rotate_left
    ·exfalso;first|(simp at ht;done)|(simp at ht;omega)
    conv=>whnf
    skip
    refine N_i _ ?_ ?_
    ·first|trivial|assumption|omega
    ·refine keep_env (by first|exact Nat.zero_le _|exact Nat.le_of_ble_eq_true rfl) ?_ ?_ trivial
     ·repeat' first|exact trivial|refine ⟨⟨by first|rfl|assumption|exact congrArg (fun n=>AV.d (iD n)) e_i,rfl⟩,?_⟩
     ·repeat' first|exact trivial|refine ⟨⟨ltB rfl,_,rfl,by first|rfl|assumption,by first|exact below1 rfl|exact below_dblk _ _ _|exact below_arr rfl⟩,?_⟩
  ·conv=>whnf
   repeat (refine LookP.mk _ rfl ?_;conv=>whnf)
   intro t ht
   cases t
   ·exfalso;first|(simp at ht;done)|(simp at ht;omega)
   conv=>whnf
   repeat' first|((first|refine LookP.mk _ rfl ?_|refine And.intro (by first|exact ⟨by decide,by decide,rfl,by decide⟩|assumption|exact ⟨by kernel_rfl,rfl⟩|decide|omega) ?_|fail);conv=>whnf)|fail
   refine for_use pok (fun k=>⟨[(3,.ptr 1 4 0 0),(4,.ptr 2 4 0 0),(5,.ptr 3 4 0 0),(6,.d (iD (2:Nat))),(7,.d (iD p.c)),(10,.d (pD p)),(11,.d (iD (2:Nat))),(15,.d (pD q)),(16,.d (iD k))],[(1,some (.arr 4 [[.d (iD q.a),.d (iD q.b),.d (iD q.c),.d (iD q.d)]])),(2,some (.arr 4 [[.d (iD 0),.d (iD 0),.d (iD 0),.d (iD 0)]])),(3,some (.arr 4 [[.d (iD (tmI p q 2 k o).a),.d (iD (tmI p q 2 k o).b),.d (iD (tmI p q 2 k o).c),.d (iD (tmI p q 2 k o).d)]]))],4⟩) (4) (fun _=>True) (trivial) ?_ (by kernel_rfl) ?_ ?_
   ·refine keep_env (by first|exact Nat.zero_le _|exact Nat.le_of_ble_eq_true rfl) ?_ ?_ trivial
    ·repeat' first|exact trivial|refine ⟨⟨by first|rfl|assumption,rfl⟩,?_⟩
    ·repeat' first|exact trivial|refine ⟨⟨ltB rfl,_,rfl,by first|rfl|assumption,by first|exact below1 rfl|exact below_dblk _ _ _|exact below_arr rfl⟩,?_⟩
   ·intro k A_k h_k I_k N_k
    have e_k:iadd .i64 (k:Int) 1=((k+1:Nat):Int):=iadd_nat (by first|omega|(simp at *;omega))
    have hkb:=(tmI_bd h1 h2 hob 2 k).mono (show 4294967296+268435456*(k:Int)<=8589934592 by omega)
    have eK:tmI p q 2 (k+1) o=tmU p q 2 k (tmI p q 2 k o):=rfl
    rw [eK] at N_k
    generalize tmI p q 2 k o=u at hkb N_k ⊢
    have hk4:k=0\/k=1\/k=2\/k=3:=by omega
    have hai:=at_bd h1 2
    unfold P4.Bd at hkb
    rcases hk4 with rfl|rfl|rfl|rfl
    ·have hbk:=at_bd h2 0
     have hm:-268435456<=p.c*q.a/\p.c*q.a<=268435456:=mul_bd hai.1 hai.2 hbk.1 hbk.2
     have em:imul .i64 p.c q.a=p.c*q.a:=imul_eq (by omega) (by omega)
     have eo:iadd .i64 u.c (p.c*q.a)=(tmU p q 2 0 u).c:=iadd_eq (by omega) (by omega)
     have es:iadd .i64 ((2:Nat):Int) ((0:Nat):Int)=2:=by decide
     have hl4:decide ((2:Int)<4)=true:=by decide
     conv=>whnf
     repeat (refine LookP.mk _ rfl ?_;conv=>whnf)
     intro t ht
     cases t
     ·exfalso;first|(simp at ht;done)|(simp at ht;omega)
     conv=>whnf
     repeat' first|((first|refine LookP.mk _ rfl ?_|refine ShlP.mk _ (by first|(simp only [List.set,over,List.take,List.drop,List.append_eq,List.nil_append,List.cons_append,List.length];rfl)|rfl) ?_|refine And.intro (by first|exact ⟨by decide,by decide,rfl,by decide⟩|assumption|exact ⟨by kernel_rfl,rfl⟩|decide|omega) ?_|rw [es]|refine knownB hl4 ?_|rw [em]|rw [eo]|refine HpP.force ?_);conv=>whnf)
     refine N_k _ ?_ ?_
     ·first|trivial|assumption|omega
     ·refine keep_env (by first|exact Nat.zero_le _|exact Nat.le_of_ble_eq_true rfl) ?_ ?_ trivial
      ·repeat' first|exact trivial|refine ⟨⟨by first|rfl|assumption|exact congrArg (fun n=>AV.d (iD n)) e_k,rfl⟩,?_⟩
      ·repeat' first|exact trivial|refine ⟨⟨ltB rfl,_,rfl,by first|rfl|assumption,by first|exact below1 rfl|exact below_dblk _ _ _|exact below_arr rfl⟩,?_⟩
    ·have hbk:=at_bd h2 1
     have hm:-268435456<=p.c*q.b/\p.c*q.b<=268435456:=mul_bd hai.1 hai.2 hbk.1 hbk.2
     have em:imul .i64 p.c q.b=p.c*q.b:=imul_eq (by omega) (by omega)
     have eo:iadd .i64 u.d (p.c*q.b)=(tmU p q 2 1 u).d:=iadd_eq (by omega) (by omega)
     have es:iadd .i64 ((2:Nat):Int) ((1:Nat):Int)=3:=by decide
     have hl4:decide ((3:Int)<4)=true:=by decide
     conv=>whnf
     repeat (refine LookP.mk _ rfl ?_;conv=>whnf)
     intro t ht
     cases t
     ·exfalso;first|(simp at ht;done)|(simp at ht;omega)
     conv=>whnf
     repeat' first|((first|refine LookP.mk _ rfl ?_|refine ShlP.mk _ (by first|(simp only [List.set,over,List.take,List.drop,List.append_eq,List.nil_append,List.cons_append,List.length];rfl)|rfl) ?_|refine And.intro (by first|exact ⟨by decide,by decide,rfl,by decide⟩|assumption|exact ⟨by kernel_rfl,rfl⟩|decide|omega) ?_|rw [es]|refine knownB hl4 ?_|rw [em]|rw [eo]|refine HpP.force ?_);conv=>whnf)
     refine N_k _ ?_ ?_
     ·first|trivial|assumption|omega
     ·refine keep_env (by first|exact Nat.zero_le _|exact Nat.le_of_ble_eq_true rfl) ?_ ?_ trivial
      ·repeat' first|exact trivial|refine ⟨⟨by first|rfl|assumption|exact congrArg (fun n=>AV.d (iD n)) e_k,rfl⟩,?_⟩
      ·repeat' first|exact trivial|refine ⟨⟨ltB rfl,_,rfl,by first|rfl|assumption,by first|exact below1 rfl|exact below_dblk _ _ _|exact below_arr rfl⟩,?_⟩
    ·have hbk:=at_bd h2 2
     have hm:-268435456<=p.c*q.c/\p.c*q.c<=268435456:=mul_bd hai.1 hai.2 hbk.1 hbk.2
     have em:imul .i64 p.c q.c=p.c*q.c:=imul_eq (by omega) (by omega)
     have eo:isub .i64 u.a (p.c*q.c)=(tmU p q 2 2 u).a:=by rw [isub_eq (by omega) (by omega)];show _=_ + -(_*_);exact Int.sub_eq_add_neg
     have es:iadd .i64 ((2:Nat):Int) ((2:Nat):Int)=4:=by decide
     have hl4:decide ((4:Int)<4)=false:=by decide
     have e4:isub .i64 4 4=0:=by decide
     conv=>whnf
     repeat (refine LookP.mk _ rfl ?_;conv=>whnf)
     intro t ht
     cases t
     ·exfalso;first|(simp at ht;done)|(simp at ht;omega)
     conv=>whnf
     repeat' first|((first|refine LookP.mk _ rfl ?_|refine ShlP.mk _ (by first|(simp only [List.set,over,List.take,List.drop,List.append_eq,List.nil_append,List.cons_append,List.length];rfl)|rfl) ?_|refine And.intro (by first|exact ⟨by decide,by decide,rfl,by decide⟩|assumption|exact ⟨by kernel_rfl,rfl⟩|decide|omega) ?_|rw [es]|refine knownB hl4 ?_|rw [e4]|rw [em]|rw [eo]|refine HpP.force ?_);conv=>whnf)
     refine N_k _ ?_ ?_
     ·first|trivial|assumption|omega
     ·refine keep_env (by first|exact Nat.zero_le _|exact Nat.le_of_ble_eq_true rfl) ?_ ?_ trivial
      ·repeat' first|exact trivial|refine ⟨⟨by first|rfl|assumption|exact congrArg (fun n=>AV.d (iD n)) e_k,rfl⟩,?_⟩
      ·repeat' first|exact trivial|refine ⟨⟨ltB rfl,_,rfl,by first|rfl|assumption,by first|exact below1 rfl|exact below_dblk _ _ _|exact below_arr rfl⟩,?_⟩
    ·have hbk:=at_bd h2 3
     have hm:-268435456<=p.c*q.d/\p.c*q.d<=268435456:=mul_bd hai.1 hai.2 hbk.1 hbk.2
     have em:imul .i64 p.c q.d=p.c*q.d:=imul_eq (by omega) (by omega)
     have eo:isub .i64 u.b (p.c*q.d)=(tmU p q 2 3 u).b:=by rw [isub_eq (by omega) (by omega)];show _=_ + -(_*_);exact Int.sub_eq_add_neg
     have es:iadd .i64 ((2:Nat):Int) ((3:Nat):Int)=5:=by decide
     have hl4:decide ((5:Int)<4)=false:=by decide
     have e4:isub .i64 5 4=1:=by decide
     conv=>whnf
     repeat (refine LookP.mk _ rfl ?_;conv=>whnf)
     intro t ht
     cases t
     ·exfalso;first|(simp at ht;done)|(simp at ht;omega)
     conv=>whnf
     repeat' first|((first|refine LookP.mk _ rfl ?_|refine ShlP.mk _ (by first|(simp only [List.set,over,List.take,List.drop,List.append_eq,List.nil_append,List.cons_append,List.length];rfl)|rfl) ?_|refine And.intro (by first|exact ⟨by decide,by decide,rfl,by decide⟩|assumption|exact ⟨by kernel_rfl,rfl⟩|decide|omega) ?_|rw [es]|refine knownB hl4 ?_|rw [e4]|rw [em]|rw [eo]|refine HpP.force ?_);conv=>whnf)
     refine N_k _ ?_ ?_
     ·first|trivial|assumption|omega
     ·refine keep_env (by first|exact Nat.zero_le _|exact Nat.le_of_ble_eq_true rfl) ?_ ?_ trivial
      ·repeat' first|exact trivial|refine ⟨⟨by first|rfl|assumption|exact congrArg (fun n=>AV.d (iD n)) e_k,rfl⟩,?_⟩
      ·repeat' first|exact trivial|refine ⟨⟨ltB rfl,_,rfl,by first|rfl|assumption,by first|exact below1 rfl|exact below_dblk _ _ _|exact below_arr rfl⟩,?_⟩
   ·intro A_last I_last
    conv=>whnf
    repeat (refine LookP.mk _ rfl ?_;conv=>whnf)
    intro t ht
    cases t
    rotate_left
    ·exfalso;first|(simp at ht;done)|(simp at ht;omega)
    conv=>whnf
    skip
    refine N_i _ ?_ ?_
    ·first|trivial|assumption|omega
    ·refine keep_env (by first|exact Nat.zero_le _|exact Nat.le_of_ble_eq_true rfl) ?_ ?_ trivial
     ·repeat' first|exact trivial|refine ⟨⟨by first|rfl|assumption|exact congrArg (fun n=>AV.d (iD n)) e_i,rfl⟩,?_⟩
     ·repeat' first|exact trivial|refine ⟨⟨ltB rfl,_,rfl,by first|rfl|assumption,by first|exact below1 rfl|exact below_dblk _ _ _|exact below_arr rfl⟩,?_⟩
  ·conv=>whnf
   repeat (refine LookP.mk _ rfl ?_;conv=>whnf)
   intro t ht
   cases t
   ·exfalso;first|(simp at ht;done)|(simp at ht;omega)
   conv=>whnf
   repeat' first|((first|refine LookP.mk _ rfl ?_|refine And.intro (by first|exact ⟨by decide,by decide,rfl,by decide⟩|assumption|exact ⟨by kernel_rfl,rfl⟩|decide|omega) ?_|fail);conv=>whnf)|fail
   refine for_use pok (fun k=>⟨[(3,.ptr 1 4 0 0),(4,.ptr 2 4 0 0),(5,.ptr 3 4 0 0),(6,.d (iD (3:Nat))),(7,.d (iD p.d)),(10,.d (pD p)),(11,.d (iD (3:Nat))),(15,.d (pD q)),(16,.d (iD k))],[(1,some (.arr 4 [[.d (iD q.a),.d (iD q.b),.d (iD q.c),.d (iD q.d)]])),(2,some (.arr 4 [[.d (iD 0),.d (iD 0),.d (iD 0),.d (iD 0)]])),(3,some (.arr 4 [[.d (iD (tmI p q 3 k o).a),.d (iD (tmI p q 3 k o).b),.d (iD (tmI p q 3 k o).c),.d (iD (tmI p q 3 k o).d)]]))],4⟩) (4) (fun _=>True) (trivial) ?_ (by kernel_rfl) ?_ ?_
   ·refine keep_env (by first|exact Nat.zero_le _|exact Nat.le_of_ble_eq_true rfl) ?_ ?_ trivial
    ·repeat' first|exact trivial|refine ⟨⟨by first|rfl|assumption,rfl⟩,?_⟩
    ·repeat' first|exact trivial|refine ⟨⟨ltB rfl,_,rfl,by first|rfl|assumption,by first|exact below1 rfl|exact below_dblk _ _ _|exact below_arr rfl⟩,?_⟩
   ·intro k A_k h_k I_k N_k
    have e_k:iadd .i64 (k:Int) 1=((k+1:Nat):Int):=iadd_nat (by first|omega|(simp at *;omega))
    have hkb:=(tmI_bd h1 h2 hob 3 k).mono (show 4294967296+268435456*(k:Int)<=8589934592 by omega)
    have eK:tmI p q 3 (k+1) o=tmU p q 3 k (tmI p q 3 k o):=rfl
    rw [eK] at N_k
    generalize tmI p q 3 k o=u at hkb N_k ⊢
    have hk4:k=0\/k=1\/k=2\/k=3:=by omega
    have hai:=at_bd h1 3
    unfold P4.Bd at hkb
    rcases hk4 with rfl|rfl|rfl|rfl
    ·have hbk:=at_bd h2 0
     have hm:-268435456<=p.d*q.a/\p.d*q.a<=268435456:=mul_bd hai.1 hai.2 hbk.1 hbk.2
     have em:imul .i64 p.d q.a=p.d*q.a:=imul_eq (by omega) (by omega)
     have eo:iadd .i64 u.d (p.d*q.a)=(tmU p q 3 0 u).d:=iadd_eq (by omega) (by omega)
     have es:iadd .i64 ((3:Nat):Int) ((0:Nat):Int)=3:=by decide
     have hl4:decide ((3:Int)<4)=true:=by decide
     conv=>whnf
     repeat (refine LookP.mk _ rfl ?_;conv=>whnf)
     intro t ht
     cases t
     ·exfalso;first|(simp at ht;done)|(simp at ht;omega)
     conv=>whnf
     repeat' first|((first|refine LookP.mk _ rfl ?_|refine ShlP.mk _ (by first|(simp only [List.set,over,List.take,List.drop,List.append_eq,List.nil_append,List.cons_append,List.length];rfl)|rfl) ?_|refine And.intro (by first|exact ⟨by decide,by decide,rfl,by decide⟩|assumption|exact ⟨by kernel_rfl,rfl⟩|decide|omega) ?_|rw [es]|refine knownB hl4 ?_|rw [em]|rw [eo]|refine HpP.force ?_);conv=>whnf)
     refine N_k _ ?_ ?_
     ·first|trivial|assumption|omega
     ·refine keep_env (by first|exact Nat.zero_le _|exact Nat.le_of_ble_eq_true rfl) ?_ ?_ trivial
      ·repeat' first|exact trivial|refine ⟨⟨by first|rfl|assumption|exact congrArg (fun n=>AV.d (iD n)) e_k,rfl⟩,?_⟩
      ·repeat' first|exact trivial|refine ⟨⟨ltB rfl,_,rfl,by first|rfl|assumption,by first|exact below1 rfl|exact below_dblk _ _ _|exact below_arr rfl⟩,?_⟩
    ·have hbk:=at_bd h2 1
     have hm:-268435456<=p.d*q.b/\p.d*q.b<=268435456:=mul_bd hai.1 hai.2 hbk.1 hbk.2
     have em:imul .i64 p.d q.b=p.d*q.b:=imul_eq (by omega) (by omega)
     have eo:isub .i64 u.a (p.d*q.b)=(tmU p q 3 1 u).a:=by rw [isub_eq (by omega) (by omega)];show _=_ + -(_*_);exact Int.sub_eq_add_neg
     have es:iadd .i64 ((3:Nat):Int) ((1:Nat):Int)=4:=by decide
     have hl4:decide ((4:Int)<4)=false:=by decide
     have e4:isub .i64 4 4=0:=by decide
     conv=>whnf
     repeat (refine LookP.mk _ rfl ?_;conv=>whnf)
     intro t ht
     cases t
     ·exfalso;first|(simp at ht;done)|(simp at ht;omega)
     conv=>whnf
     repeat' first|((first|refine LookP.mk _ rfl ?_|refine ShlP.mk _ (by first|(simp only [List.set,over,List.take,List.drop,List.append_eq,List.nil_append,List.cons_append,List.length];rfl)|rfl) ?_|refine And.intro (by first|exact ⟨by decide,by decide,rfl,by decide⟩|assumption|exact ⟨by kernel_rfl,rfl⟩|decide|omega) ?_|rw [es]|refine knownB hl4 ?_|rw [e4]|rw [em]|rw [eo]|refine HpP.force ?_);conv=>whnf)
     refine N_k _ ?_ ?_
     ·first|trivial|assumption|omega
     ·refine keep_env (by first|exact Nat.zero_le _|exact Nat.le_of_ble_eq_true rfl) ?_ ?_ trivial
      ·repeat' first|exact trivial|refine ⟨⟨by first|rfl|assumption|exact congrArg (fun n=>AV.d (iD n)) e_k,rfl⟩,?_⟩
      ·repeat' first|exact trivial|refine ⟨⟨ltB rfl,_,rfl,by first|rfl|assumption,by first|exact below1 rfl|exact below_dblk _ _ _|exact below_arr rfl⟩,?_⟩
    ·have hbk:=at_bd h2 2
     have hm:-268435456<=p.d*q.c/\p.d*q.c<=268435456:=mul_bd hai.1 hai.2 hbk.1 hbk.2
     have em:imul .i64 p.d q.c=p.d*q.c:=imul_eq (by omega) (by omega)
     have eo:isub .i64 u.b (p.d*q.c)=(tmU p q 3 2 u).b:=by rw [isub_eq (by omega) (by omega)];show _=_ + -(_*_);exact Int.sub_eq_add_neg
     have es:iadd .i64 ((3:Nat):Int) ((2:Nat):Int)=5:=by decide
     have hl4:decide ((5:Int)<4)=false:=by decide
     have e4:isub .i64 5 4=1:=by decide
     conv=>whnf
     repeat (refine LookP.mk _ rfl ?_;conv=>whnf)
     intro t ht
     cases t
     ·exfalso;first|(simp at ht;done)|(simp at ht;omega)
     conv=>whnf
     repeat' first|((first|refine LookP.mk _ rfl ?_|refine ShlP.mk _ (by first|(simp only [List.set,over,List.take,List.drop,List.append_eq,List.nil_append,List.cons_append,List.length];rfl)|rfl) ?_|refine And.intro (by first|exact ⟨by decide,by decide,rfl,by decide⟩|assumption|exact ⟨by kernel_rfl,rfl⟩|decide|omega) ?_|rw [es]|refine knownB hl4 ?_|rw [e4]|rw [em]|rw [eo]|refine HpP.force ?_);conv=>whnf)
     refine N_k _ ?_ ?_
     ·first|trivial|assumption|omega
     ·refine keep_env (by first|exact Nat.zero_le _|exact Nat.le_of_ble_eq_true rfl) ?_ ?_ trivial
      ·repeat' first|exact trivial|refine ⟨⟨by first|rfl|assumption|exact congrArg (fun n=>AV.d (iD n)) e_k,rfl⟩,?_⟩
      ·repeat' first|exact trivial|refine ⟨⟨ltB rfl,_,rfl,by first|rfl|assumption,by first|exact below1 rfl|exact below_dblk _ _ _|exact below_arr rfl⟩,?_⟩
    ·have hbk:=at_bd h2 3
     have hm:-268435456<=p.d*q.d/\p.d*q.d<=268435456:=mul_bd hai.1 hai.2 hbk.1 hbk.2
     have em:imul .i64 p.d q.d=p.d*q.d:=imul_eq (by omega) (by omega)
     have eo:isub .i64 u.c (p.d*q.d)=(tmU p q 3 3 u).c:=by rw [isub_eq (by omega) (by omega)];show _=_ + -(_*_);exact Int.sub_eq_add_neg
     have es:iadd .i64 ((3:Nat):Int) ((3:Nat):Int)=6:=by decide
     have hl4:decide ((6:Int)<4)=false:=by decide
     have e4:isub .i64 6 4=2:=by decide
     conv=>whnf
     repeat (refine LookP.mk _ rfl ?_;conv=>whnf)
     intro t ht
     cases t
     ·exfalso;first|(simp at ht;done)|(simp at ht;omega)
     conv=>whnf
     repeat' first|((first|refine LookP.mk _ rfl ?_|refine ShlP.mk _ (by first|(simp only [List.set,over,List.take,List.drop,List.append_eq,List.nil_append,List.cons_append,List.length];rfl)|rfl) ?_|refine And.intro (by first|exact ⟨by decide,by decide,rfl,by decide⟩|assumption|exact ⟨by kernel_rfl,rfl⟩|decide|omega) ?_|rw [es]|refine knownB hl4 ?_|rw [e4]|rw [em]|rw [eo]|refine HpP.force ?_);conv=>whnf)
     refine N_k _ ?_ ?_
     ·first|trivial|assumption|omega
     ·refine keep_env (by first|exact Nat.zero_le _|exact Nat.le_of_ble_eq_true rfl) ?_ ?_ trivial
      ·repeat' first|exact trivial|refine ⟨⟨by first|rfl|assumption|exact congrArg (fun n=>AV.d (iD n)) e_k,rfl⟩,?_⟩
      ·repeat' first|exact trivial|refine ⟨⟨ltB rfl,_,rfl,by first|rfl|assumption,by first|exact below1 rfl|exact below_dblk _ _ _|exact below_arr rfl⟩,?_⟩
   ·intro A_last I_last
    conv=>whnf
    repeat (refine LookP.mk _ rfl ?_;conv=>whnf)
    intro t ht
    cases t
    rotate_left
    ·exfalso;first|(simp at ht;done)|(simp at ht;omega)
    conv=>whnf
    skip
    refine N_i _ ?_ ?_
    ·first|trivial|assumption|omega
    ·refine keep_env (by first|exact Nat.zero_le _|exact Nat.le_of_ble_eq_true rfl) ?_ ?_ trivial
     ·repeat' first|exact trivial|refine ⟨⟨by first|rfl|assumption|exact congrArg (fun n=>AV.d (iD n)) e_i,rfl⟩,?_⟩
     ·repeat' first|exact trivial|refine ⟨⟨ltB rfl,_,rfl,by first|rfl|assumption,by first|exact below1 rfl|exact below_dblk _ _ _|exact below_arr rfl⟩,?_⟩
 ·intro A_last I_last
  conv=>whnf
  repeat (refine LookP.mk _ rfl ?_;conv=>whnf)
  intro t ht
  cases t
  rotate_left
  ·exfalso;first|(simp at ht;done)|(simp at ht;omega)
  conv=>whnf
  repeat' first|((first|refine LookP.mk _ rfl ?_|refine ShlP.mk _ (by first|(simp only [List.set,over,List.take,List.drop,List.append_eq,List.nil_append,List.cons_append,List.length];rfl)|rfl) ?_|refine HpP.force ?_);conv=>whnf)
  exact fin rfl
end Go.Tz
