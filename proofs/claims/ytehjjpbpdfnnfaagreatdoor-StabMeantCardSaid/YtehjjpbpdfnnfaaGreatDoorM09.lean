import Derived.Test.YtehjjpbpdfnnfaaGreatDoorM00
import Derived.Test.YtehjjpbpdfnnfaaGreatDoorM08
import Derived.Shelf.Spec.SlicesInsert
import Derived.Shelf.Spec.SlicesInsertGrow
namespace Go.Tz
open Go Go.AL Go.Proofs Go.Shelf
def rnI:Ren:=⟨fun n=>match n with
 | 21=>146
 | 27=>216
 | 28=>217
 | 35=>260
 | 39=>273
 | n=>n,fun n=>match n with
 | 22=>42
 | n=>n,fun n=>n⟩
theorem zra:Lays2.n21 Pr rnI where
 mixed:=qah
 f21:=qah
 f27:=qah
 f28:=qah
 f35:=qah
 f39:=qah
 t0:=qah
 a0:=fun _=>by kernel_rfl
 z0:=fun _=>by kernel_rfl
 v0:=fun _=>by kernel_rfl
 t3:=qah
 a3:=fun _=>by kernel_rfl
 z3:=fun _=>by kernel_rfl
 v3:=fun _=>by kernel_rfl
 t4:=qah
 a4:=fun _=>by kernel_rfl
 z4:=fun _=>by kernel_rfl
 v4:=fun _=>by kernel_rfl
 t22:=qah
 a22:=fun _=>by kernel_rfl
 z22:=fun _=>by kernel_rfl
 v22:=fun _=>by kernel_rfl
 i3:=qah
end Go.Tz
namespace Go.AL
open Go
variable{G:Nat->Option (List D)}
structure Chg (w w':World) (k:Nat) (cs cs':Array Value):Prop where
 os:w'.os=w.os
 tape:w'.tape=w.tape
 output:w'.output=w.output
 size:w'.heap.size=w.heap.size
 other:∀ j,j≠k->w'.heap[j]?=w.heap[j]?
 at_:∃ e,w.heap[k]?=some (.cells cs e (0,0))/\w'.heap[k]?=some (.cells cs' e (0,0))
 csz:cs'.size=cs.size
theorem Chg.trans{w w' w'':World}{k:Nat}{cs cs' cs'':Array Value}(h:Chg w w' k cs cs')(h2:Chg w' w'' k cs' cs''):Chg w w'' k cs cs'':=by
 refine⟨h2.os.trans h.os,h2.tape.trans h.tape,h2.output.trans h.output,h2.size.trans h.size,fun j hj=>(h2.other j hj).trans (h.other j hj),?_,h2.csz.trans h.csz⟩
 obtain⟨e,a,b⟩:=h.at_
 obtain⟨e',a',b'⟩:=h2.at_
 rw[b]at a'
 cases a'
 exact⟨e,a,b'⟩
theorem chg_refl{w:World}{k:Nat}{cs:Array Value}{e:TypeId}(h:w.heap[k]?=some (.cells cs e (0,0))):Chg w w k cs cs:=⟨rfl,rfl,rfl,rfl,fun _ _=>rfl,⟨e,h,h⟩,rfl⟩
theorem zpr{w:World}{k:Nat}{cs:Array Value}{e:TypeId}(h:w.heap[k]?=some (.cells cs e (0,0))):Chg w w.drew k cs cs:=⟨rfl,rfl,rfl,rfl,fun _ _=>rfl,⟨e,h,h⟩,rfl⟩
theorem chg_cell{w:World}{k o:Nat}{v:Value}{cs:Array Value}{e:TypeId}(h:w.heap[k]?=some (.cells cs e (0,0))):Chg w (w.setCell ⟨k,o,none⟩ v) k cs (cs.setIfInBounds o v):=by
 refine⟨rfl,rfl,rfl,by simp[World.setCell],fun j hj=>?_,⟨e,h,?_⟩,by simp⟩
 ·simp only[World.setCell,Array.getElem?_modify]
  rw[if_neg (Ne.symm hj)]
 ·simp only[World.setCell,Array.getElem?_modify,if_pos,h]
  rfl
def setL(cs:Array Value):Nat->List Value->Array Value
 | _,[]=>cs
 | o,v::r=>setL (cs.setIfInBounds o v) (o+1) r
theorem zfg{k:Nat}{e:TypeId}:∀(vs:List Value) (o:Nat) (w:World) (cs:Array Value),w.heap[k]?=some (.cells cs e (0,0))->Chg w (w.setCells k o vs) k cs (setL cs o vs)
 | [],_,_,_,h=>chg_refl h
 | v::r,o,w,cs,h=>by
  have h1:=chg_cell (o:=o) (v:=v) h
  obtain⟨e',a,b⟩:=h1.at_
  rw[h]at a;cases a
  exact h1.trans (zfg r (o+1) _ _ b)
theorem zf4:∀(vs:List Value) (o:Nat) (cs:Array Value),(setL cs o vs).size=cs.size
 | [],_,_=>rfl
 | v::r,o,cs=>by unfold setL;rw[zf4 r];simp
theorem zgr:∀(vs:List Value) (o:Nat) (cs:Array Value) (q:Nat),o+vs.length<=cs.size->(setL cs o vs)[q]?=if o<=q/\q<o+vs.length then vs[q-o]? else cs[q]?
 | [],o,cs,q,_=>by
  unfold setL
  rw[if_neg (fun h=>Nat.lt_irrefl _ (Nat.lt_of_le_of_lt h.1 (by simpa using h.2)))]
 | v::r,o,cs,q,h=>by
  simp only[List.length_cons]at h
  unfold setL
  rw[zgr r (o+1) _ q qbo]
  simp only[List.length_cons]
  by_cases e:q=o
  ·subst e
   rw[if_neg qad,if_pos qad,Nat.sub_self]
   simp[show q<cs.size by omega]
  ·by_cases c:o+1<=q/\q<o+1+r.length
   ·rw[if_pos c,if_pos qad]
    obtain⟨d,hd⟩:∃ d,q-o=d+1:=⟨q-o-1,by omega⟩
    rw[hd,List.getElem?_cons_succ]
    congr 1;omega
   ·rw[if_neg c,if_neg qad]
    rw[Array.getElem?_setIfInBounds,if_neg (Ne.symm e)]
theorem renew{C:Ctx}{H:AHeap}{nm nm' k S:Nat}{els els':List (List AV)}{w':World}{cs cs':Array Value}(hH:HRel G C H)(hg:H.get nm=some (.arr S els))(hb:C.β nm=some k)(hn:¬ C.U nm')
  (hc:Chg C.w w' k cs cs') (hro:¬ C.RO k) (hall:∀ el,el∈els'->el.length=S) (hv:∀(q:Nat) (v:AV),els'.flatten[q]?=some v->∃ x:Value,cs'[q]?=some x /\ ∀ C'':Ctx,VRel C'' v x) :
  ∃ C':Ctx,C'.w=w'/\C'.β nm'=some k/\C'.U nm'/\HRel G C' ((nm',some (.arr S els'))::(nm,none)::H)/\Tr C.U C H C' ((nm',some (.arr S els'))::(nm,none)::H) /\ ∀ n,C'.U n->C.U n\/n=nm':=by
 obtain⟨e,at1,at2⟩:=hc.at_
 let C':Ctx:={ U:=fun n=>C.U n\/n=nm',β:=fun n=>if n=nm' then some k else C.β n,RO:=C.RO,w:=w' }
 have hb':C'.β nm'=some k:=by simp[C']
 have hβ:∀ n,n≠nm'->C'.β n=C.β n:=fun n h=>by simp[C',h]
 have himg:∀ n b k',AHeap.get ((nm',some (.arr S els'))::(nm,none)::H) n=some b->C'.β n=some k'->k'<C.w.heap.size->∃ n0 b0,H.get n0=some b0/\C.β n0=some k':=by
  intro n b k' a1 a2 _
  by_cases en:n=nm'
  ·subst en;rw[hb']at a2;cases a2;exact⟨nm,_,hg,hb⟩
  ·rw[zad _ _ en]at a1
   rw[hβ n en]at a2
   exact⟨n,b,(zbz a1).2,a2⟩
 have htr:Tr C.U C H C' ((nm',some (.arr S els'))::(nm,none)::H):={
  os:=hc.os,tape:=hc.tape,output:=hc.output,size:=by show C.w.heap.size<=w'.heap.size;rw[hc.size];exact Nat.le_refl _
  shape:=fun j A t fz' hA=>by
   by_cases hj:j=k
   ·subst hj;rw[at1]at hA;cases hA;exact⟨cs',(0,0),at2,hc.csz⟩
   ·exact⟨A,fz',(hc.other j hj).trans hA,rfl⟩
  frame:=fun j hj hnn=>hc.other j fun ej=>hnn nm _ hg qez
  names:=fun n h=>⟨.inl h,hβ n (fun en=>hn (en ▸ h))⟩
  ros:=fun j h=>h
  img:=himg
  rob:=fun _ h _=>.inl h }
 have hbr:BRel C' nm' (.arr S els'):=zfu hb' at2 hro hall fun q v hq=>by
  obtain⟨x,h1,h2⟩:=hv q v hq
  exact⟨x,h1,h2 C'⟩
 refine⟨C',rfl,hb',.inr rfl,⟨?_,?_,?_,?_⟩,htr,fun n h=>h⟩
 ·intro n b hgn
  by_cases en:n=nm'
  ·exact qc8
  ·rw[zad _ _ en]at hgn
   obtain⟨en2,hgn⟩:=zbz hgn
   obtain⟨hU2,hB2⟩:=hH.blk n b hgn
   refine⟨.inl hU2,zbs hH htr hU2 hB2 fun j hj=>⟨hc.other j (fun ej=>en2 ?_),fun hro2=>hH.ro_apart hro2 n b hgn hj⟩⟩
   exact hH.inj n nm b _ k hgn hg (ej ▸ hj) hb
 ·intro n n' b1 b2 j a1 a2 e1 e2
  have old:∀ n b,AHeap.get ((nm',some (.arr S els'))::(nm,none)::H) n=some b->n≠nm'->n≠nm/\H.get n=some b:=fun n b h en=>by
   rw[zad _ _ en]at h;exact zbz h
  by_cases en:n=nm'
  ·exact qgo
  ·exact qgi
 ·intro j hj
  have:=hH.ro j hj
  show j<w'.heap.size
  rw[hc.size];exact this
 ·exact qct
structure Nw (w w':World) (cs':Array Value):Prop where
 os:w'.os=w.os
 tape:w'.tape=w.tape
 output:w'.output=w.output
 size:w'.heap.size=w.heap.size+1
 old:∀ j,j<w.heap.size->w'.heap[j]?=w.heap[j]?
 at_:∃ e,w'.heap[w.heap.size]?=some (.cells cs' e (0,0))
theorem zox(w:World)(cs:Array Value)(e:TypeId):Nw w (w.alloc (.cells cs e)) cs:=by
 refine⟨rfl,rfl,rfl,by simp,fun j hj=>?_,⟨e,?_⟩⟩
 ·show(w.heap.push _)[j]?=_
  rw[Array.getElem?_push,if_neg qad]
 ·show(w.heap.push _)[w.heap.size]?=_
  simp
theorem nw_drew{w w':World}{cs:Array Value}(h:Nw w.drew w' cs):Nw w w' cs:=⟨h.os,h.tape,h.output,h.size,h.old,h.at_⟩
theorem Nw.chg{w w' w'':World}{cs cs':Array Value}(h:Nw w w' cs)(h2:Chg w' w'' w.heap.size cs cs'):Nw w w'' cs':=by
 obtain⟨e,_,b⟩:=h2.at_
 exact⟨h2.os.trans h.os,h2.tape.trans h.tape,h2.output.trans h.output,h2.size.trans h.size,fun j hj=>(h2.other j qad).trans (h.old j hj),⟨e,b⟩⟩
theorem made2{C:Ctx}{H:AHeap}{nm' S:Nat}{els':List (List AV)}{w':World}{cs':Array Value}(hH:HRel G C H)(hn:¬ C.U nm')
  (hc:Nw C.w w' cs') (hall:∀ el,el∈els'->el.length=S) (hv:∀(q:Nat) (v:AV),els'.flatten[q]?=some v->∃ x:Value,cs'[q]?=some x /\ ∀ C'':Ctx,VRel C'' v x) :
  ∃ C':Ctx,C'.w=w'/\C'.β nm'=some C.w.heap.size/\C'.U nm'/\HRel G C' ((nm',some (.arr S els'))::H)/\Tr C.U C H C' ((nm',some (.arr S els'))::H) /\ ∀ n,C'.U n->C.U n\/n=nm':=by
 obtain⟨e,at2⟩:=hc.at_
 let C':Ctx:={ U:=fun n=>C.U n\/n=nm',β:=fun n=>if n=nm' then some C.w.heap.size else C.β n,RO:=C.RO,w:=w' }
 have hb':C'.β nm'=some C.w.heap.size:=by simp[C']
 have hβ:∀ n,n≠nm'->C'.β n=C.β n:=fun n h=>by simp[C',h]
 have htr:Tr C.U C H C' ((nm',some (.arr S els'))::H):={
  os:=hc.os,tape:=hc.tape,output:=hc.output,size:=by show C.w.heap.size<=w'.heap.size;rw[hc.size];omega
  shape:=fun j A t fz' hA=>⟨A,fz',(hc.old j (ze2 hA)).trans hA,rfl⟩
  frame:=fun j hj _=>hc.old j hj
  names:=fun n h=>⟨.inl h,hβ n (fun en=>hn (en ▸ h))⟩
  ros:=fun j h=>h
  img:=fun n b k' a1 a2 h3=>by
   by_cases en:n=nm'
   ·subst en;rw[hb']at a2;cases a2;omega
   ·rw[zad _ _ en]at a1
    rw[hβ n en]at a2
    exact⟨n,b,a1,a2⟩
  rob:=fun _ h _=>.inl h }
 have hro:¬ C'.RO C.w.heap.size:=fun h=>by
  have:=hH.ro _ h
  omega
 have hbr:BRel C' nm' (.arr S els'):=zfu hb' at2 hro hall fun q v hq=>by
  obtain⟨x,h1,h2⟩:=hv q v hq
  exact⟨x,h1,h2 C'⟩
 have fresh:∀ n b,H.get n=some b->C.β n≠some C.w.heap.size:=fun n b h e=>by
  have:=zc8 (hH.blk n b h).2 e
  omega
 refine⟨C',rfl,hb',.inr rfl,⟨?_,?_,?_,?_⟩,htr,fun n h=>h⟩
 ·intro n b hgn
  by_cases en:n=nm'
  ·exact qc8
  ·rw[zad _ _ en]at hgn
   obtain⟨hU2,hB2⟩:=hH.blk n b hgn
   exact⟨.inl hU2,zbs hH htr hU2 hB2 fun j hj=>⟨hc.old j (zc8 hB2 hj),fun hro2=>hH.ro_apart hro2 n b hgn hj⟩⟩
 ·intro n n' b1 b2 j a1 a2 e1 e2
  by_cases en:n=nm'
  ·by_cases en':n'=nm'
   ·rw[en,en']
   ·rw[zad _ _ en']at a2
    rw[hβ n' en']at e2
    rw[en,hb']at e1;cases e1
    exact absurd e2 (fresh n' b2 a2)
  ·rw[zad _ _ en]at a1
   rw[hβ n en]at e1
   by_cases en':n'=nm'
   ·rw[en',hb']at e2;cases e2
    exact absurd e1 (fresh n b1 a1)
   ·rw[zad _ _ en']at a2
    rw[hβ n' en']at e2
    exact hH.inj n n' b1 b2 j a1 a2 e1 e2
 ·intro j hj
  have:=hH.ro j hj
  show j<w'.heap.size
  rw[hc.size];omega
 ·exact qct
end Go.AL
namespace Go.Tz
open Go Go.AL Go.Proofs Go.Shelf
variable{G:Nat->Option (List D)}
abbrev numsB(l:List Int):Blk:=dblk 1 (l.map fun x=>[iD x])
theorem zns(l:List Int):((l.map fun x=>[iD x]).map fun el=>el.map AV.d).flatten=l.map fun x=>AV.d (iD x):=by
 induction l with
 | nil=>rfl
 | cons a l ih=>simp only[List.map_cons,List.flatten_cons,ih];rfl
theorem zq4(l:List Int):∀ el,el∈(l.map fun x=>[iD x]).map (fun el=>el.map AV.d)->el.length=1:=by
 intro el h
 obtain⟨y,hy,rfl⟩:=List.mem_map.1 h
 obtain⟨x,_,rfl⟩:=List.mem_map.1 hy
 rfl
theorem vrel_int{C:Ctx}{i:Int}{x:Value}(h:VRel C (.d (iD i)) x):x = .int .i64 i:=by
 have:=zbi h
 cases this
 rfl
theorem int_vrel(C:Ctx)(i:Int):VRel C (.d (iD i)) (.int .i64 i):=.d _ _ (.int _ _)
def insL(l:List Int)(i:Nat)(x:Int):List Int:=l.take i++x::l.drop i
theorem insL_len{l:List Int}{i:Nat}{x:Int}(h:i<=l.length):(insL l i x).length=l.length+1:=by
 simp[insL];omega
theorem zkx{l:List Int}{i:Nat}{x:Int}(h:i<=l.length)(q:Nat):(insL l i x)[q]?=if q<i then l[q]? else if q=i then some x else l[q-1]?:=by
 unfold insL
 by_cases a:q<i
 ·rw[if_pos a,List.getElem?_append_left qbo,List.getElem?_take_of_lt a]
 ·rw[if_neg a,List.getElem?_append_right qbo,List.length_take,Nat.min_eq_left h]
  by_cases b:q=i
  ·rw[if_pos b,b,Nat.sub_self];rfl
  ·rw[if_neg b]
   obtain⟨d,hd⟩:∃ d,q-i=d+1:=⟨q-i-1,by omega⟩
   rw[hd,List.getElem?_cons_succ,List.getElem?_drop]
   congr 1;omega
theorem chk146:chkFn Tryz.f146=true:=qah
theorem isFn146:IsFn Pr 146:=za3 Tryz.func146 chk146
theorem zpt{w:World}{k:Nat}{cs:Array Value}{e:TypeId}{fz:Nat×Nat}(h:w.heap[k]?=some (.cells cs e fz))(q:Nat):w.cell? ⟨k,q,none⟩=cs[q]?:=by
 unfold World.cell?;rw[h];rfl
theorem ziv{w:World}{k:Nat}{cs:Array Value}{e:TypeId}(h:w.heap[k]?=some (.cells cs e (0,0)))(q:Nat):w.frozen? ⟨k,q,none⟩=false:=by
 unfold World.frozen?;rw[h];simp
theorem zut{w:World}{k:Nat}{cs:Array Value}{e:TypeId}{fz:Nat×Nat}(h:w.heap[k]?=some (.cells cs e fz)):w.shape? k=some (e,cs.size):=by
 unfold World.shape?;rw[h]
theorem zo5{l:List Int}{cs':Array Value}(h:∀(q:Nat) (v:Int),l[q]?=some v->cs'[q]?=some (.int .i64 v)):∀(q:Nat) (v:AV),((l.map fun x=>[iD x]).map fun el=>el.map AV.d).flatten[q]?=some v->∃ x:Value,cs'[q]?=some x /\ ∀ C'':Ctx,VRel C'' v x:=by
 intro q v hq
 rw[zns,List.getElem?_map]at hq
 obtain⟨a,ha,rfl⟩:=Option.map_eq_some_iff.1 hq
 exact⟨_,h q a ha,fun C''=>int_vrel C'' a⟩
theorem arr3{vs:Array Value}(h:vs.size=3):vs = #[vs.getD 0 undef,vs.getD 1 undef,vs.getD 2 undef]:=by
 apply Array.ext
 ·exact qa6
 ·intro i h1 h2
  match i,h1,h2 with
  | 0,_,_=>simp[Array.getD,h]
  | 1,_,_=>simp[Array.getD,h]
  | 2,_,_=>simp[Array.getD,h]
theorem insert146{nm nv n0 i r:Nat}{l:List Int}(x:Int)(hi:i<=l.length)(hbig:l.length<=1000)(hne:nm≠nv)(hr63:r<=9223372036854775807) :
  ACall Pr G 146 [.sl nm 1 0 l.length r true,.d (iD i),.sl nv 1 0 1 1 true] [(nm,some (numsB l)),(nv,some (.arr 1 [[.d (iD x)]]))] n0
   fun v H n=>∃ r':Nat,l.length+1<=r'/\r'<=9223372036854775807/\v = .sl n0 1 0 (l.length+1) r' true/\H=[(n0,some (numsB (insL l i x)))]/\n=n0+1:=by
 intro C vs hH hU hsz hr
 have hn:¬ C.U n0:=fun h=>Nat.lt_irrefl _ (hU n0 h)
 have r0:=hr 0 _ rfl
 have r1:=vrel_int (hr 1 _ rfl)
 have r2:=hr 2 _ rfl
 rw[arr3 (vs:=vs) (by simpa using hsz),r1]
 have hgv:AHeap.get [(nm,some (numsB l)),(nv,some (.arr 1 [[.d (iD x)]]))] nv=some (.arr 1 [[.d (iD x)]]):=by rw[zaj,if_neg (Ne.symm hne),zaj,if_pos rfl]
 have hgm:AHeap.get [(nm,some (numsB l)),(nv,some (.arr 1 [[.d (iD x)]]))] nm=some (numsB l):=by rw[zaj,if_pos rfl]
 rcases zco r2 with⟨kv,cv,csv,ev,fzv,hUv,hbv,hlv,hrv,htv,hhv,hsv,hx2⟩|⟨_,h,_⟩
 rotate_left
 ·exact qed
 obtain⟨csv0,ev0,hhv0,hrov,_,_,hcsv⟩:=zdy (hH.blk nv _ hgv).2 hbv
 rw[hhv]at hhv0;cases hhv0
 have hv0:csv[0]?=some (.int .i64 x):=by
  obtain⟨y,h1,h2⟩:=hcsv 0 (.d (iD x)) rfl
  rw[h1,vrel_int h2]
 have hvs:∀ j v,[Value.int .i64 x][j]?=some v->C.w.cell? ⟨kv,0*1+j,none⟩=some v:=fun j v hj=>by
  match j,hj with
  | 0,hj=>cases hj;rw[zpt hhv];exact hv0
 have h1v:∀ v∈[Value.int .i64 x],v.oneCell'=true:=fun v hv=>by rw[List.mem_singleton.1 hv];rfl
 have h1c:∀ v∈l.map fun y=>Value.int .i64 y,v.oneCell'=true:=fun v hv=>by
  obtain⟨y,_,rfl⟩:=List.mem_map.1 hv;rfl
 have hnf:∀ el,el∈((insL l i x).map fun x=>[iD x]).map (fun el=>el.map AV.d)->el.length=1:=zq4 _
 have fin2:∀(w':World) (cs':Array Value) (c':Nat),Nw C.w w' cs'->(∀(q:Nat) (v:Int),(insL l i x)[q]?=some v->cs'[q]?=some (.int .i64 v))->l.length+1<=c'->c'<=cs'.size->c'<=9223372036854775807 ->
   ∃ y v H' nx' C',(Ending.returned (.slice (some ⟨C.w.heap.size,0,none⟩) (l.length+1) c'):Ending) = .returned y/\C'.w=w'/\(∃ r':Nat,l.length+1<=r'/\r'<=9223372036854775807/\v=AV.sl n0 1 0 (l.length+1) r' true/\H'=[(n0,some (numsB (insL l i x)))]/\nx'=n0+1)/\VRel C' v y/\HRel G C' H'/\(∀ m,C'.U m->m<nx')/\Tr C.U C [(nm,some (numsB l)),(nv,some (.arr 1 [[.d (iD x)]]))] C' H':=by
  intro w' cs' c' hc hq h1 h2 h63
  obtain⟨C',e1,e2,e3,e4,e5,e6⟩:=made2 (S:=1) hH hn hc hnf (zo5 hq)
  obtain⟨e,at2⟩:=hc.at_
  refine⟨_,_,_,_,C',rfl,e1,⟨c',h1,h63,rfl,rfl,rfl⟩,?_,zdg e4 ?_,fun m hm=>?_,e5.anti ?_⟩
  ·have:=VRel.sl (C:=C') n0 1 0 (l.length+1) c' true C.w.heap.size c' cs' e (0,0) e3 e2 h1 (Nat.le_refl _) (fun _=>rfl) (by rw[e1];exact at2) (by simpa using h2)
   simpa using this
  ·exact qgh
  ·exact qhe
  ·exact qgh
 have hxg:C.w.drew.heap.size=C.w.heap.size:=rfl
 have gr:=grownCap_ge C.w
 -- a new row at the end
 have endG:∀(base:Option Addr) (c:Nat) (ws:List Value),l.length<=c->c<l.length+1->(base=none->l.length=0)->ws=l.map (fun y=>Value.int .i64 y)->(∀ a,base=some a->∀ j v,ws[j]?=some v->C.w.cell? (a.add j)=some v)->i=l.length ->
   Calls Pr 146 #[.slice base l.length c,.int .i64 (i:Int),.slice (some ⟨kv,0*1,none⟩) 1 cv] C.w fun e w'=>∃ y v H' nx' C',e = .returned y/\C'.w=w'/\(∃ r':Nat,l.length+1<=r'/\r'<=9223372036854775807/\v=AV.sl n0 1 0 (l.length+1) r' true/\H'=[(n0,some (numsB (insL l i x)))]/\nx'=n0+1)/\VRel C' v y/\HRel G C' H'/\(∀ m,C'.U m->m<nx')/\Tr C.U C [(nm,some (numsB l)),(nv,some (.arr 1 [[.d (iD x)]]))] C' H':=by
  intro base c ws h1 h2 h3 h4 h5 hil
  subst hil
  refine(Any2.slices_Insert_int_end_grow zra base l.length c kv (0*1) 1 cv ws [.int .i64 x] C.w qag h1 h2 qad (by rw[h4];simp) rfl h3 h5 hvs h1v).mono ?_
  rintro e w' ⟨rfl,rfl⟩
  have hg2:=gr (l.length+1) c (rnI.t 3)
  have hg3:=grownCap_le_maxLen C.w (l.length+1) c (rnI.t 3) qfs
  generalize grownCap C.w (l.length+1) c (rnI.t 3)=cap at hg2 hg3⊢
  refine fin2 _ _ cap (nw_drew (zox C.w.drew _ _)) (fun q v hq=>?_) hg2 ?_ ?_
  ·rw[zkx (Nat.le_refl _)]at hq
   by_cases a:q<l.length
   ·rw[if_pos a]at hq
    rw[Array.getElem?_append_left (by simp[h4];omega)]
    rw[h4]
    simp only[List.getElem?_toArray]
    rw[List.getElem?_append_left qfq,List.getElem?_map,hq];rfl
   ·rw[if_neg a]at hq
    by_cases b:q=l.length
    ·rw[if_pos b]at hq
     cases hq
     rw[Array.getElem?_append_left (by simp[h4];omega),h4]
     simp only[List.getElem?_toArray]
     rw[List.getElem?_append_right qbo,b]
     simp
    ·exact qht
  ·simp[h4,Builtin.zeroCells,Value.cells];omega
  ·unfold maxLen at hg3;omega
 rcases zco r0 with⟨k,c,cs,e,fz,hUk,hb,hl,hr0,ht,hh,hs,hx0⟩|⟨hUk,hl0,hr0,a0,hx0⟩
 rotate_left
 ·-- the nil slice
  have hl1:l=[]:=List.eq_nil_of_length_eq_zero hl0
  have hi0:i=l.length:=qad
  have:=endG a0 0 [] qad qad (fun _=>hl0) (by rw[hl1];rfl) (fun a _ j v hj=>by simp at hj) hi0
  have e0:Value.slice a0 0 0 = .slice a0 l.length 0:=by rw[hl0]
  rw[hx0,e0,hx2]
  exact this
 obtain⟨cs0,e0,hh0,hro,hsz,hcl,hcs⟩:=zdy (hH.blk nm _ hgm).2 hb
 rw[hh]at hh0;cases hh0
 have hq0:∀(q:Nat) (v:Int),l[q]?=some v->cs[q]?=some (.int .i64 v):=fun q v hq=>by
  obtain⟨y,h1,h2⟩:=hcs q (.d (iD v)) (by rw[zns,List.getElem?_map,hq];rfl)
  rw[h1,vrel_int h2]
 have hcsv':∀ j v,(l.map fun y=>Value.int .i64 y)[j]?=some v->C.w.cell? ⟨k,0*1+j,none⟩=some v:=fun j v hj=>by
  rw[zpt hh]
  rw[List.getElem?_map]at hj
  obtain⟨a,ha,rfl⟩:=Option.map_eq_some_iff.1 hj
  simpa using hq0 j a ha
 have hkk:kv≠k:=fun e=>hne ((hH.inj nv nm _ _ k hgv hgm (by rw[hbv,e]) hb).symm)
 have hsize:c<=cs.size:=qfp
 have hc63:c<=9223372036854775807:=by rw[ht rfl];exact hr63
 have fin1:∀(w':World) (cs':Array Value),Chg C.w w' k cs cs'->(∀(q:Nat) (v:Int),(insL l i x)[q]?=some v->cs'[q]?=some (.int .i64 v))->l.length+1<=c ->
   ∃ y v H' nx' C',(Ending.returned (.slice (some ⟨k,0*1,none⟩) (l.length+1) c):Ending) = .returned y/\C'.w=w'/\(∃ r':Nat,l.length+1<=r'/\r'<=9223372036854775807/\v=AV.sl n0 1 0 (l.length+1) r' true/\H'=[(n0,some (numsB (insL l i x)))]/\nx'=n0+1)/\VRel C' v y/\HRel G C' H'/\(∀ m,C'.U m->m<nx')/\Tr C.U C [(nm,some (numsB l)),(nv,some (.arr 1 [[.d (iD x)]]))] C' H':=by
  intro w' cs' hc hq h1
  obtain⟨C',e1,e2,e3,e4,e5,e6⟩:=renew (S:=1) hH hgm hb hn hc hro hnf (zo5 hq)
  obtain⟨e,_,at2⟩:=hc.at_
  refine⟨_,_,_,_,C',rfl,e1,⟨c,h1,hc63,rfl,rfl,rfl⟩,?_,zdg e4 ?_,fun m hm=>?_,e5.anti ?_⟩
  ·have:=VRel.sl (C:=C') n0 1 0 (l.length+1) c true k c cs' e (0,0) e3 e2 h1 (Nat.le_refl _) (fun _=>rfl) (by rw[e1];exact at2) (by rw[hc.csz];simpa using hsize)
   simpa using this
  ·exact qgh
  ·exact qhe
  ·exact qgh
 rw[hx0,hx2]
 have hcell:∀ q,q<c->(C.w.cell? ⟨k,q,none⟩).isSome=true:=fun q hq=>by
  rw[zpt hh];simp;omega
 by_cases hroom:l.length+1<=c
 ·by_cases hil:i=l.length
  ·subst hil
   refine(Any2.slices_Insert_int_end_room zra k (0*1) l.length c kv (0*1) 1 cv [.int .i64 x] C.w qag hroom hc63 rfl (fun j hj=>hcell _ qad) (fun j hj=>ziv hh _) hvs h1v).mono ?_
   rintro e w' ⟨rfl,rfl⟩
   refine fin1 _ _ (zfg _ _ _ _ hh) (fun q v hq=>?_) hroom
   rw[zgr _ _ _ _ qbo]
   rw[zkx (Nat.le_refl _)]at hq
   by_cases a:q<l.length
   ·rw[if_pos a]at hq
    rw[if_neg qad];exact hq0 q v hq
   ·rw[if_neg a]at hq
    by_cases b:q=l.length
    ·rw[if_pos b]at hq
     cases hq
     rw[if_pos qbo,b];simp
    ·exact qht
  ·refine(Any2.slices_Insert_int_shift zra k (0*1) l.length c i kv (0*1) 1 cv (l.map fun y=>Value.int .i64 y) [.int .i64 x] C.w qad qag hroom hc63 hkk qc3 rfl hcsv' (fun j hj=>hcell _ qad) (fun j hj=>ziv hh _) hvs h1c h1v _ _ _ _ (zut hhv) (zut hh) qad (ziv hhv _) (ziv hhv _)).mono ?_
   rintro e w' ⟨rfl,rfl⟩
   have h1:=(zpr hh).trans (zfg ((l.map fun y=>Value.int .i64 y).drop i) (0*1+(i+1)) C.w.drew cs hh)
   obtain⟨e',_,at2⟩:=h1.at_
   refine fin1 _ _ (h1.trans (zfg [.int .i64 x] (0*1+i) _ _ at2)) (fun q v hq=>?_) hroom
   rw[zgr _ _ _ _ (by rw[zf4];simp;omega),zgr _ _ _ _ qbo]
   rw[zkx hi]at hq
   by_cases a:q<i
   ·rw[if_pos a]at hq
    rw[if_neg qad,if_neg qad];exact hq0 q v hq
   ·rw[if_neg a]at hq
    by_cases b:q=i
    ·rw[if_pos b]at hq
     cases hq
     rw[if_pos qbo,b];simp
    ·rw[if_neg b]at hq
     have hlt:=(List.getElem?_eq_some_iff.1 hq).1
     rw[if_neg qbo,if_pos qbo,List.getElem?_drop,List.getElem?_map,show i+(q-(0*1+(i+1)))=q-1 by omega,hq];rfl
 ·by_cases hil:i=l.length
  ·refine endG (some ⟨k,0*1,none⟩) c (l.map fun y=>Value.int .i64 y) hl qad (fun h=>by cases h) rfl (fun a ha j v hj=>?_) hil
   cases ha
   have:=hcsv' j v hj
   rw[Addr.add_lit];exact this
  ·refine(Any2.slices_Insert_int_grow zra k (0*1) l.length c i kv (0*1) 1 cv (l.map fun y=>Value.int .i64 y) [.int .i64 x] C.w qad qag hl qad qad qc3 rfl hcsv' hvs h1c h1v).mono ?_
   rintro e w' ⟨rfl,rfl⟩
   have hg2:=gr (l.length+1) c (rnI.t 3)
   have hg3:=grownCap_le_maxLen C.w (l.length+1) c (rnI.t 3) qfs
   generalize grownCap C.w (l.length+1) c (rnI.t 3)=cap at hg2 hg3⊢
   have n1:=zox C.w (((l.map fun y=>Value.int .i64 y).take i).toArray++Builtin.zeroCells (Value.int .i64 0).cells (l.length+1-i)++Builtin.zeroCells (Value.int .i64 0).cells (cap-(l.length+1))) (rnI.t 3)
   obtain⟨e1,t1⟩:=n1.at_
   have n2:=n1.chg ((zpr t1).trans (zfg [.int .i64 x] i _ _ t1))
   obtain⟨e2,t2⟩:=n2.at_
   have n3:=n2.chg ((zpr t2).trans (zfg ((l.map fun y=>Value.int .i64 y).drop i) (i+1) _ _ t2))
   have hz:(((l.map fun y=>Value.int .i64 y).take i).toArray++Builtin.zeroCells (Value.int .i64 0).cells (l.length+1-i)++Builtin.zeroCells (Value.int .i64 0).cells (cap-(l.length+1))).size=cap:=by
    simp[Builtin.zeroCells,Value.cells];omega
   refine fin2 _ _ cap n3 (fun q v hq=>?_) hg2 (by rw[zf4,zf4,hz];exact Nat.le_refl _) (by unfold maxLen at hg3;omega)
   rw[zgr _ _ _ _ (by rw[zf4,hz];simp;omega),zgr _ _ _ _ (by rw[hz];simp;omega)]
   rw[zkx hi]at hq
   by_cases a:q<i
   ·rw[if_pos a]at hq
    rw[if_neg qad,if_neg qad,Array.getElem?_append_left qbo,Array.getElem?_append_left qbo]
    simp only[List.getElem?_toArray]
    rw[List.getElem?_take_of_lt a,List.getElem?_map,hq];rfl
   ·rw[if_neg a]at hq
    by_cases b:q=i
    ·rw[if_pos b]at hq
     cases hq
     rw[if_neg qad,if_pos qbo,b];simp
    ·rw[if_neg b]at hq
     have hlt:=(List.getElem?_eq_some_iff.1 hq).1
     rw[if_pos qbo,List.getElem?_drop,List.getElem?_map,show i+(q-(i+1))=q-1 by omega,hq];rfl
end Go.Tz
namespace Go.Tz
open Go Go.AL Go.Proofs
abbrev storeB(bs:List Int)(u:Bool)(nx st:Int):Blk:=.arr 3 [[.d (.sl (bs.map fun b=>[.int .u8 b]) u),.d (iD nx),.d (.int .u32 st)]]
theorem wrap32(n:Int):IntKind.u32.wrap n=n%4294967296:=qd4
theorem zyq(n:Int):0<=IntKind.u32.wrap n:=by rw[wrap32];omega
theorem u32_lt(n:Int):IntKind.u32.wrap n<4294967296:=by rw[wrap32];omega
theorem shr_ge{a b:Int}(h:0<=a):0<=ishr .u32 a b:=by
 unfold ishr
 exact Int.fdiv_nonneg h (by exact_mod_cast Nat.zero_le _)
theorem shr_lt{a b:Int}(h:0<=a)(h2:a<4294967296):ishr .u32 a b<4294967296:=by
 unfold ishr
 have hp:(0:Int)<2^min b.toNat IntKind.u32.bits:=by exact_mod_cast Nat.two_pow_pos _
 rw[Int.fdiv_eq_ediv_of_nonneg _ (Int.le_of_lt hp)]
 exact Int.lt_of_le_of_lt (Int.ediv_le_self _ h) h2
theorem chk147:chkFn Tryz.f147=true:=qah
theorem draw147(bs:List Int)(u:Bool)(nx:Nat)(st:Int)(n0:Nat)(hnx:nx<4611686018427387904)(hbs:bs.length<=1000) :
  ACall Pr GG 147 [.ptr 0 3 0 0] [(0,some (storeB bs u nx st))] n0 fun v H n=>∃(x st':Int) (nx':Nat),nx'<=nx+1/\0<=x/\x<4294967296/\v = .d (.int .u32 x)/\H.get 0=some (storeB bs u nx' st'):=by
 refine za4 pok Tryz.func147 chk147 ?_
 conv=>whnf
 cases bs with
 | nil =>
  repeat' first|((first|refine LookP.mk _ rfl ?_|refine ShlP.mk _ qaa ?_|refine And.intro qbi ?_|refine HpP.force ?_);conv=>whnf)|(intro t ht;cases t<;>conv=>whnf)
  ·exact fin ⟨_,_,nx,by omega,shr_ge (zyq _),shr_lt (zyq _) (u32_lt _),rfl,rfl⟩
  ·exact qcx
 | cons b bs =>
  have hmd:(nx:Int).tmod ((((b::bs).map fun b=>[D.int IntKind.u8 b]).length:Nat):Int)=((nx%(bs.length+1):Nat):Int):=by
   rw[Int.tmod_eq_emod_of_nonneg qad,List.length_map];rfl
  have hlt:nx%(bs.length+1)<bs.length+1:=Nat.mod_lt _ qad
  have hget:∃ y:Int,((b::bs).map fun b=>[D.int IntKind.u8 b])[((nx%(bs.length+1):Nat):Int).toNat]?=some [D.int IntKind.u8 y]:=by
   refine⟨(b::bs)[nx%(bs.length+1)]'(by simpa using hlt),?_⟩
   rw[Int.toNat_natCast,List.getElem?_map,List.getElem?_eq_getElem (by simpa using hlt)];rfl
  obtain⟨y,hget⟩:=hget
  have hne:((((b::bs).map fun b=>[D.int IntKind.u8 b]).length:Nat):Int)≠0:=qev
  have hgt:decide (((((b::bs).map fun b=>[D.int IntKind.u8 b]).length:Nat):Int)>0)=true:=decide_eq_true qev
  have hln:((b::bs).map fun b=>[D.int IntKind.u8 b]).length=bs.length+1:=qc3
  have e1:iadd .i64 (nx:Int) 1=((nx+1:Nat):Int):=zah (b:=1) qad
  generalize nx%(bs.length+1)=m at hmd hlt hget
  repeat' first|((first|refine LookP.mk _ (by first|rfl|exact hget) ?_|refine ShlP.mk _ qaa ?_|refine And.intro (by first|exact hne|exact⟨Int.natCast_nonneg _,by rw[hln];omega⟩|assumption|exact⟨by kernel_rfl,rfl⟩|decide|omega) ?_|refine knownB hgt ?_|rw[hmd]|rw[e1]|refine HpP.force ?_);conv=>whnf)
  exact fin ⟨_,_,nx+1,Nat.le_refl _,zyq _,u32_lt _,rfl,rfl⟩
structure SC {ι:Type} (f:FuncId) (args:List D) (bs:List Int) (u:Bool) (cnt n0:Nat) (dof:ι->D) (Q:ι->Prop):Prop where
 fn:IsFn Pr f
 call:∀(nx:Nat) (st:Int),nx+cnt<=4611686018427387904->ACall Pr GG f (.ptr 0 3 0 0::args.map .d) [(0,some (storeB bs u nx st))] n0 fun v H n=>∃(i:ι) (st':Int) (nx':Nat),nx'<=nx+cnt/\Q i/\v = .d (dof i)/\H=[(0,some (storeB bs u nx' st'))]/\n=n0
variable{ι:Type}{f:FuncId}{args:List D}{bs:List Int}{u:Bool}{cnt n0:Nat}{dof:ι->D}{Q:ι->Prop}
theorem sc_mk(hf:IsFn Pr f)(hn:0<n0)
  (h:∀(nx:Nat) (st:Int),nx+cnt<=4611686018427387904->ACall Pr GG f (.ptr 0 3 0 0::args.map .d) [(0,some (storeB bs u nx st))] n0 fun v H _=>∃(i:ι) (st':Int) (nx':Nat),nx'<=nx+cnt/\Q i/\v = .d (dof i)/\H.get 0=some (storeB bs u nx' st')):SC f args bs u cnt n0 dof Q:=by
 refine⟨hf,fun nx st hb=>zaz (h nx st hb) ?_⟩
 rintro v H n ⟨i,st',nx',h1,h2,rfl,h4⟩
 refine⟨.d (dof i),[(0,some (storeB bs u nx' st'))],n0,?_,i,st',nx',h1,h2,rfl,rfl,rfl⟩
 exact zac (Nat.le_refl _) ⟨⟨rfl,rfl⟩,trivial⟩ ⟨⟨hn,_,rfl,h4,zab rfl⟩,trivial⟩ trivial
theorem zlm{nx0 nx:Nat}{st:Int}{H:AHeap}{k:AV->AHeap->Nat->Prop}(h:SC f args bs u cnt n0 dof Q)(hn:nx0<=n0)(hb:nx+cnt<=4611686018427387904)
  (hg:H.get 0=some (storeB bs u nx st)) (hk:∀(i:ι) (st':Int) (nx':Nat),nx'<=nx+cnt->Q i->k (.d (dof i)) ((0,some (storeB bs u nx' st'))::H) n0):CallVC Pr GG f (.ptr 0 3 0 0::args.map .d) H nx0 k:=by
 refine⟨h.fn,zbj (h.call nx st hb) hn (fun m b hm=>?_) ?_⟩
 ·rw[zaj]at hm
  by_cases e:m=0
  ·exact qdb
  ·exact qdk
 ·exact qgm
theorem sc147(bs:List Int)(u:Bool)(n0:Nat)(hn:0<n0)(hbs:bs.length<=1000):SC 147 [] bs u 1 n0 (fun x:Int=>.int .u32 x) fun x=>0<=x/\x<4294967296 :=
 sc_mk (za3 Tryz.func147 chk147) hn fun nx st hb=>zbc (draw147 bs u nx st n0 qad hbs) fun v H n ⟨x,st',nx',h1,h2,h3,h4,h5⟩=>⟨x,st',nx',h1,⟨h2,h3⟩,h4,h5⟩
theorem chk71:chkFn Tryz.f71=true:=qah
theorem less_val{x:Int}{m:Nat}(x0:0<=x)(x1:x<4294967296)(hm:0<m):∃ y:Nat,y<m/\(IntKind.i64.wrap (ishr .u32 x 4)).tmod m=y:=by
 have h1:=shr_ge (b:=4) x0
 have h2:=shr_lt (b:=4) x0 x1
 generalize ishr .u32 x 4=z at h1 h2
 have e:IntKind.i64.wrap z=z:=by rw[IntKind.wrap_i64];omega
 refine⟨(z%m).toNat,?_,?_⟩
 ·have:=Int.emod_lt_of_pos z (show(0:Int)<m by omega)
  have:=Int.emod_nonneg z (show(m:Int)≠0 by omega)
  omega
 ·rw[e,Int.tmod_eq_emod_of_nonneg h1]
  have:=Int.emod_nonneg z (show(m:Int)≠0 by omega)
  omega
theorem sc71(bs:List Int)(u:Bool)(n0 m:Nat)(hn:0<n0)(hbs:bs.length<=1000)(hm:0<m):SC 71 [iD m] bs u 1 n0 (fun y:Nat=>iD y) fun y=>y<m:=by
 have c1:=sc147 bs u n0 hn hbs
 have hgt:decide ((m:Int)<=0)=false:=decide_eq_false qad
 refine sc_mk (za3 Tryz.func71 chk71) hn fun nx st hb=>?_
 refine za4 pok Tryz.func71 chk71 ?_
 conv=>whnf
 repeat' first|(refine knownB hgt ?_;conv=>whnf)
 refine zlm c1 (Nat.le_refl _) hb rfl ?_
 intro x st' nx' h1 hx
 obtain⟨y,y1,y2⟩:=less_val hx.1 hx.2 hm
 conv=>whnf
 repeat' first|((first|refine And.intro (by first|exact(by omega:(m:Int)≠0)|assumption|exact⟨by kernel_rfl,rfl⟩|decide|omega) ?_|fail);conv=>whnf)|fail
 exact fin ⟨y,st',nx',h1,y1,congrArg (fun n=>AV.d (iD n)) y2,rfl⟩
theorem chk63:chkFn Tryz.f63=true:=qah
theorem sc63(bs:List Int)(u:Bool)(n0 m:Nat)(hn:0<n0)(hbs:bs.length<=1000)(hm:0<m)(hm2:m<1000000):SC 63 [iD 1,iD m] bs u 1 n0 (fun y:Nat=>iD y) fun y=>1<=y/\y<=m:=by
 have c1:=sc71 bs u n0 m hn hbs hm
 have e1:iadd .i64 (isub .i64 (m:Int) 1) 1=(m:Int):=by rw[zcb qad qad,zci qad qad];omega
 refine sc_mk (za3 Tryz.func63 chk63) hn fun nx st hb=>?_
 refine za4 pok Tryz.func63 chk63 ?_
 conv=>whnf
 repeat' first|(rw[e1];conv=>whnf)
 refine zlm c1 (Nat.le_refl _) hb rfl ?_
 intro y st' nx' h1 hy
 have e2:iadd .i64 1 (y:Int)=((1+y:Nat):Int):=zah (a:=1) qad
 conv=>whnf
 skip
 exact fin ⟨1+y,st',nx',h1,⟨by omega,by omega⟩,congrArg (fun n=>AV.d (iD n)) e2,rfl⟩
end Go.Tz
namespace Go.AL
open Go
theorem zfx{P:Program}{G:Nat->Option (List D)}{f:FuncId}{args:List AV}{H0:AHeap}{n0:Nat}{K K':AV->AHeap->Nat->Prop}(h:ACall P G f args H0 n0 K)(hK:∀ v H n,K v H n->∃ nm b d,H.get nm=some b/\AsD [(nm,some b)] v d/\K' (.d d) (dels [nm] H) n):ACall P G f args H0 n0 K':=by
 intro C vs hH hU hl hr
 refine(h C vs hH hU hl hr).mono ?_
 rintro e w' ⟨x,v,H',n,C',rfl,rfl,hk,hv,hHR,hU',hT⟩
 obtain⟨nm,b,d,hg,ha,hk'⟩:=hK v H' n hk
 obtain⟨C2,e1,e2,e3,g,tt,r,q⟩:=zdv [nm] hHR
 have hHL:HRel G C' [(nm,some b)]:=zdg hHR fun m bl h=>by
  by_cases em:m=nm
  ·subst em;rw[zaf]at h;rw[hg,<- h]
  ·exact qfo
 have hd:DRel C2.w C2.RO d x:=by
  have:=zfw hHL (RO:=C2.RO) r (fun m bl j h1 h2=>by
   by_cases em:m=nm
   ·subst em;exact q m _ j qc3 hg h2
   ·rw[zad _ _ em]at h1;cases h1) ha x hv
  rw[e1];exact this
 exact⟨x,.d d,_,n,C2,rfl,e1,hk',.d _ _ hd,g,fun m hm=>hU' m (by rw[<- e2];exact hm),zlh hT tt⟩
end Go.AL
namespace Go.Tz
open Go Go.AL Go.Proofs Go.Shelf
theorem zxt{G:Nat->Option (List D)}{nv n0:Nat}(x:Int):ACall Pr G 146 [.d (.sl [] true),.d (iD 0),.sl nv 1 0 1 1 true] [(nv,some (.arr 1 [[.d (iD x)]]))] n0
   fun v H n=>∃ r':Nat,1<=r'/\r'<=9223372036854775807/\v = .sl n0 1 0 1 r' true/\H=[(n0,some (numsB [x]))]/\n=n0+1:=by
 intro C vs hH hU hsz hr
 have hn:¬ C.U n0:=fun h=>Nat.lt_irrefl _ (hU n0 h)
 have r0:=zbi (hr 0 _ rfl)
 have r1:=vrel_int (hr 1 _ rfl)
 have r2:=hr 2 _ rfl
 rw[arr3 (vs:=vs) (by simpa using hsz),r1]
 have hgv:AHeap.get [(nv,some (Blk.arr 1 [[.d (iD x)]]))] nv=some (.arr 1 [[.d (iD x)]]):=by rw[zaj,if_pos rfl]
 rcases zco r2 with⟨kv,cv,csv,ev,fzv,hUv,hbv,hlv,hrv,htv,hhv,hsv,hx2⟩|⟨_,h,_⟩
 rotate_left
 ·exact qed
 obtain⟨csv0,ev0,hhv0,hrov,_,_,hcsv⟩:=zdy (hH.blk nv _ hgv).2 hbv
 rw[hhv]at hhv0;cases hhv0
 have hv0:csv[0]?=some (.int .i64 x):=by
  obtain⟨y,h1,h2⟩:=hcsv 0 (.d (iD x)) rfl
  rw[h1,vrel_int h2]
 have hvs:∀ j v,[Value.int .i64 x][j]?=some v->C.w.cell? ⟨kv,0*1+j,none⟩=some v:=fun j v hj=>by
  match j,hj with
  | 0,hj=>cases hj;rw[zpt hhv];exact hv0
 have h1v:∀ v∈[Value.int .i64 x],v.oneCell'=true:=fun v hv=>by rw[List.mem_singleton.1 hv];rfl
 have hbase:∃ a c,vs.getD 0 undef = .slice a 0 c/\c=0:=by
  generalize vs.getD 0 undef=y at r0
  cases r0 with
  | sl0 _ a c ht=>exact⟨a,c,rfl,ht rfl⟩
  | sl _ _ b o c sz ws hro hc ht hsz hm hr=>exact⟨_,c,rfl,ht rfl⟩
 obtain⟨a,c,ha,hc0⟩:=hbase
 subst hc0
 rw[ha,hx2]
 refine(Any2.slices_Insert_int_end_grow zra a 0 0 kv (0*1) 1 cv [] [.int .i64 x] C.w qag (Nat.le_refl 0) qag qag rfl rfl (fun _=>rfl) (fun a _ j v hj=>by simp at hj) hvs h1v).mono ?_
 rintro e w' ⟨rfl,rfl⟩
 have hg2:=grownCap_ge C.w (0+1) 0 (rnI.t 3)
 have hg3:=grownCap_le_maxLen C.w (0+1) 0 (rnI.t 3) qfs
 generalize grownCap C.w (0+1) 0 (rnI.t 3)=cap at hg2 hg3⊢
 have hc:=nw_drew (zox C.w.drew (([]++[Value.int .i64 x]).toArray++Builtin.zeroCells (Value.int .i64 0).cells (cap-(0+1))) (rnI.t 3))
 have hq:∀(q:Nat) (v:Int),[x][q]?=some v->(([]++[Value.int .i64 x]).toArray++Builtin.zeroCells (Value.int .i64 0).cells (cap-(0+1)))[q]?=some (.int .i64 v):=fun q v hq=>by
  match q,hq with
  | 0,hq=>cases hq;rw[Array.getElem?_append_left qc3];rfl
 obtain⟨C',e1,e2,e3,e4,e5,e6⟩:=made2 (S:=1) hH hn hc (zq4 [x]) (zo5 hq)
 obtain⟨e,at2⟩:=hc.at_
 have hsize:cap<=(([]++[Value.int .i64 x]).toArray++Builtin.zeroCells (Value.int .i64 0).cells (cap-(0+1))).size:=by
  simp[Builtin.zeroCells,Value.cells];omega
 refine⟨_,_,_,_,C',rfl,e1,⟨cap,hg2,by unfold maxLen at hg3;omega,rfl,rfl,rfl⟩,?_,zdg e4 ?_,fun m hm=>?_,e5.anti ?_⟩
 ·have:=VRel.sl (C:=C') n0 1 0 1 cap true C.w.heap.size cap _ e (0,0) e3 e2 hg2 (Nat.le_refl _) (fun _=>rfl) (by rw[e1];exact at2) qej
  simpa using this
 ·exact qgh
 ·exact qhe
 ·exact qgh
end Go.Tz
namespace Go.Tz
open Go Go.AL Go.Proofs
theorem ins_use{nm nv nx0 i r:Nat}{H:AHeap}{l:List Int}{x:Int}{k:AV->AHeap->Nat->Prop}(hi:i<=l.length)(hbig:l.length<=1000)(hne:nm≠nv)(hr63:r<=9223372036854775807)(hg:H.get nm=some (numsB l))(hgv:H.get nv=some (.arr 1 [[.d (iD x)]]))
  (hk:∀ r':Nat,l.length+1<=r'->r'<=9223372036854775807->k (.sl nx0 1 0 (l.length+1) r' true) ((nx0,some (numsB (insL l i x)))::(nm,none)::(nv,none)::H) (nx0+1)) :
  CallVC Pr GG 146 [.sl nm 1 0 l.length r true,.d (iD i),.sl nv 1 0 1 1 true] H nx0 k:=by
 refine⟨isFn146,zbj (insert146 (n0:=nx0) x hi hbig hne hr63) (Nat.le_refl _) (fun m b hm=>?_) ?_⟩
 ·rw[zaj,zaj]at hm
  by_cases e:m=nm
  ·exact qdb
  ·rw[if_neg e]at hm
   by_cases e2:m=nv
   ·rw[if_pos e2]at hm;rw[e2,hgv,hm]
   ·rw[if_neg e2]at hm;cases hm
 ·rintro v H1 n ⟨r',h1,h2,rfl,rfl,rfl⟩
  refine⟨_,fun m b hm=>?_,hk r' h1 h2⟩
  rw[zaj]at hm
  by_cases e:m=nx0
  ·exact qb7
  ·rw[if_neg e]at hm
   right
   obtain⟨a1,hm⟩:=zbz hm
   obtain⟨a2,hm⟩:=zbz hm
   exact⟨by rw[zaj,if_neg a1,zaj,if_neg a2];rfl,hm⟩
theorem ins_useL{nm nv nx0 i r n:Nat}{H:AHeap}{l:List Int}{x:Int}{k:AV->AHeap->Nat->Prop}(hl:l.length=n)(hi:i<=n)(hbig:n<=1000)(hne:nm≠nv)(hr63:r<=9223372036854775807)(hg:H.get nm=some (numsB l))(hgv:H.get nv=some (.arr 1 [[.d (iD x)]]))
  (hk:∀ r':Nat,n+1<=r'->r'<=9223372036854775807->k (.sl nx0 1 0 (n+1) r' true) ((nx0,some (numsB (insL l i x)))::(nm,none)::(nv,none)::H) (nx0+1)) :
  CallVC Pr GG 146 [.sl nm 1 0 n r true,.d (iD i),.sl nv 1 0 1 1 true] H nx0 k:=by
 subst hl
 exact ins_use hi hbig hne hr63 hg hgv hk
theorem insn_use{nv nx0:Nat}{H:AHeap}{x:Int}{k:AV->AHeap->Nat->Prop}(hgv:H.get nv=some (.arr 1 [[.d (iD x)]]))
  (hk:∀ r':Nat,1<=r'->r'<=9223372036854775807->k (.sl nx0 1 0 1 r' true) ((nx0,some (numsB [x]))::(nv,none)::H) (nx0+1)) :
  CallVC Pr GG 146 [.d (.sl [] true),.d (iD 0),.sl nv 1 0 1 1 true] H nx0 k:=by
 refine⟨isFn146,zbj (zxt (n0:=nx0) x) (Nat.le_refl _) (fun m b hm=>?_) ?_⟩
 ·rw[zaj]at hm
  by_cases e2:m=nv
  ·rw[if_pos e2]at hm;rw[e2,hgv,hm]
  ·rw[if_neg e2]at hm;cases hm
 ·rintro v H1 n ⟨r',h1,h2,rfl,rfl,rfl⟩
  refine⟨_,fun m b hm=>?_,hk r' h1 h2⟩
  rw[zaj]at hm
  by_cases e:m=nx0
  ·exact qb7
  ·rw[if_neg e]at hm
   right
   obtain⟨a2,hm⟩:=zbz hm
   exact⟨by rw[zaj,if_neg a2];rfl,hm⟩
def Ord(n:Nat)(l:List Int):Prop:=l.length=n/\l.Nodup /\ ∀ x,x∈l->0<=x/\x<n
theorem ord_ins{n i:Nat}{l:List Int}(h:Ord n l)(hi:i<=n):Ord (n+1) (insL l i n):=by
 obtain⟨h1,h2,h3⟩:=h
 have hp:(insL l i (n:Int)).Perm ((n:Int)::l):=by
  unfold insL
  refine List.perm_middle.trans ?_
  rw[List.take_append_drop]
 refine⟨by rw[insL_len qad,h1],hp.nodup_iff.2 (List.nodup_cons.2 ⟨fun hm=>?_,h2⟩),fun x hx=>?_⟩
 ·have:=(h3 _ hm).2;omega
 ·rcases List.mem_cons.1 (hp.mem_iff.1 hx) with rfl|q
  ·exact⟨by omega,by omega⟩
  ·have:=h3 x q;exact⟨this.1,by omega⟩
theorem chk70:chkFn Tryz.f70=true:=qah
abbrev stOr(bs:List Int)(u:Bool)(n:Nat)(s:Nat×List Int×Nat×Int×Nat):St:=match s.1 with
 | 0=>⟨[(0,.ptr 0 3 0 0),(5,.d (.sl [] true)),(7,.d (iD n)),(8,.d (iD (0:Nat)))],[(0,some (storeB bs u s.2.2.2.2 s.2.2.2.1))],100⟩
 | i+1=>⟨[(0,.ptr 0 3 0 0),(5,.sl 100 1 0 (i+1) s.2.2.1 true),(7,.d (iD n)),(8,.d (iD (i+1:Nat)))],[(0,some (storeB bs u s.2.2.2.2 s.2.2.2.1)),(100,some (numsB s.2.1))],101⟩
theorem order70(bs:List Int)(u:Bool)(n nx:Nat)(st:Int)(hn0:0<n)(hn:n<=100)(hbs:bs.length<=1000)(hb:nx+n<=4611686018427387904) :
  ACall Pr GG 70 [.ptr 0 3 0 0,.d (iD n)] [(0,some (storeB bs u nx st))] 100 fun v H _=>∃(l:List Int) (t:Bool) (st':Int) (nx':Nat),nx'<=nx+n/\Ord n l/\v = .d (intsD l t)/\H.get 0=some (storeB bs u nx' st'):=by
 refine zbc (zfx (K':=fun v H _=>∃(l:List Int) (t:Bool) (st':Int) (nx':Nat),nx'<=nx+n/\Ord n l/\v = .d (intsD l t)/\H.get 0=some (storeB bs u nx' st')) (K:=fun v H _=>∃(l:List Int) (r:Nat) (st':Int) (nx':Nat),nx'<=nx+n/\Ord n l/\0<n/\v = .sl 100 1 0 n r true/\H.get 0=some (storeB bs u nx' st')/\H.get 100=some (numsB l)) ?_ ?_) fun _ _ _ h=>h
 ·refine za4 pok Tryz.func70 chk70 ?_
  conv=>whnf
  skip
  refine zef (σ:={ s:Nat×List Int×Nat×Int×Nat // s.1<=n/\Ord s.1 s.2.1/\s.2.2.1<=9223372036854775807/\s.2.2.2.2<=nx+s.1 }) (fun s=>stOr bs u n s.1) (fun s=>n-s.1.1) ⟨(0,[],0,st,nx),Nat.zero_le _,⟨rfl,List.nodup_nil,fun x hx=>by cases hx⟩,Nat.zero_le _,Nat.le_refl _⟩ ?_ qah ?_
  ·exact qf2
  ·rintro⟨⟨i,l,r,st',nx'⟩,h1,h2,h3,h4⟩ A hA
   dsimp only at h1 h2 h3 h4 hA⊢
   have e1:iadd .i64 (i:Int) 1=((i+1:Nat):Int):=zah (b:=1) qad
   cases i with
   | zero =>
    have c1:=sc71 bs u 101 1 qag hbs qag
    conv=>whnf
    repeat' first|(intro t ht;cases t<;>conv=>whnf)
    ·exact qbw
    have e0:iadd .i64 ((0:Nat):Int) 1=((1:Nat):Int):=rfl
    rw[e0]
    refine zlm (nx:=nx') (st:=st') c1 qag qad rfl ?_
    intro y st2 nx2 g1 g2
    obtain rfl:y=0:=qad
    conv=>whnf
    repeat' first|((first|refine ShlP.mk _ qaa ?_|fail);conv=>whnf)|fail
    refine insn_use rfl ?_
    intro r' r1 r2
    conv=>whnf
    skip
    refine hA _ ⟨(1,[((0:Nat):Int)],r',st2,nx2),by omega,ord_ins (n:=0) (i:=0) ⟨rfl,List.nodup_nil,fun x hx=>by cases hx⟩ (Nat.le_refl 0),r2,by show nx2<=nx+1;omega⟩ ?_ (by show n-1<n-0;omega)
    first|refine zav [(100,102)] ?_ ?_ ?_ trivial|refine zap [(100,102)] rfl rfl ?_ ?_ ?_ trivial
    ·repeat' first|exact trivial|refine⟨⟨by first|rfl|assumption|exact congrArg (fun n=>AV.d (iD n)) e0,rfl⟩,?_⟩
    ·repeat' first|exact trivial|refine⟨⟨ltB rfl,_,rfl,by first|rfl|assumption|exact zag rfl (by first|rfl|assumption|exact zag rfl rfl)|exact zag rfl rfl,by first|exact zae rfl|exact zaa _ _ _|exact zab rfl⟩,?_⟩
    ·exact qaf
   | succ i =>
    have c1:=sc71 bs u 101 (i+1+1) qag hbs qad
    have hl:l.length=i+1:=h2.1
    conv=>whnf
    repeat' first|(intro t ht;cases t<;>conv=>whnf)
    ·have hin:i+1=n:=by
      have:=of_decide_eq_false ht
      omega
     subst hin
     exact fin ⟨l,r,st',nx',h4,h2,hn0,rfl,rfl,rfl⟩
    have hlt:i+1<n:=by
     have:=of_decide_eq_true ht
     omega
    rw[e1]
    refine zlm (nx:=nx') (st:=st') c1 qag qad rfl ?_
    intro y st2 nx2 g1 g2
    conv=>whnf
    repeat' first|((first|refine ShlP.mk _ qaa ?_|fail);conv=>whnf)|fail
    refine ins_useL hl qad qad qag h3 rfl rfl ?_
    intro r' r1 r2
    conv=>whnf
    skip
    refine hA _ ⟨(i+1+1,insL l y ((i+1:Nat):Int),r',st2,nx2),hlt,ord_ins h2 qad,r2,by show nx2<=nx+(i+1+1);omega⟩ ?_ (by show n-(i+1+1)<n-(i+1);omega)
    first|refine zav [(100,102)] ?_ ?_ ?_ trivial|refine zap [(100,102)] rfl rfl ?_ ?_ ?_ trivial
    ·exact qar
    ·repeat' first|exact trivial|refine⟨⟨ltB rfl,_,rfl,by first|rfl|assumption|exact zag rfl (by first|rfl|assumption|exact zag rfl (by rw[zbf]))|exact zag rfl (by rw[zbf]),by first|exact zae rfl|exact zaa _ _ _|exact zab rfl⟩,?_⟩
    ·exact qaf
 ·rintro v H m ⟨l,r,st',nx',h1,h2,h3,rfl,g0,g1⟩
  have hd:AHeap.get (dels [100] H) 0=some (storeB bs u nx' st'):=by
   show(AHeap.del H 100).get 0=_
   rw[za8,if_neg qag];exact g0
  refine⟨100,_,intsD l (true&&decide (r=n)),g1,?_,l,_,st',nx',h1,h2,rfl,hd⟩
  have:=zt6 (H:=[(100,some (numsB l))]) (nm:=100) (sz:=1) (l:=l.map fun x=>[iD x]) (len:=n) (room:=r) (t:=true) rfl qe3
  rwa [List.take_of_length_le qe3]at this
end Go.Tz
namespace Go.Tz
open Go Go.AL Go.Proofs
theorem sc70(bs:List Int)(u:Bool)(n:Nat)(hn0:0<n)(hn:n<=100)(hbs:bs.length<=1000):SC 70 [iD n] bs u n 100 (fun p:List Int×Bool=>intsD p.1 p.2) fun p=>Ord n p.1 :=
 sc_mk (za3 Tryz.func70 chk70) qag fun nx st hb=>zbc (order70 bs u n nx st hn0 hn hbs hb) fun _ _ _ ⟨l,t,st',nx',h1,h2,h3,h4⟩=>⟨(l,t),st',nx',h1,h2,h3,h4⟩
theorem chk140:chkFn Tryz.f140=true:=qah
theorem ar140(k:Int):PC Pr GG 140 [iD k] (iD (arI k)):=by
 refine zai pok Tryz.func140 chk140 ?_
 conv=>whnf
 repeat' first|(intro t ht;cases t<;>conv=>whnf)
 all_goals refine fin ?_
 all_goals refine fiI ?_
 all_goals simp at *
 all_goals first|exact(ari1 qad).symm|exact(ari2 qad).symm|exact(ari3 qad).symm|exact(ari0 qad).symm
def cfL:List Int:=[1,2,3,4,5,6,9,10,11]
abbrev cfD:D:=.sl (cfL.map fun k=>[iD k]) false
structure GtOk (w:Nat) (g:Gt):Prop where
 chk:gchk g w 0=0
 kind:kindB g.k=true
 len:g.ws.length<=2
 i0:g.i=0
theorem gt_ok{w a:Nat}{k:Int}{l:List Int}{t:Bool}(ho:Ord w l)(hk:kindB k=true)(ha:arI k=a)(haw:a<=w):GtOk w ⟨k,l.take a,t,0,0⟩:=by
 obtain⟨h1,h2,h3⟩:=ho
 have hk':=of_decide_eq_true hk
 have ha2:a=1\/a=2:=by
  rcases hk' with q|q
  ·rw[ari1 qad]at ha;omega
  ·rw[ari2 q]at ha;omega
 have hlen:(l.take a).length=a:=by rw[List.length_take,h1];omega
 refine⟨?_,hk,by show(l.take a).length<=2;omega,rfl⟩
 unfold gchk
 dsimp only
 rw[if_neg qad,if_neg (by rw[hlen,ha];simp)]
 have ho:outB w (l.take a)=false:=List.any_eq_false.2 fun x hx=>by
  have:=h3 x (List.mem_of_mem_take hx)
  simp;omega
 have hd:dupB (l.take a)=false:=dupB_no fun j hj=>by
  rw[zpl hj]
  refine decide_eq_false fun hm=>?_
  obtain⟨i,hi,he⟩:=List.mem_take_iff_getElem.1 hm
  have hnd:(l.take a).Nodup:=h2.sublist (List.take_sublist _ _)
  exact List.pairwise_iff_getElem.1 hnd i j qad hj qad he
 rw[ho,hd,if_neg qag,if_neg qag]
 unfold bitE
 dsimp only
 rw[if_neg qad,if_neg qad]
theorem cf_get{y:Nat}(h:y<9):∃ k:Int,(cfL.map fun k=>[iD k])[(y:Int).toNat]?=some [iD k]/\kindB k=true /\ ∃ a:Nat,arI k=a/\a<=2:=by
 have:((List.range 9).all fun y=>match cfL[y]? with
  | some k=>kindB k&&(decide (arI k=1)||decide (arI k=2))
  | none=>false)=true:=by kernel_rfl
 have hy:=List.all_eq_true.1 this y (List.mem_range.2 h)
 split at hy
 ·rename_i k hk
  simp only[Bool.and_eq_true,Bool.or_eq_true,decide_eq_true_eq]at hy
  refine⟨k,by rw[Int.toNat_natCast,List.getElem?_map,hk];rfl,hy.1,?_⟩
  rcases hy.2 with q|q
  ·exact⟨1,q,by decide⟩
  ·exact⟨2,q,by decide⟩
 ·cases hy
theorem zvq(l:List Int):∀ el:List D,el∈(l.map fun x=>[iD x])->el.length=1:=fun el h=>by
 obtain⟨x,_,rfl⟩:=List.mem_map.1 h;rfl
theorem chk65:chkFn Tryz.f65=true:=qah
theorem sc65(bs:List Int)(u:Bool)(w:Nat)(hw:1<=w/\w<=12)(hbs:bs.length<=1000):SC 65 [iD w,cfD] bs u 13 90 Gt.d fun g=>GtOk w g:=by
 have c1:=sc71 bs u 91 9 qag hbs qag
 have c2:=sc70 bs u w qad qad hbs
 refine sc_mk (za3 Tryz.func65 chk65) qag fun nx st hb=>?_
 refine za4 pok Tryz.func65 chk65 ?_
 conv=>whnf
 skip
 refine zlm (nx:=nx) (st:=st) c1 qag qad rfl ?_
 intro y st1 nx1 g1 g2
 obtain⟨k,k1,k2,a,k3,k4⟩:=cf_get g2
 have c3:=ar140 k
 rw[k3]at c3
 conv=>whnf
 repeat' first|((first|refine LookP.mk _ (by first|rfl|exact k1) ?_|(refine And.intro (by first|exact⟨Int.natCast_nonneg _,by simp only[List.length_map];show _<((9:Nat):Int);omega⟩|assumption|exact⟨by kernel_rfl,rfl⟩|decide|omega) ?_)|refine zak c3 ?_);conv=>whnf)|(intro t ht;cases t<;>conv=>whnf)
 ·have hw2:a<=w:=by
   have:=of_decide_eq_false ht
   omega
  refine zlm (nx:=nx1) (st:=st1) c2 qag qad rfl ?_
  rintro⟨l,t⟩ st2 nx2 g3 g4
  dsimp only at g4⊢
  have hsl:(0<=(a:Int).toNat/\(a:Int).toNat<=(l.map fun x=>[iD x]).length /\ ∀ el:List D,el∈(l.map fun x=>[iD x])->el.length=1):=⟨Nat.zero_le _,by rw[List.length_map,g4.1];omega,zvq l⟩
  have hsE:(l.map fun x=>[iD x]).take ((a:Int).toNat-0)=(l.take a).map fun x=>[iD x]:=qe2
  conv=>whnf
  repeat' first|((first|refine LookP.mk _ rfl ?_|refine ShlP.mk _ qaa ?_|refine And.intro qcj ?_|refine zak c3 ?_|rw[hsE]|refine HpP.force ?_);conv=>whnf)
  exact fin ⟨⟨k,l.take a,_,0,0⟩,st2,nx2,by omega,gt_ok g4 k2 k3 hw2,rfl,rfl⟩
 ·have c4:PC Pr GG 140 [iD 1] (iD (1:Nat)):=ar140 1
  refine zlm (nx:=nx1) (st:=st1) c2 qag qad rfl ?_
  rintro⟨l,t⟩ st2 nx2 g3 g4
  dsimp only at g4⊢
  have hsl:(0<=((1:Nat):Int).toNat/\((1:Nat):Int).toNat<=(l.map fun x=>[iD x]).length /\ ∀ el:List D,el∈(l.map fun x=>[iD x])->el.length=1):=⟨Nat.zero_le _,by rw[List.length_map,g4.1];omega,zvq l⟩
  have hsE:(l.map fun x=>[iD x]).take (((1:Nat):Int).toNat-0)=(l.take 1).map fun x=>[iD x]:=qe2
  conv=>whnf
  repeat' first|((first|refine LookP.mk _ rfl ?_|refine ShlP.mk _ qaa ?_|refine And.intro qcj ?_|refine zak c4 ?_|rw[hsE]|refine HpP.force ?_);conv=>whnf)
  exact fin ⟨⟨1,l.take 1,_,0,0⟩,st2,nx2,by omega,gt_ok (a:=1) g4 rfl rfl qad,rfl,rfl⟩
end Go.Tz
namespace Go.AL
open Go
variable{P:Program}{G G2:Nat->Option (List D)}{f:FuncId}
theorem hrel_down(hG:∀ g ds,G g=some ds->G2 g=some ds){C:Ctx}{H:AHeap}(h:HRel G2 C H):HRel G C H:=⟨h.blk,h.inj,h.ro,fun g ds e=>h.glob g ds (hG g ds e)⟩
theorem zp1(hG:∀ g ds,G g=some ds->G2 g=some ds){args:List AV}{H:AHeap}{nx:Nat}{K:AV->AHeap->Nat->Prop}(h:ACall P G f args H nx K):ACall P G2 f args H nx K:=by
 intro C vs hH hU hl hr
 refine(h C vs (hrel_down hG hH) hU hl hr).mono ?_
 rintro e w' ⟨x,v,H',n',C',rfl,rfl,hk,hv,h1,hU',hT⟩
 exact⟨x,v,H',n',C',rfl,rfl,hk,hv,⟨h1.blk,h1.inj,h1.ro,fun g ds e=>(hH.glob g ds e).later hT hH⟩,hU',hT⟩
theorem pc_up(hG:∀ g ds,G g=some ds->G2 g=some ds){ds:List D}{d:D}(h:PC P G f ds d):PC P G2 f ds d:=⟨h.fn,zp1 hG h.call⟩
end Go.AL
namespace Go.Tz
open Go Go.AL Go.Proofs
def GK:Nat->Option (List D):=fun g=>match Nat.beq g 0 with
 | true=>some [cfD]
 | false=>GG g
theorem gk_up:∀ g ds,GG g=some ds->GK g=some ds:=fun g ds h=>by
 match g,h with
 | g+1,h=>exact h
theorem up{f:FuncId}{ds:List D}{d:D}(h:PC Pr GG f ds d):PC Pr GK f ds d:=pc_up gk_up h
structure SK {ι:Type} (f:FuncId) (args:List D) (bs:List Int) (u:Bool) (cnt n0:Nat) (dof:ι->D) (Q:ι->Prop):Prop where
 fn:IsFn Pr f
 call:∀(nx:Nat) (st:Int),nx+cnt<=4611686018427387904->ACall Pr GK f (.ptr 0 3 0 0::args.map .d) [(0,some (storeB bs u nx st))] n0 fun v H n=>∃(i:ι) (st':Int) (nx':Nat),nx'<=nx+cnt/\Q i/\v = .d (dof i)/\H=[(0,some (storeB bs u nx' st'))]/\n=n0
variable{ι:Type}{f:FuncId}{args:List D}{bs:List Int}{u:Bool}{cnt n0:Nat}{dof:ι->D}{Q:ι->Prop}
theorem SC.k(h:SC f args bs u cnt n0 dof Q):SK f args bs u cnt n0 dof Q:=⟨h.fn,fun nx st hb=>zp1 gk_up (h.call nx st hb)⟩
theorem sk_mk(hf:IsFn Pr f)(hn:0<n0)
  (h:∀(nx:Nat) (st:Int),nx+cnt<=4611686018427387904->ACall Pr GK f (.ptr 0 3 0 0::args.map .d) [(0,some (storeB bs u nx st))] n0 fun v H _=>∃(i:ι) (st':Int) (nx':Nat),nx'<=nx+cnt/\Q i/\v = .d (dof i)/\H.get 0=some (storeB bs u nx' st')):SK f args bs u cnt n0 dof Q:=by
 refine⟨hf,fun nx st hb=>zaz (h nx st hb) ?_⟩
 rintro v H n ⟨i,st',nx',h1,h2,rfl,h4⟩
 refine⟨.d (dof i),[(0,some (storeB bs u nx' st'))],n0,?_,i,st',nx',h1,h2,rfl,rfl,rfl⟩
 exact zac (Nat.le_refl _) ⟨⟨rfl,rfl⟩,trivial⟩ ⟨⟨hn,_,rfl,h4,zab rfl⟩,trivial⟩ trivial
theorem sk_use{nx0 nx:Nat}{st:Int}{H:AHeap}{k:AV->AHeap->Nat->Prop}(h:SK f args bs u cnt n0 dof Q)(hn:nx0<=n0)(hb:nx+cnt<=4611686018427387904)
  (hg:H.get 0=some (storeB bs u nx st)) (hk:∀(i:ι) (st':Int) (nx':Nat),nx'<=nx+cnt->Q i->k (.d (dof i)) ((0,some (storeB bs u nx' st'))::H) n0):CallVC Pr GK f (.ptr 0 3 0 0::args.map .d) H nx0 k:=by
 refine⟨h.fn,zbj (h.call nx st hb) hn (fun m b hm=>?_) ?_⟩
 ·rw[zaj]at hm
  by_cases e:m=0
  ·exact qdb
  ·exact qdk
 ·exact qgm
theorem zn8{w:Nat}(hw:1<=w/\w<=12):SOk w (zeroS w):=by
 have key:((List.range 13).all fun w=>Nat.beq w 0||decide (chkS w (zeroS w)=0))=true:=qah
 have h:=List.all_eq_true.1 key w (List.mem_range.2 qad)
 simp only[Bool.or_eq_true,decide_eq_true_eq]at h
 rcases h with h|h
 ·have:=Nat.eq_of_beq_eq_true h;omega
 ·obtain⟨W,e,hs⟩:=chk_ok h
  obtain rfl:w=W:=Int.ofNat.inj e
  exact hs
end Go.Tz
namespace Go.Tz
open Go Go.AL Go.Proofs
variable{G:Nat->Option (List D)}
abbrev bytesD(bs:List Int)(t:Bool):D:=.sl (bs.map fun b=>[.int .u8 b]) t
theorem zrt(l:List Int):∀ el:List D,el∈(l.map fun x=>[D.int IntKind.u8 x])->el.length=1:=fun el h=>by
 obtain⟨x,_,rfl⟩:=List.mem_map.1 h;rfl
theorem chk138:chkFn Tryz.f138=true:=qah
theorem bytes_sc(l:List Int):(((l.map fun k=>[D.int IntKind.u8 k]).map (·.map AV.d)).all fun el=>el.all AV.scalar)=true:=by
 simp[AV.scalar,D.scalar]
theorem clone138(es:List (List D))(tg:Bool)(hes:∀ el,el∈es->el.length=1)(hsc:((es.map (·.map AV.d)).all fun el=>el.all AV.scalar)=true)(hbig:es.length<=1000000) :
  ACall Pr G 138 [.d (.sl es tg)] [] 0 fun v N k=>(v = .d (.sl [] true)/\es=[])\/(v = .sl 1 1 0 (0+es.length) (0+es.length) false/\N.get 1=some (.arr 1 (es.map (·.map .d)))/\k=2):=by
 refine za4 pok Tryz.func138 chk138 ?_
 conv=>whnf
 repeat' first|((first|refine ShlP.mk _ qaa ?_|refine And.intro qby ?_|rw[hsc]|refine HpP.force ?_);conv=>whnf)|(intro t ht;cases t<;>conv=>whnf)
 ·exact qg9
 ·exact qgt
theorem cloneB(l:List Int)(t:Bool)(hn:l.length<=1000000):PC Pr G 138 [bytesD l t] (bytesD l false):=by
 refine znq (za3 Tryz.func138 chk138) (zbc (clone138 _ t (zrt l) (bytes_sc l) qd8) ?_)
 rintro v N k (⟨rfl,he⟩|⟨rfl,hg,_⟩)
 ·exact⟨_,.d _,by show DW _ (.sl _ false);rw[he];exact dw_sl [] true⟩
 ·have:=zea (lo:=0) (len:=0+(l.map fun k=>[D.int IntKind.u8 k]).length) (room:=0+(l.map fun k=>[D.int IntKind.u8 k]).length) (t:=false) hg qad
  refine⟨_,this,?_⟩
  simp only[List.drop_zero,Nat.zero_add,List.take_length,Bool.false_and]
  exact DW.rfl _
theorem chk62:chkFn Tryz.f62=true:=qah
theorem of62(bs:List Int)(t:Bool):ACall Pr G 62 [.d (bytesD bs t)] [] 0 fun v H n=>∃(bs':List Int) (u:Bool),bs'.length<=300/\v = .ptr 0 3 0 0/\H=[(0,some (storeB bs' u 0 2463534242))]/\n=1:=by
 have hM:∃ m:Nat,m<=bs.length/\m<=300/\(if(300:Int)<(((bs.map fun b=>[D.int IntKind.u8 b]).length:Nat):Int) then(300:Int) else(((bs.map fun b=>[D.int IntKind.u8 b]).length:Nat):Int)).toNat=m:=by
  rw[List.length_map]
  by_cases h:(300:Int)<(bs.length:Int)
  ·exact⟨300,by omega,Nat.le_refl _,by rw[if_pos h];rfl⟩
  ·exact⟨bs.length,Nat.le_refl _,by omega,by rw[if_neg h];rfl⟩
 obtain⟨m,m1,m2,m3⟩:=hM
 have hsl:(0<=m/\m<=(bs.map fun b=>[D.int IntKind.u8 b]).length /\ ∀ el:List D,el∈(bs.map fun b=>[D.int IntKind.u8 b])->el.length=1):=⟨Nat.zero_le _,by rw[List.length_map];exact m1,zrt bs⟩
 have hsE:((bs.map fun b=>[D.int IntKind.u8 b]).drop 0).take (m-0)=(bs.take m).map fun b=>[D.int IntKind.u8 b]:=by rw[Nat.sub_zero,List.drop_zero,List.map_take]
 have hl:(bs.take m).length<=300:=qbu
 have key:∀ tt,PC Pr G 138 [bytesD (bs.take m) tt] (bytesD (bs.take m) false):=fun tt=>cloneB _ tt qad
 refine zaz (K:=fun v H _=>v = .ptr 0 3 0 0/\H.get 0=some (storeB (bs.take m) false 0 2463534242)) (za4 pok Tryz.func62 chk62 ?_) ?_
 ·conv=>whnf
  repeat' first|((first|refine And.intro qcj ?_|refine zak (key _) ?_|rw[m3]|rw[hsE]);conv=>whnf)
  exact fin ⟨rfl,rfl⟩
 ·rintro v H n ⟨rfl,h4⟩
  refine⟨.ptr 0 3 0 0,[(0,some (storeB (bs.take m) false 0 2463534242))],1,?_,bs.take m,false,hl,rfl,rfl,rfl⟩
  exact zac (Nat.zero_le _) ⟨⟨rfl,rfl⟩,trivial⟩ ⟨⟨ltB rfl,_,rfl,h4,zab rfl⟩,trivial⟩ trivial
end Go.Tz
namespace Go.Tz
open Go Go.AL Go.Proofs
abbrev q4(w X Z Q:Nat):Blk:=.arr 4 [[.d (iD w),.d (iD X),.d (iD Z),.d (iD Q)]]
variable{bs:List Int}{u:Bool}{w nx X Z Q nx':Nat}{st':Int}
end Go.Tz
namespace Go.Tz
open Go Go.AL Go.Proofs
theorem znc{C C':Ctx}{nm nm':Nat}{bs:List Int}{u:Bool}{nx st:Int}(hw:C'.w=C.w)(hro:∀ k,C'.RO k ↔ C.RO k)(hβ:C'.β nm'=C.β nm)(h:BRel C nm (storeB bs u nx st)):BRel C' nm' (storeB bs u nx st):=by
 rcases h with⟨_,q⟩|⟨k,cs,ty,g1,g2,g3,g4,g5,g6⟩
 ·cases q
 ·refine .inr ⟨k,cs,ty,hβ.trans g1,by rw[hw];exact g2,fun q=>g3 ((hro k).1 q),g4,g5,fun i j el v a1 a2=>?_⟩
  obtain⟨x,x1,x2⟩:=g6 i j el v a1 a2
  refine⟨x,x1,?_⟩
  have hd:∃ d,v = .d d:=by
   match i,j,a1,a2 with
   | 0,0,a1,a2=>simp at a1;subst a1;simp at a2;exact⟨_,a2.symm⟩
   | 0,1,a1,a2=>simp at a1;subst a1;simp at a2;exact⟨_,a2.symm⟩
   | 0,2,a1,a2=>simp at a1;subst a1;simp at a2;exact⟨_,a2.symm⟩
   | 0,j+3,a1,a2=>simp at a1;subst a1;simp at a2
   | i+1,_,a1,_=>simp at a1
  obtain⟨d,rfl⟩:=hd
  have:=zbi x2
  refine .d _ _ ?_
  have e:C'.RO=C.RO:=funext fun k=>propext (hro k)
  rw[hw,e];exact this
variable{ι:Type}{f:FuncId}{args:List D}{bs:List Int}{u:Bool}{cnt n0:Nat}{dof:ι->D}{Q:ι->Prop}
theorem acall_at(h:SK f args bs u cnt n0 dof Q)(hn:0<n0){sn nx:Nat}{st:Int}(hb:nx+cnt<=4611686018427387904)(n1:Nat) :
  ACall Pr GK f (.ptr sn 3 0 0::args.map .d) [(sn,some (storeB bs u nx st))] n1 fun v H n=>∃(i:ι) (st':Int) (nx':Nat),nx'<=nx+cnt/\Q i/\v = .d (dof i)/\H=[(sn,some (storeB bs u nx' st'))]/\n=n1:=by
 intro C vs hH hU hl hr
 obtain⟨us,bk⟩:=hH.blk sn _ (zaf _ _ _)
 have one:∀{m nm:Nat} {b b':Blk},AHeap.get [(m,some b)] nm=some b'->nm=m/\b'=b:=fun{m nm b b'} g=>by
  by_cases e:nm=m
  ·subst e
   rw[zaf]at g
   exact⟨rfl,(Option.some.inj g).symm⟩
  ·rw[zad _ _ e]at g;cases g
 have hH0:HRel GK ⟨fun m=>m=0,fun m=>if m=0 then C.β sn else none,C.RO,C.w⟩ [(0,some (storeB bs u nx st))]:=by
  refine⟨fun nm b g=>?_,fun nm nm' b b' k g1 g2 _ _=>?_,hH.ro,hH.glob⟩
  ·obtain⟨rfl,rfl⟩:=one g
   exact⟨rfl,znc (C:=C) (nm:=sn) rfl (fun _=>Iff.rfl) rfl bk⟩
  ·rw[(one g1).1,(one g2).1]
 refine(h.call nx st hb _ vs hH0 (fun m hm=>by rw[show m=0 from hm];exact hn) hl (fun i v hi=>?_)).mono ?_
 ·match i,hi with
  | 0,hi =>
   cases hi
   obtain⟨k,k1,k2,k3⟩:=zd2 (hr 0 (.ptr sn 3 0 0) rfl)
   rw[k3]
   exact .ptr _ _ _ _ k rfl k2
  | i+1,hi =>
   have:=hr (i+1) v hi
   simp only[List.getElem?_cons_succ,List.getElem?_map,Option.map_eq_some_iff]at hi
   obtain⟨d,_,rfl⟩:=hi
   have h2:DRel C.w C.RO d (vs.getD (i+1) undef):=zbi this
   exact .d _ _ h2
 ·rintro e w' ⟨x,v,H1,n,C0,rfl,rfl,⟨i,st',nx',h1,h2,rfl,rfl,rfl⟩,hv,hHR,hU',hT⟩
  obtain⟨us0,bk0⟩:=hHR.blk 0 _ (zaf _ _ _)
  obtain⟨_,hβ⟩:=hT.names 0 rfl
  have hβ:C0.β 0=C.β sn:=hβ
  have hd:DRel C0.w C0.RO (dof i) x:=zbi hv
  have hvd:VRel ⟨C.U,C.β,C0.RO,C0.w⟩ (.d (dof i)) x:=.d _ _ hd
  refine⟨x,.d (dof i),[(sn,some (storeB bs u nx' st'))],n1,⟨C.U,C.β,C0.RO,C0.w⟩,rfl,rfl,⟨i,st',nx',h1,h2,rfl,rfl,rfl⟩,hvd,⟨fun nm b g=>?_,fun nm nm' b b' k g1 g2 _ _=>?_,hHR.ro,hHR.glob⟩,hU,?_⟩
  ·obtain⟨rfl,rfl⟩:=one g
   exact⟨us,znc (C:=C0) (nm:=0) rfl (fun _=>Iff.rfl) hβ.symm bk0⟩
  ·rw[(one g1).1,(one g2).1]
  ·exact{
    os:=hT.os,tape:=hT.tape,output:=hT.output,size:=hT.size,shape:=hT.shape,
    frame:=fun k hk hn=>hT.frame k hk fun nm b hb=>by
     obtain⟨rfl,rfl⟩:=one hb
     show(if 0=0 then C.β sn else none)≠some k
     rw[if_pos rfl]
     exact hn sn _ (zaf _ _ _),
    names:=fun nm h=>⟨h,rfl⟩,ros:=hT.ros,
    img:=fun nm b k q1 q2 q3=>by
     obtain⟨rfl,rfl⟩:=one q1
     exact⟨_,_,zaf _ _ _,q2⟩,
    rob:=fun k q1 q2=>by
     rcases hT.rob k q1 q2 with q|⟨nm0,b0,c1,c2⟩
     ·exact .inl q
     ·obtain⟨rfl,rfl⟩:=one c1
      have c2:(if 0=0 then C.β sn else none)=some k:=c2
      rw[if_pos rfl]at c2
      exact .inr ⟨sn,_,zaf _ _ _,c2⟩ }
theorem zcz{sn nx0 nx:Nat}{st:Int}{H:AHeap}{k:AV->AHeap->Nat->Prop}(h:SK f args bs u cnt n0 dof Q)(hn:0<n0)(hb:nx+cnt<=4611686018427387904)
  (hg:H.get sn=some (storeB bs u nx st)) (hk:∀(i:ι) (st':Int) (nx':Nat),nx'<=nx+cnt->Q i->k (.d (dof i)) ((sn,some (storeB bs u nx' st'))::H) nx0):CallVC Pr GK f (.ptr sn 3 0 0::args.map .d) H nx0 k:=by
 refine⟨h.fn,zbj (acall_at (st:=st) (sn:=sn) h hn hb nx0) (Nat.le_refl _) (fun m b hm=>?_) ?_⟩
 ·rw[zaj]at hm
  by_cases e:m=sn
  ·exact qdb
  ·exact qdk
 ·rintro v H1 n ⟨d,st',nx',h1,h2,rfl,rfl,rfl⟩
  refine⟨_,fun m b hm=>?_,hk d st' nx' h1 h2⟩
  rw[zaj]at hm
  by_cases e:m=sn
  ·exact qb7
  ·rw[if_neg e]at hm
   right
   exact⟨by rw[zaj,if_neg e];rfl,hm⟩
end Go.Tz
namespace Go.Ma
open Classical
end Go.Ma
namespace Go.Tz
open Go Go.AL Go.Proofs Go.Ma
theorem nf_z(w n o:Nat):nf (zP w n o)=((2*o)%4,4096*2^n):=by
 unfold zP
 rw[zcq,Nat.zero_and,zkq,Nat.add_zero,Nat.zero_add]
variable{w n o:Nat}{l:List Ps}
end Go.Tz
namespace Go.Tz
open Go Go.AL Go.Proofs Go.Ma
theorem q0:isub IntKind.i64 (imul IntKind.i64 2 0) 1 = -1:=qah
theorem q1:isub IntKind.i64 (imul IntKind.i64 2 1) 1=1:=qah
end Go.Tz
namespace Go.Tz
open Go Go.AL Go.Proofs Go.Ma
theorem of_useN{bs:List Int}{t:Bool}{H:AHeap}{nx:Nat}{k:AV->AHeap->Nat->Prop}(hk:∀(bs':List Int) (u:Bool),bs'.length<=300->k (.ptr nx 3 0 0) ((nx,some (storeB bs' u ((0:Nat):Int) 2463534242))::H) (nx+1)):CallVC Pr GK 62 [.d (bytesD bs t)] H nx k :=
 ⟨za3 Tryz.func62 chk62,zcf (ds:=[bytesD bs t]) (of62 bs t) fun v H' n ⟨bs',u,h1,h2,h3,h4⟩=>by
  subst h2 h3 h4
  have:=hk bs' u h1
  show k (.ptr (0+nx) 3 0 0) ((0+nx,some (Blk.ren _ (storeB bs' u 0 2463534242)))::H) (nx+1)
  rw[Nat.zero_add]
  exact this⟩
end Go.Tz
namespace Go.Ma
variable{k:Nat}{f:Nat->Nat}
def msk(M v:Nat):Nat:=v &&& M
variable{M M' w:Nat}
def cw(M:Nat):Nat->Nat
 | 0=>0
 | w+1=>cw M w+(M.testBit w).toNat
variable{L:List Nat}
def inn(w:Nat)(L:List Nat)(M:Nat):Nat:=cn 24 fun u=>spB ((U w).map (msk M)) u&&perpB L u
end Go.Ma
namespace Go.Tz
open Go Go.AL Go.Proofs Go.Ma
structure ST (tv:List (Nat×Nat×AV)) (ks:List (Nat×AV)) (Z:(Nat->Bool)->St->Prop) (L:Nat->Bool) (s:St):Prop where
 kp:∀ p,p∈ks->lk s.env p.1=p.2
 tv:∀ p,p∈tv->L p.1=true->lk s.env p.2.1=p.2.2
 z:Z L s
variable{tv:List (Nat×Nat×AV)}{ks:List (Nat×AV)}{Z:(Nat->Bool)->St->Prop}{L:Nat->Bool}{s:St}{c i d:Nat}{v:AV}{H:AHeap}{n:Nat}
theorem zj3(h:ST tv ks Z L s)(hks:∀ p,p∈ks->p.1<c)(hd:c<=d)(htv:AllP (fun p:Nat×Nat×AV=>(p.1=i/\p.2=(d,v))\/(p.1≠i/\p.2.1≠d)) tv)
  (hz:Z (fun j=>if j=i then true else L j) (({ env:=s.env,heap:=H,nx:=n }:St).put (some d) v)):ST tv ks Z (fun j=>if j=i then true else L j) (({ env:=s.env,heap:=H,nx:=n }:St).put (some d) v):=by
 refine⟨fun p hp=>?_,fun p hp hl=>?_,hz⟩
 ·have:=hks p hp
  exact(zan _ _ qad).trans (h.kp p hp)
 ·rcases AllP.mem htv p hp with⟨_,e⟩|⟨e1,e2⟩
  ·rw[e];exact zar _ _ _
  ·simp only[if_neg e1]at hl
   exact(zan _ _ e2).trans (h.tv p hp hl)
theorem clone24n{G:Nat->Option (List D)}(es:List (List D))(tg:Bool)(hes:∀ el,el∈es->el.length=1)(hsc:((es.map (·.map AV.d)).all fun el=>el.all AV.scalar)=true)(hbig:es.length<=1000000) :
  ACall Pr G 24 [.d (.sl es tg)] [] 0 fun v N k=>(v = .d (.sl [] true)/\es=[]/\N=[]/\k=0)\/(v = .sl 0 1 0 es.length es.length false/\N=[(0,some (dblk 1 es))]/\k=1):=by
 refine zaz (clone24 es tg hes hsc hbig) ?_
 rintro v N k (⟨rfl,he⟩|⟨rfl,hg,_⟩)
 ·refine⟨.d (.sl [] true),[],0,?_,.inl ⟨rfl,he,rfl,rfl⟩⟩
  exact zac (Nat.le_refl _) ⟨⟨rfl,rfl⟩,trivial⟩ trivial trivial
 ·have hg:N.get 1=some (dblk 1 es):=hg
  rw[Nat.zero_add]
  refine⟨.sl 0 1 0 es.length es.length false,[(0,some (dblk 1 es))],1,?_,.inr ⟨rfl,rfl,rfl⟩⟩
  first|refine zav [(0,1)] ?_ ?_ ?_ trivial|refine zap [(0,1)] rfl rfl ?_ ?_ ?_ trivial
  ·exact qae
  ·exact qaz
  ·exact qaf
theorem zso{bb:Nat}{ms:List Nat}{e:List (Nat×AV)}{H:AHeap}{n t nm sz N:Nat}{es:List (List D)}{tg:Bool}{G:Nat->Option (List D)}(ht:lk e t = .sl nm sz 0 N N tg)(hg:H.get nm=some (dblk sz es))(hN:N=es.length) :
  Sub G bb ms ⟨e,H,n⟩ ⟨(t,.d (.sl es tg))::e,dels [nm] H,n⟩:=by
 intro k C ac hR
 obtain⟨C',w',u',b',g,tt,r,q⟩:=zdv [nm] hR.heap
 have hHL:HRel G C [(nm,some (dblk sz es))]:=zdg hR.heap fun m bl h=>by
  by_cases em:m=nm
  ·subst em;rw[zaf]at h;rw[hg,<- h]
  ·exact qfo
 have hAs':AsD [(nm,some (dblk sz es))] (.sl nm sz 0 N N tg) (.sl es tg):=zda (zaf nm _ []) hN
 have hcell:∀ x,VRel C (.sl nm sz 0 N N tg) x->DRel C'.w C'.RO (.sl es tg) x:=fun x hx=>by
  have:=zfw hHL (RO:=C'.RO) r (fun m bl j h1 h2=>by
   by_cases em:m=nm
   ·subst em;exact q m _ j qc3 hg h2
   ·rw[zad _ _ em]at h1;cases h1) hAs' x hx
  rw[w'];exact this
 refine⟨C',w',⟨g,⟨hR.env.size,fun m=>?_⟩,fun m hm=>?_,fun m hm=>?_,?_⟩,fun X hX=>tt.weaken fun m hm=>(hX m hm).1⟩
 ·by_cases hm:m=t
  ·subst hm
   show VRel C' (lk ((m,_)::e) m) _
   rw[zar]
   have:=hR.env.env m
   have this:VRel C (lk e m) (ac.tmps.getD m undef):=this
   rw[ht]at this
   exact .d _ _ (hcell _ this)
  ·show VRel C' (lk ((t,_)::e) m) _
   rw[zan _ _ hm]
   exact(hR.env.env m).later tt hR.heap
 ·rw[u']at hm;exact hR.names m hm
 ·rw[u'];exact hR.marks m hm
 ·rw[hR.defers];exact(zbt tt hR.marks).symm
end Go.Tz
namespace Go.Tz
open Go Go.AL Go.Proofs Go.Ma
variable{w lst m:Nat}{L:List E}{val:Nat->Option Nat}
theorem amp_lst(ha:Amp L w lst m val)(hL:Ma.Good L):val lst=some 0:=by
 cases e:val lst with
 | none=>exact absurd (show lst^^^xv e1.2=lst from Nat.xor_zero _) (ha.no lst ha.lt e e1 .one)
 | some p =>
  obtain⟨g,g1,g2,g3⟩:=ha.has lst p ha.lt e
  have hx:xv g.2=0:=by
   have:=congrArg (fun n=>lst^^^n) g2
   simpa only[<- Nat.xor_assoc,Nat.xor_self,Nat.zero_xor] using this
  rw[<- g3,ha.sup g g1 hx]
theorem zx9(ha:Amp L w lst m val)(hL:Ma.Good L){k:Nat}(h:k<lst):val k=none:=by
 have hlt:=ha.lt
 cases e:val k with
 | none=>rfl
 | some p =>
  obtain⟨g,g1,g2,_⟩:=ha.has k p qad e
  have:=ha.min k qad (by rw[<- g2];exact sup_move hL ha.sup g1)
  omega
theorem zk3:∀(k:Nat) (f:Nat->Bool),((List.range (2^k)).filter f).length=cn k f
 | 0,f=>by
  show(List.filter f [0]).length=(f 0).toNat
  cases e:f 0<;>simp[e]
 | k+1,f=>by
  have hp:2^(k+1)=2^k+2^k:=qb1
  rw[hp,List.range_add,List.filter_append,List.length_append,zk3 k f]
  show _=cn k f+cn k (fun v=>f (v^^^2^k))
  congr 1
  rw[<- zk3 k,List.filter_map,List.length_map]
  congr 1
  refine List.filter_congr fun v hv=>?_
  have hv:=List.mem_range.1 hv
  show f (2^k+v)=f (v^^^2^k)
  congr 1
  refine Nat.eq_of_testBit_eq fun j=>?_
  have:=Nat.testBit_two_pow_mul_add 1 hv j
  rw[Nat.mul_one]at this
  rw[this,Nat.testBit_xor,Nat.testBit_two_pow]
  by_cases hj:j<k
  ·rw[if_pos hj,decide_eq_false qad,Bool.xor_false]
  ·rw[if_neg hj,Nat.testBit_lt_two_pow (Nat.lt_of_lt_of_le hv (Nat.pow_le_pow_right qag qad)),Bool.false_xor]
   by_cases e:k=j
   ·subst e;simp
   ·rw[decide_eq_false e]
    exact Nat.testBit_lt_two_pow (Nat.lt_of_lt_of_le (by decide:1<2^1) (Nat.pow_le_pow_right qag qad))
theorem zr1(ha:Amp L w lst m val)(hx:∀ g,Gen L g->xv g.2<2^w):((List.range (2^w)).filter fun k=>(val k).isSome).length=2^m:=by
 obtain⟨A,a1,a2,a3,a4⟩:=ha.rank
 have hlt:∀ a,a∈A->a<2^w:=fun a h=>by
  obtain⟨g,h1,h2⟩:=(a4 a).1 (zb3 _ _ h)
  rw[<- h2];exact hx g h1
 have h1:cn w (fun k=>(val k).isSome)=cn w (fun k=>spB A (k^^^lst)):=zev _ _ _ fun k hk=>by
  rw[Bool.eq_iff_iff,a4]
  constructor
  ·intro h
   obtain⟨p,hp⟩:=Option.isSome_iff_exists.1 h
   obtain⟨g,g1,g2,_⟩:=ha.has k p hk hp
   refine⟨g,g1,?_⟩
   rw[<- g2,Nat.xor_comm lst,zau]
  ·rintro⟨g,g1,g2⟩
   cases e:val k with
   | some p=>rfl
   | none=>exact absurd (by rw[g2,Nat.xor_comm k,<- Nat.xor_assoc,Nat.xor_self,Nat.zero_xor]) (ha.no k hk e g g1)
 have a2':rk A=A.length:=a2
 rw[zk3,h1,zmo w lst (spB A) ha.lt,zjs A hlt,a2',a3]
end Go.Tz
