import Derived.Test.YtehjjpbpdfnnfaaGreatDoorM00
import Derived.Test.YtehjjpbpdfnnfaaGreatDoorM03
import Derived.KernelRfl
import Derived.Laws.BitsLemmas
import Derived.Test.YtehjjpbpdfnnfaaGreatDoorProg
namespace Go.AL
open Go
variable{P:Program}{G:Nat->Option (List D)}{T:Tab}{r:Option Nat}{n b:Nat}{ms:List Nat}{st:St}
def chkCodeL(IDs:List Nat)(n:Nat):Code->Bool
 | .region id ops true=>elemN id IDs||chkCode n (.region id ops true)
 | .region id ops false=>chkCode n (.region id ops false)
 | .seq c d=>chkCodeL IDs n c&&chkCodeL IDs n d
 | .cond _ c d=>chkCodeL IDs n c&&chkCodeL IDs n d
 | .block _ c=>chkCodeL IDs n c
 | .loop c=>chkCode n c
 | .scope c=>chkCodeL IDs n c
 | _=>true
noncomputable def xcodeL(P:Program)(IDs:List Nat)(T:Tab)(G:Nat->Option (List D))(n b:Nat)(ms:List Nat)(c:Code):XC omP :=
 @Code.rec (fun _=>XC omP)
  (fun st k=>k .normal st)
  (fun id ops draw=>match draw,elemN id IDs with
   | true,true=>fun st k=>RegVC P G n b ms id ops st k
   | draw,_=>xregion omP T G (cPm P G) (dPm P G) ops draw)
  (fun _ _ ihc ihd st k=>ihc st fun e st'=>nextK e st' (fun st'=>ihd st' k) k)
  (fun c _ _ ihx ihy st k=>xcond omP G c st (ihx st k) (ihy st k))
  (fun id _ ih st k=>ih st fun e st'=>blockK id e st' k)
  (fun c _ st k=>(lPm P G n b ms) c st k)
  (fun _ _ _ _ _ _ _ _=>omP.bad)
  (fun id st k=>k (.exit id) st)
  (fun _ ih st k=>ih st fun e st'=>scopeK e st' k)
  (fun _ st k=>k .normal st)
  (fun _ _ _=>omP.bad)
  (fun st k=>k .ret st)
  (fun _ _ _=>omP.bad) c
theorem zb8(hp:POk P T){IDs:List Nat}:∀(c:Code) (st:St) (k:Exit->St->Prop),chkCodeL IDs n c=true->xcodeL P IDs T G n b ms c st k ->
  AWP r P G n b c st ms fun e st' ms'=>ms'=ms/\k e st'
 | .skip,st,k,_,h=>zi7 ⟨rfl,h⟩
 | .ret,st,k,_,h=>zh3 ⟨rfl,h⟩
 | .exit id,st,k,_,h=>zi9 ⟨rfl,h⟩
 | .seq c d,st,k,hc,h=>by
  simp only[chkCodeL,Bool.and_eq_true]at hc
  refine ze3 (zay (zb8 hp c st _ hc.1 h) ?_)
  rintro e s m ⟨hm,h⟩
  rw[hm]
  cases e with
  | normal=>exact zb8 hp d s k hc.2 h
  | _=>exact⟨rfl,h⟩
 | .cond c x y,st,k,hc,h=>by
  simp only[chkCodeL,Bool.and_eq_true]at hc
  change xcond omP G c st (xcodeL P IDs T G n b ms x st k) (xcodeL P IDs T G n b ms y st k) at h
  unfold xcond at h
  split at h
  ·rename_i hv;exact zdo hv (fun _=>zb8 hp x st k hc.1 h) (fun e=>by cases e)
  ·rename_i hv;exact zdo hv (fun e=>by cases e) (fun _=>zb8 hp y st k hc.2 h)
  ·exact h.elim
 | .block id c,st,k,hc,h=>by
  refine zgn (zay (zb8 hp c st _ hc h) ?_)
  rintro e s m ⟨hm,h⟩
  rw[hm]
  cases e with
  | exit i =>
   simp only[blockQ]
   simp only[blockK]at h
   split at h
   ·exact qbc
   ·exact qbc
  | _=>exact⟨rfl,h⟩
 | .region id ops false,st,k,hc,h=>za0 (hd:=fun p:omP.W=>p) (xPm hp) loopPm (.region id ops false) st k hc h
 | .region id ops true,st,k,hc,h=>by
  cases q:elemN id IDs with
  | true =>
   change (match true,elemN id IDs with
    | true,true=>fun st k=>RegVC P G n b ms id ops st k
    | draw,_=>xregion omP T G (cPm P G) (dPm P G) ops draw:XC omP) st k at h
   rw[q]at h
   obtain⟨h⟩:=(show RegVC P G n b ms id ops st k from h)
   exact zh4 (h r)
  | false =>
   change (match true,elemN id IDs with
    | true,true=>fun st k=>RegVC P G n b ms id ops st k
    | draw,_=>xregion omP T G (cPm P G) (dPm P G) ops draw:XC omP) st k at h
   rw[q]at h
   simp only[chkCodeL,q,Bool.false_or]at hc
   exact za0 (hd:=fun p:omP.W=>p) (xPm hp) loopPm (.region id ops true) st k hc h
 | .loop c,st,k,hc,h=>loopPm c st k hc h
 | .rangeFunc ..,st,k,_,h=>h.elim
 | .scope c,st,k,hc,h=>by
  refine zgl (zay (zb8 hp c st _ hc h) ?_)
  rintro e s m ⟨hm,h⟩
  rw[hm]
  cases e with
  | goto l=>exact h.elim
  | _=>exact⟨rfl,h⟩
 | .label _,st,k,_,h=>zgm ⟨rfl,h⟩
 | .goto _,st,k,_,h=>h.elim
 | .refuse _,st,k,_,h=>h.elim
def chkFnL (IDs : List Nat) (fn : Func) : Bool := !(fn.name == "runtime.NumGoroutine") && match fn.body with
 | some c=>chkCodeL IDs fn.ntmps c
 | none=>false
theorem isFn_ofL{IDs:List Nat}{f:FuncId}{fn:Func}(hf:P.funcs[f]?=some fn)(hc:chkFnL IDs fn=true):IsFn P f:=by
 simp only[chkFnL,Bool.and_eq_true,Bool.not_eq_true']at hc
 refine⟨fn,hf,hc.1,?_⟩
 cases hb:fn.body with
 | none=>rw[hb]at hc;simp at hc
 | some c=>rfl
noncomputable def xfnL(P:Program)(IDs:List Nat)(T:Tab)(G:Nat->Option (List D))(fn:Func)(args:List AV)(H:AHeap)(nx:Nat)(k:AV->AHeap->Nat->Prop):Prop:=match fn.body with
 | some c=>match Nat.ble args.length fn.ntmps with
  | true=>spine (enum 0 args) fun e=>xcodeL P IDs T G fn.ntmps nx [] c ⟨e,H,nx⟩ fun e st=>endK omP T fn.results.toList k e st []
  | false=>False
 | none=>False
theorem zw1(hp:POk P T){IDs:List Nat}{f:FuncId}{fn:Func}{args:List AV}{H:AHeap}{nx:Nat}{k:AV->AHeap->Nat->Prop}(hf:P.funcs[f]?=some fn)(hc:chkFnL IDs fn=true)
  (h:xfnL P IDs T G fn args H nx k):ACall P G f args H nx k:=by
 unfold xfnL at h
 split at h
 ·rename_i c hb
  split at h
  ·rename_i hn
   simp only[chkFnL,hb,Bool.and_eq_true]at hc
   rw[zbo]at h
   refine zd0 hf hb (Nat.le_of_ble_eq_true hn) (zay (zb8 hp c _ _ hc.2 h) ?_)
   rintro e s m ⟨rfl,h⟩
   cases e with
   | normal=>exact⟨.inl rfl,zjq (hd:=fun p:omP.W=>p) zq3 hp.tab h⟩
   | ret=>exact⟨.inr rfl,zjq (hd:=fun p:omP.W=>p) zq3 hp.tab h⟩
   | _=>exact h.elim
  ·exact h.elim
 ·exact h.elim
theorem fn_walkL(hp:POk P T)(IDs:List Nat){f:FuncId}{fn:Func}{args:List AV}{H:AHeap}{nx:Nat}{K:AV->AHeap->Nat->Prop}(hf:P.funcs[f]?=some fn)(hc:chkFnL IDs fn=true)
  (h:xfnL P IDs T G fn args H nx fun v H' n=>Fin (K v H' n)):ACall P G f args H nx K :=
 zbc (zw1 hp hf hc h) fun _ _ _ h=>unfin h
end Go.AL
namespace Go.AL
open Go
variable{P:Program}{G:Nat->Option (List D)}
theorem zjz{f:FuncId}{args:List AV}{H0:AHeap}{n0 nx:Nat}{K0:AV->AHeap->Nat->Prop}(h:ACall P G f args H0 n0 K0)(hn:n0<=nx)(hlow:∀ nm b,H0.get nm=some b->nm<n0/\b.Below n0)(harg:∀(i:Nat) (v:AV),args[i]?=some v->v.bel n0=true)
  (hK:∀(v:AV) (H1:AHeap) (n:Nat),K0 v H1 n->v.bel n0=true /\ ∀ nm b,AHeap.get H1 nm=some b->nm<n0/\b.Below n0):ACall P G f args H0 nx fun v H1 n=>(∃ n',K0 v H1 n')/\n=nx:=by
 intro C vs hH hU hl hr
 let C1:Ctx:={ U:=fun m=>m<n0/\C.U m,β:=C.β,RO:=C.RO,w:=C.w }
 have hH1:HRel G C1 H0:=by
  refine⟨fun nm b hg=>?_,hH.inj,hH.ro,hH.glob⟩
  obtain⟨u1,u2⟩:=hlow nm b hg
  obtain⟨g1,g2⟩:=hH.blk nm b hg
  refine⟨⟨u1,g1⟩,zpu (C:=C) (C':=C1) (ρ:=fun m=>m) (k:=n0) rfl (fun _ h=>h) (fun m h1 h2=>⟨h1,h2⟩) (fun _ _ _=>rfl) rfl u2 (fun j hj hro=>hH.ro_apart hro _ _ hg hj) ?_⟩
  rw[zjv];exact g2
 refine(h C1 vs hH1 (fun m hm=>hm.1) hl (fun i v hi=>zh9 (C:=C) (C':=C1) (ρ:=fun m=>m) (k:=n0) rfl (fun _ h=>h) (fun m h1 h2=>⟨h1,h2⟩) (fun _ _ _=>rfl) (hr i v hi) v (zqq v).symm (harg i v hi))).mono ?_
 rintro e w' ⟨x,v,H1,n,C',rfl,rfl,hk,hv,h1,hU',hT⟩
 obtain⟨hvb,hlow1⟩:=hK v H1 n hk
 let C2:Ctx:={ U:=fun m=>if m<n0 then C'.U m else C.U m,β:=fun m=>if m<n0 then C'.β m else C.β m,RO:=C'.RO,w:=C'.w }
 have eU:∀ m,m<n0->C'.U m->C2.U m:=fun m h1 h2=>by show if m<n0 then _ else _;rw[if_pos h1];exact h2
 have eβ:∀ m,m<n0->C2.β m=C'.β m:=fun m h1=>if_pos h1
 have hT2:Tr C.U C H0 C2 H1:={
  os:=hT.os,tape:=hT.tape,output:=hT.output,size:=hT.size,shape:=hT.shape,frame:=hT.frame,ros:=hT.ros
  names:=fun m hm=>by
   by_cases e:m<n0
   ·obtain⟨a,b⟩:=hT.names m ⟨e,hm⟩
    exact⟨eU m e a,(eβ m e).trans b⟩
   ·exact⟨by show if m<n0 then _ else _;rw[if_neg e];exact hm,if_neg e⟩
  img:=fun nm b k q1 q2 q3=>by
   rw[eβ nm (hlow1 nm b q1).1]at q2
   exact hT.img nm b k q1 q2 q3
  rob:=hT.rob }
 have h2:HRel G C2 H1:=by
  refine⟨fun nm b hg=>?_,fun nm nm' b b' k g1 g2 g3 g4=>?_,h1.ro,h1.glob⟩
  ·obtain⟨u1,u2⟩:=hlow1 nm b hg
   obtain⟨g1,g2⟩:=h1.blk nm b hg
   refine⟨eU nm u1 g1,zpu (C:=C') (C':=C2) (ρ:=fun m=>m) (k:=n0) rfl (fun _ h=>h) (fun m h1 h2=>eU m h1 h2) (fun m h1 _=>eβ m h1) (eβ nm u1) u2 (fun j hj hro=>h1.ro_apart hro _ _ hg hj) ?_⟩
   rw[zjv];exact g2
  ·rw[eβ nm (hlow1 nm b g1).1]at g3
   rw[eβ nm' (hlow1 nm' b' g2).1]at g4
   exact h1.inj nm nm' b b' k g1 g2 g3 g4
 refine⟨x,v,H1,nx,C2,rfl,rfl,⟨⟨n,hk⟩,rfl⟩,zh9 (C:=C') (C':=C2) (ρ:=fun m=>m) (k:=n0) rfl (fun _ h=>h) (fun m h1 h2=>eU m h1 h2) (fun m h1 _=>eβ m h1) hv v (zqq v).symm hvb,h2,fun m hm=>?_,hT2⟩
 have hm:if m<n0 then C'.U m else C.U m:=hm
 by_cases e:m<n0
 ·exact qad
 ·rw[if_neg e]at hm;exact hU m hm
end Go.AL
namespace Go.AL
open Go
variable{P:Program}{G:Nat->Option (List D)}{T:Tab}{r:Option Nat}{n b:Nat}{ms:List Nat}{st:St}
theorem brel_open{C:Ctx}{nm sz:Nat}{el:List AV}(h:BRel C nm (.arr sz [el])):BRel C nm (.arr 1 (el.map fun v=>[v])):=by
 obtain⟨_,h⟩|⟨k,cs,e,h1,h2,h3,h4,h5,h6⟩:=h
 ·exact qed
 ·have hl:=h5 el qc3
  refine .inr ⟨k,cs,e,h1,h2,h3,by simp at h4⊢;omega,?_,?_⟩
  ·intro x hx
   obtain⟨v,_,rfl⟩:=List.mem_map.1 hx
   rfl
  ·intro i j x v hi hj
   rw[List.getElem?_map]at hi
   cases hv:el[i]? with
   | none=>rw[hv]at hi;cases hi
   | some y =>
    rw[hv]at hi
    cases hi
    have:j=0:=by
     cases j with
     | zero=>rfl
     | succ j=>simp at hj
    subst this
    simp at hj
    subst hj
    have:=h6 0 i el _ rfl hv
    simpa using this
theorem brel_shut{C:Ctx}{nm sz:Nat}{el:List AV}(hl:el.length=sz)(h0:el≠[])(h:BRel C nm (.arr 1 (el.map fun v=>[v]))):BRel C nm (.arr sz [el]):=by
 obtain⟨_,h⟩|⟨k,cs,e,h1,h2,h3,h4,h5,h6⟩:=h
 ·exact absurd (List.map_eq_nil_iff.1 h) h0
 ·refine .inr ⟨k,cs,e,h1,h2,h3,by simp at h4⊢;omega,?_,?_⟩
  ·intro x hx
   simp at hx
   rw[hx];exact hl
  ·intro i j x v hi hj
   have:i=0:=by
    cases i with
    | zero=>rfl
    | succ j=>simp at hi
   subst this
   simp at hi
   subst hi
   have:=h6 j 0 [v] v (by rw[List.getElem?_map,hj];rfl) rfl
   simpa using this
theorem zy3{e:List (Nat×AV)}{H H':AHeap}{nx nm:Nat}{B B':Blk}(ho:∀ m,m≠nm->H'.get m=H.get m)(hg:H.get nm=some B)(hg':H'.get nm=some B')(hB:∀ C,BRel C nm B->BRel C nm B'):Sub G b ms ⟨e,H,nx⟩ ⟨e,H',nx⟩:=by
 intro n C a hR
 have back:∀ m x,H'.get m=some x->∃ y,H.get m=some y:=fun m x hm=>by
  by_cases q:m=nm
  ·subst q;exact⟨_,hg⟩
  ·exact⟨x,by rw[<- ho m q];exact hm⟩
 refine⟨C,rfl,⟨⟨fun m x hm=>?_,fun m m' x x' k h1 h2 h3 h4=>?_,hR.heap.ro,hR.heap.glob⟩,⟨hR.env.1,hR.env.2⟩,hR.names,hR.marks,hR.defers⟩,fun X hX=>⟨rfl,rfl,rfl,Nat.le_refl _,fun _ cs _ fz h=>⟨cs,fz,h,rfl⟩,fun _ _ _=>rfl,fun m hm=>⟨(hX m hm).1,rfl⟩,fun _ h=>h,fun m x k h1 h2 _=>?_,fun _ h _=>.inl h⟩⟩
 ·by_cases q:m=nm
  ·subst q
   obtain⟨g1,g2⟩:=hR.heap.blk _ _ hg
   rw[hg']at hm
   exact⟨g1,Option.some.inj hm ▸ hB C g2⟩
  ·exact hR.heap.blk m x (by rw[<- ho m q];exact hm)
 ·obtain⟨y,hy⟩:=back m x h1
  obtain⟨y',hy'⟩:=back m' x' h2
  exact hR.heap.inj m m' y y' k hy hy' h3 h4
 ·obtain⟨y,hy⟩:=back m x h1
  exact⟨m,y,hy,h2⟩
theorem zun{e:List (Nat×AV)}{H H':AHeap}{nx nm sz:Nat}{el:List AV}(hg:H.get nm=some (.arr sz [el]))(ho:∀ m,m≠nm->H'.get m=H.get m)(hg':H'.get nm=some (.arr 1 (el.map fun v=>[v]))):Sub G b ms ⟨e,H,nx⟩ ⟨e,H',nx⟩ :=
 zy3 ho hg hg' fun _ h=>brel_open h
theorem sub_shut{e:List (Nat×AV)}{H H':AHeap}{nx nm sz:Nat}{el:List AV}(hl:el.length=sz)(h0:el≠[])(hg:H.get nm=some (.arr 1 (el.map fun v=>[v])))(ho:∀ m,m≠nm->H'.get m=H.get m)(hg':H'.get nm=some (.arr sz [el])):Sub G b ms ⟨e,H,nx⟩ ⟨e,H',nx⟩ :=
 zy3 ho hg hg' fun _ h=>brel_shut hl h0 h
theorem zhj{t e n B:Nat}{z:D}{x:Operand}{hi':Option Operand}{nm sz h:Nat}{els:List (List AV)}{o:Oper}(ho:o.op = .slice t x none hi' none)(ht:P.underlying t=some (.array n e))(he:EOk P e 1 B z)(hx:st.ev G x = .ptr nm sz 0 0)
  (hg:st.heap.get nm=some (.arr 1 els)) (hn:n<=els.length) (h1:h<=n) (h0:0<n) (hh:bnd G st hi' n h):PureOp G P st o (.sl nm 1 0 h n true):=by
 intro C a hR hop
 have h2:=hx ▸ hop x qao
 generalize hxv:a.eval x=xv at h2
 cases h2 with
 | ptr _ _ _ _ k hU hb =>
  obtain⟨_,hB⟩:=hR.blk _ _ hg
  obtain⟨q,q2⟩|⟨k',cs,e',g1,g2,g3,g4,g5,g6⟩:=hB
  ·rw[q2]at hn;simp at hn;omega
  ·rw[hb]at g1
   cases g1
   have key:(Instr.sliceBounds false n n none (hi'.map a.eval) none).run P C.w = .ok (0,h,n) C.w:=by
    cases hi' with
    | none=>simp only[bnd]at hh;subst hh;simp[Instr.sliceBounds]
    | some y =>
     obtain⟨kk,i,e1,e2,e3⟩:=hh
     have:=vrel_int (e1 ▸ hop y qao)
     have hb:=fun c=>zbr (P:=P) (C:=C) (k:=kk) (code:=c) e2 (show i<=(n:Int) by omega)
     simp[Instr.sliceBounds,this,hb,e3]
   refine⟨.slice (some ⟨k,0*1,none⟩) h n,?_,.sl _ _ _ _ _ _ k n cs e' (0,0) hU hb h1 (Nat.le_refl _) (fun _=>rfl) g2 qad⟩
   simp only[execOp,ho,Instr.sliceAt,hxv]
   simp[run_underlying ht,key,EOk.size he,zb2,Instr.sureAddr]
inductive RegVH (P:Program) (G:Nat->Option (List D)) (n b:Nat) (ms:List Nat) (id:Nat) (ops:Array Oper) (draw:Bool) (st:St) (k:Exit->St->Prop):Prop
 | mk (h:∀ r,AWP r P G n b (.region id ops draw) st ms fun e st' ms'=>ms'=ms /\ ∃ st'',Sub G b ms st' st''/\k e st'')
def chkCodeH(IDs:List Nat)(n:Nat):Code->Bool
 | .region id ops draw=>elemN id IDs||chkCode n (.region id ops draw)
 | .seq c d=>chkCodeH IDs n c&&chkCodeH IDs n d
 | .cond _ c d=>chkCodeH IDs n c&&chkCodeH IDs n d
 | .block _ c=>chkCodeH IDs n c
 | .loop _=>true
 | .scope c=>chkCodeH IDs n c
 | _=>true
noncomputable def xcodeH(P:Program)(IDs:List Nat)(T:Tab)(G:Nat->Option (List D))(n b:Nat)(ms:List Nat)(c:Code):XC omP :=
 @Code.rec (fun _=>XC omP)
  (fun st k=>k .normal st)
  (fun id ops draw=>match elemN id IDs with
   | true=>fun st k=>RegVH P G n b ms id ops draw st k
   | false=>xregion omP T G (cPm P G) (dPm P G) ops draw)
  (fun _ _ ihc ihd st k=>ihc st fun e st'=>nextK e st' (fun st'=>ihd st' k) k)
  (fun c _ _ ihx ihy st k=>xcond omP G c st (ihx st k) (ihy st k))
  (fun id _ ih st k=>ih st fun e st'=>blockK id e st' k)
  (fun c _ st k=>(lPm P G n b ms) c st k)
  (fun _ _ _ _ _ _ _ _=>omP.bad)
  (fun id st k=>k (.exit id) st)
  (fun _ ih st k=>ih st fun e st'=>scopeK e st' k)
  (fun _ st k=>k .normal st)
  (fun _ _ _=>omP.bad)
  (fun st k=>k .ret st)
  (fun _ _ _=>omP.bad) c
theorem zbx(hp:POk P T){IDs:List Nat}:∀(c:Code) (st:St) (k:Exit->St->Prop),chkCodeH IDs n c=true->xcodeH P IDs T G n b ms c st k ->
  AWP r P G n b c st ms fun e st' ms'=>ms'=ms/\k e st'
 | .skip,st,k,_,h=>zi7 ⟨rfl,h⟩
 | .ret,st,k,_,h=>zh3 ⟨rfl,h⟩
 | .exit id,st,k,_,h=>zi9 ⟨rfl,h⟩
 | .seq c d,st,k,hc,h=>by
  simp only[chkCodeH,Bool.and_eq_true]at hc
  refine ze3 (zay (zbx hp c st _ hc.1 h) ?_)
  rintro e s m ⟨hm,h⟩
  rw[hm]
  cases e with
  | normal=>exact zbx hp d s k hc.2 h
  | _=>exact⟨rfl,h⟩
 | .cond c x y,st,k,hc,h=>by
  simp only[chkCodeH,Bool.and_eq_true]at hc
  change xcond omP G c st (xcodeH P IDs T G n b ms x st k) (xcodeH P IDs T G n b ms y st k) at h
  unfold xcond at h
  split at h
  ·rename_i hv;exact zdo hv (fun _=>zbx hp x st k hc.1 h) (fun e=>by cases e)
  ·rename_i hv;exact zdo hv (fun e=>by cases e) (fun _=>zbx hp y st k hc.2 h)
  ·exact h.elim
 | .block id c,st,k,hc,h=>by
  refine zgn (zay (zbx hp c st _ hc h) ?_)
  rintro e s m ⟨hm,h⟩
  rw[hm]
  cases e with
  | exit i =>
   simp only[blockQ]
   simp only[blockK]at h
   split at h
   ·exact qbc
   ·exact qbc
  | _=>exact⟨rfl,h⟩
 | .region id ops draw,st,k,hc,h=>by
  cases q:elemN id IDs with
  | true =>
   change (match elemN id IDs with
    | true=>fun st k=>RegVH P G n b ms id ops draw st k
    | false=>xregion omP T G (cPm P G) (dPm P G) ops draw:XC omP) st k at h
   rw[q]at h
   obtain⟨h⟩:=(show RegVH P G n b ms id ops draw st k from h)
   exact zh4 (h r)
  | false =>
   change (match elemN id IDs with
    | true=>fun st k=>RegVH P G n b ms id ops draw st k
    | false=>xregion omP T G (cPm P G) (dPm P G) ops draw:XC omP) st k at h
   rw[q]at h
   simp only[chkCodeH,q,Bool.false_or]at hc
   exact za0 (hd:=fun p:omP.W=>p) (xPm hp) loopPm (.region id ops draw) st k hc h
 | .loop c,st,k,_,h=>by cases (show LoopVC P G n b ms c st k from h) with|mk h=>exact h r
 | .rangeFunc ..,st,k,_,h=>h.elim
 | .scope c,st,k,hc,h=>by
  refine zgl (zay (zbx hp c st _ hc h) ?_)
  rintro e s m ⟨hm,h⟩
  rw[hm]
  cases e with
  | goto l=>exact h.elim
  | _=>exact⟨rfl,h⟩
 | .label _,st,k,_,h=>zgm ⟨rfl,h⟩
 | .goto _,st,k,_,h=>h.elim
 | .refuse _,st,k,_,h=>h.elim
def chkFnH (IDs : List Nat) (fn : Func) : Bool := !(fn.name == "runtime.NumGoroutine") && match fn.body with
 | some c=>chkCodeH IDs fn.ntmps c
 | none=>false
theorem zio{IDs:List Nat}{f:FuncId}{fn:Func}(hf:P.funcs[f]?=some fn)(hc:chkFnH IDs fn=true):IsFn P f:=by
 simp only[chkFnH,Bool.and_eq_true,Bool.not_eq_true']at hc
 refine⟨fn,hf,hc.1,?_⟩
 cases hb:fn.body with
 | none=>rw[hb]at hc;simp at hc
 | some c=>rfl
noncomputable def xfnH(P:Program)(IDs:List Nat)(T:Tab)(G:Nat->Option (List D))(fn:Func)(args:List AV)(H:AHeap)(nx:Nat)(k:AV->AHeap->Nat->Prop):Prop:=match fn.body with
 | some c=>match Nat.ble args.length fn.ntmps with
  | true=>spine (enum 0 args) fun e=>xcodeH P IDs T G fn.ntmps nx [] c ⟨e,H,nx⟩ fun e st=>endK omP T fn.results.toList k e st []
  | false=>False
 | none=>False
theorem zm7(hp:POk P T){IDs:List Nat}{f:FuncId}{fn:Func}{args:List AV}{H:AHeap}{nx:Nat}{k:AV->AHeap->Nat->Prop}(hf:P.funcs[f]?=some fn)(hc:chkFnH IDs fn=true)
  (h:xfnH P IDs T G fn args H nx k):ACall P G f args H nx k:=by
 unfold xfnH at h
 split at h
 ·rename_i c hb
  split at h
  ·rename_i hn
   simp only[chkFnH,hb,Bool.and_eq_true]at hc
   rw[zbo]at h
   refine zd0 hf hb (Nat.le_of_ble_eq_true hn) (zay (zbx hp c _ _ hc.2 h) ?_)
   rintro e s m ⟨rfl,h⟩
   cases e with
   | normal=>exact⟨.inl rfl,zjq (hd:=fun p:omP.W=>p) zq3 hp.tab h⟩
   | ret=>exact⟨.inr rfl,zjq (hd:=fun p:omP.W=>p) zq3 hp.tab h⟩
   | _=>exact h.elim
  ·exact h.elim
 ·exact h.elim
theorem zk0(hp:POk P T)(IDs:List Nat){f:FuncId}{fn:Func}{args:List AV}{H:AHeap}{nx:Nat}{K:AV->AHeap->Nat->Prop}(hf:P.funcs[f]?=some fn)(hc:chkFnH IDs fn=true)
  (h:xfnH P IDs T G fn args H nx fun v H' n=>Fin (K v H' n)):ACall P G f args H nx K :=
 zbc (zm7 hp hf hc h) fun _ _ _ h=>unfin h
theorem zva(hp:POk P T)(IDs:List Nat){f:FuncId}{fn:Func}{ds:List D}{d:D}(hf:P.funcs[f]?=some fn)(hc:chkFnH IDs fn=true)
  (h:xfnH P IDs T G fn (ds.map .d) [] 0 fun v _ _=>Fin (v = .d d)):PC P G f ds d :=
 pc_of (zio hf hc) (zk0 hp IDs hf hc h)
theorem zve{o:Oper}{st':St}{K:St->Prop}(hs:Sub G b ms st st')(h:OpWP r P G n b o st' ms K):OpWP r P G n b o st ms K:=by
 intro X C a next Q hR hX hn
 obtain⟨C',e1,r1,t1⟩:=hs n C a hR
 have:=h X C' a next Q r1 (xu hX (t1 X hX)) fun st2 C2 a2 hk hr ht=>hn st2 C2 a2 hk hr ((t1 X hX).trans ht)
 rw[e1]at this
 exact this
theorem zto{ops:Array Oper}{o:Oper}{A B A' B':Prop}(h:GuardP ops st o A B)(hA:A->A')(hB:B->B'):GuardP ops st o A' B':=by
 unfold GuardP at h⊢
 split at h
 ·exact hA h
 ·exact h.imp (fun⟨t,h1,h2,h3⟩=>⟨t,h1,fun e=>hA (h2 e),fun e=>hB (h3 e)⟩) (fun⟨h1,h2⟩=>⟨h1,hB h2⟩)
theorem zxp{o:Oper}{K K':St->Prop}(h:OpWP r P G n b o st ms K)(hk:∀ s,K s->K' s):OpWP r P G n b o st ms K' :=
 fun X C a next Q hR hX hn=>h X C a next Q hR hX fun st' C' a' h1=>hn st' C' a' (hk st' h1)
theorem zd4{ops:Array Oper}{K K1:St->Prop}{l2:List Oper}(h2:∀ s,K1 s->AOps r P G n b ops ms K l2 s):∀(l1:List Oper) (st:St),AOps r P G n b ops ms K1 l1 st->AOps r P G n b ops ms K (l1++l2) st
 | [],st,h=>h2 st h
 | o::l1,st,h=>by
  have h:GuardP ops st o (OpWP r P G n b o st ms (AOps r P G n b ops ms K1 l1)) (dstOk o.dst n=true/\AOps r P G n b ops ms K1 l1 (st.put o.dst (.d (.tup [])))):=h
  show GuardP ops st o (OpWP r P G n b o st ms (AOps r P G n b ops ms K (l1++l2))) (dstOk o.dst n=true/\AOps r P G n b ops ms K (l1++l2) (st.put o.dst (.d (.tup []))))
  exact zto h (fun h=>zxp h fun s h=>zd4 h2 l1 s h) (fun⟨h1,h3⟩=>⟨h1,zd4 h2 l1 _ h3⟩)
theorem zri(hp:POk P T)(IDs:List Nat){τ : Type}{c:Code}{k:Exit->St->Prop}(I:Nat->τ -> St)(N:Nat)(Inv:Nat->τ -> Prop)(t0:τ)(h0:Inv 0 t0)(hs:Sub G b ms st (I 0 t0))(hc:chkCodeH IDs n c=true)
  (round:∀(i:Nat) (t:τ) (A:St->Prop),i<N->Inv i t->(∀ st' t',Inv (i+1) t'->Sub G b ms st' (I (i+1) t')->A st')->xcodeH P IDs T G n b ms c (I i t) fun e st'=>nextK e st' A k)
  (last:∀(t:τ) (A:St->Prop),Inv N t->xcodeH P IDs T G n b ms c (I N t) fun e st'=>nextK e st' A k):LoopVC P G n b ms c st k:=by
 refine⟨fun r=>zi8 (Q:=fun e st' ms'=>ms'=ms/\k e st') (σ:={ p:Nat × τ // p.1<=N/\Inv p.1 p.2 }) (fun s=>I s.1.1 s.1.2) (fun s=>N-s.1.1) ⟨(0,t0),Nat.zero_le _,h0⟩ hs ?_⟩
 rintro⟨⟨i,t⟩,hi,hI⟩
 have key:∀(A:St->Prop),(∀ st',A st'->∃ t:{ p:Nat × τ // p.1<=N/\Inv p.1 p.2 },Sub G b ms st' (I t.1.1 t.1.2)/\N-t.1.1<N-i)->(xcodeH P IDs T G n b ms c (I i t) fun e st'=>nextK e st' A k) ->
   AWP r P G n b c (I i t) ms (nextQ (fun s' m'=>m'=ms /\ ∃ t:{ p:Nat × τ // p.1<=N/\Inv p.1 p.2 },Sub G b ms s' (I t.1.1 t.1.2)/\N-t.1.1<N-i) (fun e st' ms'=>ms'=ms/\k e st')):=fun A hA h=>by
  refine zay (zbx hp c (I i t) _ hc h) ?_
  rintro e s' m' ⟨hm,h⟩
  cases e with
  | normal=>exact⟨hm,hA _ h⟩
  | _=>exact⟨hm,h⟩
 have hi:i<=N:=hi
 rcases Nat.lt_or_ge i N with h|h
 ·exact key _ (fun _ h=>h) (round i t (fun st'=>∃ t:{ p:Nat × τ // p.1<=N/\Inv p.1 p.2 },Sub G b ms st' (I t.1.1 t.1.2)/\N-t.1.1<N-i) h hI fun st' t' h1 h2=>⟨⟨(i+1,t'),h,h1⟩,h2,by show N-(i+1)<N-i;omega⟩)
 ·have:i=N:=by omega
  subst this
  exact key (fun _=>False) (fun _ h=>h.elim) (last _ _ hI)
theorem regvh_ops(hp:POk P T){id:Nat}{ops:Array Oper}{k:Exit->St->Prop}(hd:dstsOk n ops.toList=true)
  (h:xops omP T G (cPm P G) ops ops.toList st fun s=>Fin (∃ s',Sub G b ms s s'/\k .normal s')):RegVH P G n b ms id ops false st k:=by
 refine⟨fun r=>zd9 (Q:=fun e s m=>m=ms /\ ∃ s',Sub G b ms s s'/\k e s') ?_⟩
 have:=zd4 (r:=r) (n:=n) (b:=b) (ms:=ms) (G:=G) (P:=P) (ops:=ops) (K:=fun s=>ms=ms /\ ∃ s',Sub G b ms s s'/\k .normal s') (l2:=[]) (fun s h=>⟨rfl,unfin h⟩) _ _ (zbw (M:=omP) (hd:=fun p:omP.W=>p) (xPm (G:=G) hp).ok hp.tab (xPm hp).call _ st (fun o ho=>zcv hd o ho) h)
 rwa [List.append_nil]at this
theorem regvh_to(hp:POk P T)(st'':St){id:Nat}{ops:Array Oper}{k:Exit->St->Prop}(hd:dstsOk n ops.toList=true)
  (h:xops omP T G (cPm P G) ops ops.toList st fun s=>Fin (Sub G b ms s st'')) (hk:k .normal st''):RegVH P G n b ms id ops false st k:=by
 refine⟨fun r=>zd9 (Q:=fun e s m=>m=ms /\ ∃ s',Sub G b ms s s'/\k e s') ?_⟩
 have:=zd4 (r:=r) (n:=n) (b:=b) (ms:=ms) (G:=G) (P:=P) (ops:=ops) (K:=fun s=>ms=ms /\ ∃ s',Sub G b ms s s'/\k .normal s') (l2:=[]) (fun s h=>⟨rfl,_,unfin h,hk⟩) _ _ (zbw (M:=omP) (hd:=fun p:omP.W=>p) (xPm (G:=G) hp).ok hp.tab (xPm hp).call _ st (fun o ho=>zcv hd o ho) h)
 rwa [List.append_nil]at this
inductive OneVC (P:Program) (G:Nat->Option (List D)) (b:Nat) (ms:List Nat) (o:Oper) (st:St) (k:St->Prop):Prop
 | mk (st':St) (v:AV) (hs:Sub G b ms st st') (hp:PureOp G P st' o v) (hk:k (st'.put o.dst v))
theorem zqr(hp:POk P T){id:Nat}{ops:Array Oper}{o:Oper}{l1 l2:List Oper}{k:Exit->St->Prop}(he:ops.toList=l1++o::l2)(hg:o.guard=none)(hnd:∀ c,o.op ≠ .defer c)(hd:dstsOk n (l1++o::l2)=true)
  (h:xops omP T G (cPm P G) ops l1 st fun s=>OneVC P G b ms o s fun s=>xops omP T G (cPm P G) ops l2 s fun s=>Fin (∃ s',Sub G b ms s s'/\k .normal s')):RegVH P G n b ms id ops false st k:=by
 have hds:=fun x (hx:x∈l1++o::l2)=>zcv hd x hx
 refine⟨fun r=>zd9 (Q:=fun e s m=>m=ms /\ ∃ s',Sub G b ms s s'/\k e s') ?_⟩
 rw[he]
 refine zd4 ?_ l1 st (zbw (M:=omP) (hd:=fun p:omP.W=>p) (xPm (G:=G) hp).ok hp.tab (xPm hp).call l1 st (fun o ho=>hds o (by simp[ho])) h)
 rintro s ⟨s',v,hs,hq,hk⟩
 show GuardP _ _ _ _ _
 unfold GuardP
 rw[hg]
 refine zve hs (zal hnd hq (hds o qc3) ?_)
 have:=zd4 (r:=r) (n:=n) (b:=b) (ms:=ms) (G:=G) (P:=P) (ops:=ops) (K:=fun s=>ms=ms /\ ∃ s',Sub G b ms s s'/\k .normal s') (l2:=[]) (fun s h=>⟨rfl,unfin h⟩) l2 _ (zbw (M:=omP) (hd:=fun p:omP.W=>p) (xPm (G:=G) hp).ok hp.tab (xPm hp).call l2 _ (fun o ho=>hds o (by simp[ho])) hk)
 rwa [List.append_nil]at this
inductive StepVC (P:Program) (G:Nat->Option (List D)) (n b:Nat) (ms:List Nat) (o:Oper) (st:St) (k:St->Prop):Prop
 | mk (st' s'':St) (hs:Sub G b ms st st') (hp:∀(r:Option Nat) (K:St->Prop),K s''->OpWP r P G n b o st' ms K) (hk:k s'')
theorem zji(hp:POk P T){id:Nat}{ops:Array Oper}{o:Oper}{l1 l2:List Oper}{k:Exit->St->Prop}(he:ops.toList=l1++o::l2)(hg:o.guard=none)(hd:dstsOk n (l1++o::l2)=true)
  (h:xops omP T G (cPm P G) ops l1 st fun s=>StepVC P G n b ms o s fun s=>xops omP T G (cPm P G) ops l2 s fun s=>Fin (∃ s',Sub G b ms s s'/\k .normal s')):RegVH P G n b ms id ops false st k:=by
 have hds:=fun x (hx:x∈l1++o::l2)=>zcv hd x hx
 refine⟨fun r=>zd9 (Q:=fun e s m=>m=ms /\ ∃ s',Sub G b ms s s'/\k e s') ?_⟩
 rw[he]
 refine zd4 ?_ l1 st (zbw (M:=omP) (hd:=fun p:omP.W=>p) (xPm (G:=G) hp).ok hp.tab (xPm hp).call l1 st (fun o ho=>hds o (by simp[ho])) h)
 rintro s ⟨s',s2,hs,hq,hk⟩
 show GuardP _ _ _ _ _
 unfold GuardP
 rw[hg]
 refine zve hs (hq r _ ?_)
 have:=zd4 (r:=r) (n:=n) (b:=b) (ms:=ms) (G:=G) (P:=P) (ops:=ops) (K:=fun s=>ms=ms /\ ∃ s',Sub G b ms s s'/\k .normal s') (l2:=[]) (fun s h=>⟨rfl,unfin h⟩) l2 _ (zbw (M:=omP) (hd:=fun p:omP.W=>p) (xPm (G:=G) hp).ok hp.tab (xPm hp).call l2 _ (fun o ho=>hds o (by simp[ho])) hk)
 rwa [List.append_nil]at this
theorem loop_useH{σ:Type}(hp:POk P T)(IDs:List Nat){c:Code}{k:Exit->St->Prop}(I:σ->St)(μ:σ->Nat)(s0:σ)(hs:Sub G b ms st (I s0))(hc:chkCodeH IDs n c=true)
  (round:∀(s:σ) (A:St->Prop),(∀ st' (t:σ),Sub G b ms st' (I t)->μ t<μ s->A st')->xcodeH P IDs T G n b ms c (I s) fun e st'=>nextK e st' A k):LoopVC P G n b ms c st k:=by
 refine⟨fun r=>zi8 (Q:=fun e st' ms'=>ms'=ms/\k e st') I μ s0 hs ?_⟩
 intro s
 refine zay (zbx hp c (I s) _ hc (round s (fun st'=>∃ t:σ,Sub G b ms st' (I t)/\μ t<μ s) fun st' t h1 h2=>⟨t,h1,h2⟩)) ?_
 rintro e s' m' ⟨hm,h⟩
 cases e with
 | normal=>exact⟨hm,h⟩
 | _=>exact⟨hm,h⟩
theorem znm(hp:POk P T)(m:Nat){id:Nat}{ops:Array Oper}{e:List (Nat×AV)}{H:AHeap}{nx:Nat}{k:Exit->St->Prop}(hB:headB ops m n=true)(hd:dstsOk n (ops.toList.drop m)=true)
  (h:xhead omP T G (dPm P G) ops H (ops.toList.take m) 0 e [] nx fun env effs nx=>omP.hp (heapOf effs H) fun h'=>xops omP T G (cPm P G) ops (ops.toList.drop m) ⟨env,h',nx⟩ fun s=>Fin (∃ s',Sub G b ms s s'/\k .normal s')):RegVH P G n b ms id ops true ⟨e,H,nx⟩ k:=by
 refine⟨fun r=>zwn (Q:=fun e s m=>m=ms /\ ∃ s',Sub G b ms s s'/\k e s') m hp.mixed hB (zfi (M:=omP) (hd:=fun p:omP.W=>p) (xPm (G:=G) hp).ok hp.tab (xPm hp).dcall (fun env effs nx h=>?_) _ _ _ _ _ h)⟩
 obtain⟨y,hy,h⟩:=(xPm (G:=G) hp).ok.h_hp h
 refine⟨y,hy,?_⟩
 have:=zd4 (r:=r) (n:=n) (b:=b) (ms:=ms) (G:=G) (P:=P) (ops:=ops) (K:=fun s=>ms=ms /\ ∃ s',Sub G b ms s s'/\k .normal s') (l2:=[]) (fun s h=>⟨rfl,unfin h⟩) _ _ (zbw (M:=omP) (hd:=fun p:omP.W=>p) (xPm (G:=G) hp).ok hp.tab (xPm hp).call _ ⟨env,y,nx⟩ (fun o ho=>zcv hd o ho) h)
 rwa [List.append_nil]at this
theorem zx5(hp:POk P T)(IDs:List Nat){f:FuncId}{fn:Func}{args:List AV}{H:AHeap}{nx:Nat}{k:AV->AHeap->Nat->Prop}(hf:P.funcs[f]?=some fn)(hc:chkFnH IDs fn=true)
  (h:xfnH P IDs T G fn args H nx k):CallVC P G f args H nx k:=⟨zio hf hc,zm7 hp hf hc h⟩
theorem acall_blk{f:FuncId}{args:List AV}{H H':AHeap}{nx nm:Nat}{B B':Blk}{K:AV->AHeap->Nat->Prop}(ho:∀ m,m≠nm->H'.get m=H.get m)(hg:H.get nm=some B)(hg':H'.get nm=some B')(hB:∀ C,BRel C nm B->BRel C nm B')
  (h:ACall P G f args H' nx K):ACall P G f args H nx K:=by
 have back:∀ m x,H'.get m=some x->∃ y,H.get m=some y:=fun m x hm=>by
  by_cases q:m=nm
  ·subst q;exact⟨_,hg⟩
  ·exact⟨x,by rw[<- ho m q];exact hm⟩
 have forth:∀ m x,H.get m=some x->∃ y,H'.get m=some y:=fun m x hm=>by
  by_cases q:m=nm
  ·subst q;exact⟨_,hg'⟩
  ·exact⟨x,by rw[ho m q];exact hm⟩
 intro C vs hH hU hl hr
 refine(h C vs ⟨fun m x hm=>?_,fun m m' x x' k h1 h2 h3 h4=>?_,hH.ro,hH.glob⟩ hU hl hr).mono ?_
 ·by_cases q:m=nm
  ·subst q
   obtain⟨g1,g2⟩:=hH.blk _ _ hg
   rw[hg']at hm
   exact⟨g1,Option.some.inj hm ▸ hB C g2⟩
  ·exact hH.blk m x (by rw[<- ho m q];exact hm)
 ·obtain⟨y,hy⟩:=back m x h1
  obtain⟨y',hy'⟩:=back m' x' h2
  exact hH.inj m m' y y' k hy hy' h3 h4
 ·rintro e w' ⟨x,v,H1,n,C',rfl,rfl,hk,hv,h1,hU',hT⟩
  refine⟨x,v,H1,n,C',rfl,rfl,hk,hv,h1,hU',⟨hT.os,hT.tape,hT.output,hT.size,hT.shape,fun k hk hn=>hT.frame k hk fun m x hm=>?_,hT.names,hT.ros,fun m x k q1 q2 q3=>?_,fun k q1 q2=>?_⟩⟩
  ·obtain⟨y,hy⟩:=back m x hm
   exact hn m y hy
  ·obtain⟨nm0,b0,q4,q5⟩:=hT.img m x k q1 q2 q3
   obtain⟨y,hy⟩:=back nm0 b0 q4
   exact⟨nm0,y,hy,q5⟩
  ·rcases hT.rob k q1 q2 with q|⟨nm0,b0,q4,q5⟩
   ·exact .inl q
   ·obtain⟨y,hy⟩:=back nm0 b0 q4
    exact .inr ⟨nm0,y,hy,q5⟩
theorem brel_lp{C:Ctx}{nm:Nat}{E E':List (Nat×AV)}{n:Nat}{ps:Array Tmp}{hc0 body:Code}{s:LoopState}{p:Option Code}{d:Nat}(hE:∀ t,lkA E' t=lkA E t\/lkA E' t = .top)(h:BRel C nm (.lp E n ps hc0 body s p d)):BRel C nm (.lp E' n ps hc0 body s p d):=by
 obtain⟨k,r,h1,h2,h3,h4,h5,h6,h7,h8,h9,h10,h11⟩:=h
 refine⟨k,r,h1,h2,h3,h4,h5,h6,h7,h8,h9,fun t=>?_,h11⟩
 rcases hE t with e|e
 ·rw[e];exact h10 t
 ·rw[e];exact .top _
end Go.AL
namespace Go.Ma
def spB:List Nat->Nat->Bool
 | [],v=>v==0
 | a::l,v=>spB l v||spB l (v^^^a)
theorem zau(a b:Nat):a^^^b^^^b=a:=by rw[Nat.xor_assoc,Nat.xor_self,Nat.xor_zero]
theorem zhq:∀ l:List Nat,spB l 0=true
 | []=>rfl
 | a::l=>by simp[spB,zhq l]
theorem zdb:∀(l:List Nat) (v w:Nat),spB l v=true->spB l w=true->spB l (v^^^w)=true
 | [],v,w,h1,h2=>by
  simp only[spB,beq_iff_eq]at h1 h2⊢
  subst h1 h2;rfl
 | a::l,v,w,h1,h2=>by
  simp only[spB,Bool.or_eq_true]at h1 h2⊢
  rcases h1 with h1|h1<;>rcases h2 with h2|h2
  ·exact .inl (zdb l _ _ h1 h2)
  ·right
   have:=zdb l _ _ h1 h2
   rwa [<- Nat.xor_assoc]at this
  ·right
   have:=zdb l _ _ h1 h2
   rwa [Nat.xor_assoc,Nat.xor_comm a w,<- Nat.xor_assoc]at this
  ·left
   have:=zdb l _ _ h1 h2
   have e:v^^^a^^^(w^^^a)=v^^^w:=by
    rw[Nat.xor_comm w a,<- Nat.xor_assoc,zau]
   rwa [e]at this
theorem zb3:∀(l:List Nat) (a:Nat),a∈l->spB l a=true
 | [],a,h=>by cases h
 | b::l,a,h=>by
  simp only[spB,Bool.or_eq_true]
  rcases List.mem_cons.1 h with e|e
  ·subst e;right;rw[Nat.xor_self];exact zhq l
  ·left;exact zb3 l a e
theorem zlk:∀(l m:List Nat),(∀ a,a∈l->spB m a=true)->∀ v,spB l v=true->spB m v=true
 | [],m,_,v,h=>by
  simp only[spB,beq_iff_eq]at h
  subst h;exact zhq m
 | a::l,m,hm,v,h=>by
  simp only[spB,Bool.or_eq_true]at h
  have ih:=zlk l m (fun a ha=>hm a (List.mem_cons_of_mem _ ha))
  rcases h with h|h
  ·exact ih v h
  ·have h1:=ih _ h
   have h2:=hm a qc3
   have:=zdb m _ _ h1 h2
   rwa [zau]at this
theorem zng{l m:List Nat}(h1:∀ a,a∈l->spB m a=true)(h2:∀ a,a∈m->spB l a=true)(v:Nat):spB l v=spB m v:=by
 have:=zlk l m h1 v
 have:=zlk m l h2 v
 cases e:spB l v<;>cases f:spB m v<;>simp_all
theorem zqj{k:Nat}:∀(l:List Nat),(∀ a,a∈l->a<2^k)->∀ v,spB l v=true->v<2^k
 | [],_,v,h=>by
  simp only[spB,beq_iff_eq]at h
  subst h;exact Nat.two_pow_pos k
 | a::l,hl,v,h=>by
  simp only[spB,Bool.or_eq_true]at h
  have ih:=zqj l (fun a ha=>hl a (List.mem_cons_of_mem _ ha))
  rcases h with h|h
  ·exact ih v h
  ·have:=Nat.xor_lt_two_pow (ih _ h) (hl a qc3)
   rwa [zau]at this
def rk:List Nat->Nat
 | []=>0
 | a::l=>rk l+(if spB l a then 0 else 1)
theorem rk_le:∀ l,rk l<=l.length
 | []=>Nat.le_refl 0
 | a::l=>by
  have:=rk_le l
  simp only[rk,List.length_cons]
  split<;>omega
def cn:Nat->(Nat->Bool)->Nat
 | 0,f=>(f 0).toNat
 | k+1,f=>cn k f+cn k (fun v=>f (v^^^2^k))
theorem zev:∀(k:Nat) (f g:Nat->Bool),(∀ v,v<2^k->f v=g v)->cn k f=cn k g
 | 0,f,g,h=>by simp only[cn];rw[h 0 qc3]
 | k+1,f,g,h=>by
  have hp:2^(k+1)=2^k+2^k:=qb1
  simp only[cn]
  rw[zev k f g fun v hv=>h v qad]
  rw[zev k (fun v=>f (v^^^2^k)) (fun v=>g (v^^^2^k)) fun v hv=>h _ (Nat.xor_lt_two_pow qad qad)]
theorem cn_or:∀(k:Nat) (f g:Nat->Bool),(∀ v,v<2^k->(f v&&g v)=false)->cn k (fun v=>f v||g v)=cn k f+cn k g
 | 0,f,g,h=>by
  have:=h 0 qc3
  simp only[cn]
  cases e:f 0<;>cases e2:g 0<;>simp_all
 | k+1,f,g,h=>by
  have hp:2^(k+1)=2^k+2^k:=qb1
  simp only[cn]
  rw[cn_or k f g fun v hv=>h v qad]
  rw[cn_or k (fun v=>f (v^^^2^k)) (fun v=>g (v^^^2^k)) fun v hv=>h _ (Nat.xor_lt_two_pow qad qad)]
  omega
theorem zjc{k a:Nat}(ha:a<2^(k+1))(hb:2^k<=a):a^^^2^k<2^k:=by
 have hp:2^(k+1)=2^k+2^k:=qb1
 have hlt:a^^^2^k<2^(k+1):=Nat.xor_lt_two_pow ha qad
 have hbit:a.testBit k=true:=by
  rw[Nat.testBit_eq_decide_div_mod_eq]
  have:a / 2^k=1:=by
   have h1:1<=a / 2^k:=(Nat.le_div_iff_mul_le (Nat.two_pow_pos k)).2 qad
   have h2:a / 2^k<2:=(Nat.div_lt_iff_lt_mul (Nat.two_pow_pos k)).2 qad
   omega
  simp[this]
 refine Nat.lt_pow_two_of_testBit _ fun i hi=>?_
 rw[Nat.testBit_xor,Nat.testBit_two_pow]
 rcases Nat.lt_or_ge k i with q|q
 ·have h1:a.testBit i=false:=Nat.testBit_lt_two_pow (Nat.lt_of_lt_of_le ha (Nat.pow_le_pow_right qad q))
  have h2:¬ k=i:=qad
  simp[h1,h2]
 ·have:i=k:=by omega
  subst this;simp[hbit]
theorem zmo:∀(k:Nat) (a:Nat) (f:Nat->Bool),a<2^k->cn k (fun v=>f (v^^^a))=cn k f
 | 0,a,f,h=>by
  have:a=0:=qa6
  subst this;simp[cn]
 | k+1,a,f,h=>by
  simp only[cn]
  rcases Nat.lt_or_ge a (2^k) with q|q
  ·rw[zmo k a f q]
   have:=zmo k a (fun v=>f (v^^^2^k)) q
   have e:(fun v=>f (v^^^2^k^^^a))=fun v=>(fun v=>f (v^^^2^k)) (v^^^a):=by
    funext v
    simp only[Nat.xor_assoc,Nat.xor_comm a]
   rw[e,this]
  ·have ha:=zjc h q
   have h1:=zmo k (a^^^2^k) (fun v=>f (v^^^2^k)) ha
   have h2:=zmo k (a^^^2^k) f ha
   have e1:(fun v=>f (v^^^a))=fun v=>(fun v=>f (v^^^2^k)) (v^^^(a^^^2^k)):=by
    funext v
    simp only[Nat.xor_assoc,Nat.xor_self,Nat.xor_zero]
   have e2:(fun v=>f (v^^^2^k^^^a))=fun v=>f (v^^^(a^^^2^k)):=by
    funext v
    rw[Nat.xor_assoc,Nat.xor_comm (2^k) a]
   rw[e1,e2,h1,h2,Nat.add_comm]
theorem zjs{k:Nat}:∀(l:List Nat),(∀ a,a∈l->a<2^k)->cn k (spB l)=2^rk l
 | [],_=>by
  have:∀ k,cn k (spB [])=1:=by
   intro k
   induction k with
   | zero=>rfl
   | succ k ih =>
    simp only[cn,ih]
    have:cn k (fun v=>spB [] (v^^^2^k))=cn k (fun _=>false):=zev k _ _ fun v hv=>by
     simp only[spB,beq_eq_false_iff_ne,ne_eq]
     intro h
     have:=congrArg (· ^^^ 2^k) h
     simp only[zau,Nat.zero_xor]at this
     omega
    rw[this]
    have z:∀ k,cn k (fun _=>false)=0:=by
     intro k
     induction k with
     | zero=>rfl
     | succ k ih=>simp[cn,ih]
    rw[z]
  simp[this,rk]
 | a::l,hl=>by
  have ih:=zjs (k:=k) l (fun a ha=>hl a (List.mem_cons_of_mem _ ha))
  have ha:=hl a qc3
  simp only[rk]
  cases hs:spB l a with
  | true =>
   simp only[if_true,Nat.add_zero]
   rw[<- ih]
   refine zev k _ _ fun v _=>?_
   simp only[spB]
   cases e:spB l v with
   | true=>rfl
   | false =>
    cases e2:spB l (v^^^a) with
    | false=>rfl
    | true =>
     have:=zdb l _ _ e2 hs
     rw[zau,e]at this
     cases this
  | false =>
   have:cn k (spB (a::l))=cn k (spB l)+cn k (fun v=>spB l (v^^^a)):=by
    rw[<- cn_or k (spB l) (fun v=>spB l (v^^^a)) fun v _=>?_]
    ·rfl
    ·cases e:spB l v with
     | false=>rfl
     | true =>
      cases e2:spB l (v^^^a) with
      | false=>rfl
      | true =>
       have:=zdb l _ _ e e2
       rw[<- Nat.xor_assoc,Nat.xor_self,Nat.zero_xor,hs]at this
       cases this
   rw[this,zmo k a _ ha,ih]
   simp[Nat.pow_succ];omega
theorem zxg{k:Nat}{l m:List Nat}(hl:∀ a,a∈l->a<2^k)(hm:∀ a,a∈m->a<2^k)(h:∀ v,spB l v=spB m v):rk l=rk m:=by
 have h1:=zjs l hl
 have h2:=zjs m hm
 have:spB l=spB m:=funext h
 rw[this,h2]at h1
 exact((Nat.pow_right_inj qag).1 h1).symm
theorem zeo{j:Nat}:∀(l:List Nat),(∀ a,a∈l->a.testBit j=false)->∀ v,spB l v=true->v.testBit j=false
 | [],_,v,h=>by
  simp only[spB,beq_iff_eq]at h
  subst h;exact Nat.zero_testBit j
 | a::l,hl,v,h=>by
  simp only[spB,Bool.or_eq_true]at h
  have ih:=zeo l (fun a ha=>hl a (List.mem_cons_of_mem _ ha))
  rcases h with h|h
  ·exact ih v h
  ·have:=ih _ h
   rw[Nat.testBit_xor,hl a qc3]at this
   simpa using this
def Ind(l:List Nat):Prop:=rk l=l.length
instance (l:List Nat):Decidable (Ind l):=inferInstanceAs (Decidable (rk l=l.length))
theorem ind_cons{a:Nat}{l:List Nat}:Ind (a::l) ↔ Ind l/\spB l a=false:=by
 have:=rk_le l
 unfold Ind
 simp only[rk,List.length_cons]
 cases spB l a<;>simp<;>omega
end Go.Ma
namespace Go.Ma
def parF:Nat->Nat->Bool
 | 0,_=>false
 | k+1,v=>parF k v != v.testBit k
theorem zou(a b:Nat):∀ k,parF k (a^^^b)=(parF k a != parF k b)
 | 0=>rfl
 | k+1=>by
  simp only[parF,zou a b k,Nat.testBit_xor]
  cases parF k a<;>cases parF k b<;>cases a.testBit k<;>cases b.testBit k<;>rfl
theorem zfb:∀ k,parF k 0=false
 | 0=>rfl
 | k+1=>by simp[parF,zfb k]
def bt(a b:Nat):Bool:=parF 12 ((a >>> 12) &&& b)
theorem zbq(a b c:Nat):bt (a^^^b) c=(bt a c != bt b c):=by
 unfold bt
 rw[Nat.shiftRight_xor_distrib,Nat.and_xor_distrib_right,zou]
theorem zbp(a b c:Nat):bt a (b^^^c)=(bt a b != bt a c):=by
 unfold bt
 rw[Nat.and_xor_distrib_left,zou]
theorem zt4(a:Nat):bt 0 a=false:=by
 unfold bt;rw[Nat.zero_shiftRight,Nat.zero_and,zfb]
theorem zru(a:Nat):bt a 0=false:=by
 unfold bt;rw[Nat.and_zero,zfb]
abbrev E:=Nat×Nat
def e1:E:=(0,0)
def emul(a b:E):E:=((a.1+b.1+2*(bt a.2 b.2).toNat)%4,a.2^^^b.2)
def eneg(a:E):E:=((a.1+2)%4,a.2)
def ecom(a b:E):Prop:=bt a.2 b.2=bt b.2 a.2
instance (a b:E):Decidable (ecom a b):=inferInstanceAs (Decidable (_=_))
def eok(a:E):Prop:=a.1<4/\(a.1+(bt a.2 a.2).toNat)%2=0
theorem zc6{a b:E}(h1:a.1=b.1)(h2:a.2=b.2):a=b:=Prod.ext h1 h2
theorem zbh(a b c:E):emul (emul a b) c=emul a (emul b c):=by
 refine zc6 ?_ ?_
 ·simp only[emul,zbq,zbp]
  cases bt a.2 b.2<;>cases bt a.2 c.2<;>cases bt b.2 c.2<;>simp<;>omega
 ·simp[emul,Nat.xor_assoc]
theorem zg4(a:E)(h:a.1<4):emul a e1=a:=by
 refine zc6 ?_ ?_
 ·simp[emul,e1,zru];omega
 ·simp[emul,e1]
theorem zfn(a:E)(h:a.1<4):emul e1 a=a:=by
 refine zc6 ?_ ?_
 ·simp[emul,e1,zt4];omega
 ·simp[emul,e1]
theorem zcc{a b:E}(h:ecom a b):emul a b=emul b a:=by
 refine zc6 ?_ ?_
 ·unfold ecom at h;simp only[emul,h];omega
 ·simp[emul,Nat.xor_comm]
theorem zcm{a:E}(h:eok a):emul a a=e1:=by
 refine zc6 ?_ ?_
 ·have:=h.2
  show(a.1+a.1+2*(bt a.2 a.2).toNat)%4=0
  omega
 ·simp[emul,e1]
theorem emul_lt(a b:E):(emul a b).1<4:=Nat.mod_lt _ qag
theorem emul_ok{a b:E}(ha:eok a)(hb:eok b)(h:ecom a b):eok (emul a b):=by
 refine⟨emul_lt a b,?_⟩
 have h1:=ha.2
 have h2:=hb.2
 unfold ecom at h
 simp only[emul,zbq,zbp,h]
 cases q1:bt a.2 a.2<;>cases q2:bt b.2 b.2<;>cases q3:bt b.2 a.2<;>simp_all<;>omega
theorem zba{a b:E}(h:ecom a b):ecom b a:=Eq.symm h
theorem zro(a:E):ecom a a:=rfl
theorem zpj(a:E):ecom a e1:=by simp[ecom,e1,zt4,zru]
theorem zpk{a b c:E}(h1:ecom a b)(h2:ecom a c):ecom a (emul b c):=by
 unfold ecom at *
 simp only[emul,zbq,zbp,h1,h2]
theorem ztv{a b c:E}(h1:ecom a b)(h2:¬ ecom a c):¬ ecom a (emul b c):=by
 unfold ecom at *
 simp only[emul,zbq,zbp,h1]
 revert h2
 cases bt a.2 c.2<;>cases bt c.2 a.2<;>cases bt b.2 a.2<;>simp
theorem ztu{a b c:E}(h1:¬ ecom a b)(h2:ecom a c):¬ ecom a (emul b c):=by
 unfold ecom at *
 simp only[emul,zbq,zbp,h2]
 revert h1
 cases bt a.2 b.2<;>cases bt b.2 a.2<;>cases bt c.2 a.2<;>simp
theorem zmk{a b c:E}(h1:¬ ecom a b)(h2:¬ ecom a c):ecom a (emul b c):=by
 unfold ecom at *
 simp only[emul,zbq,zbp]
 revert h1 h2
 cases bt a.2 b.2<;>cases bt b.2 a.2<;>cases bt c.2 a.2<;>cases bt a.2 c.2<;>simp
theorem zwc{a:E}(h:a.1<4):eneg (eneg a)=a:=by
 refine zc6 ?_ rfl
 show((a.1+2)%4+2)%4=a.1
 omega
theorem ztt{a:E}(h:a.1<4):eneg a≠a:=by
 intro e
 have:(a.1+2)%4=a.1:=congrArg Prod.fst e
 omega
theorem zk2{a b:E}(ha:eok a)(hb:eok b)(h:a.2=b.2):a=b\/a=eneg b:=by
 obtain⟨a1,a2⟩:=a
 obtain⟨b1,b2⟩:=b
 simp only at h
 subst h
 obtain⟨h1,h2⟩:=ha
 obtain⟨h3,h4⟩:=hb
 simp only at h1 h2 h3 h4
 have:a1=b1\/a1=(b1+2)%4:=qad
 rcases this with h|h
 ·left;rw[h]
 ·right;rw[h];rfl
inductive Gen (L:List E):E->Prop
 | one:Gen L e1
 | mul (a f:E) (ha:a∈L) (hf:Gen L f):Gen L (emul a f)
structure Good (L:List E):Prop where
 ok:∀ a,a∈L->eok a
 com:∀ a b,a∈L->b∈L->ecom a b
variable{L M:List E}
theorem e1_ok:eok e1:=by constructor<;>simp[e1,zt4]
theorem ztq(c:E)(hc:∀ a,a∈L->ecom c a){g:E}(h:Gen L g):ecom c g:=by
 induction h with
 | one=>exact zpj c
 | mul a f ha _ ih=>exact zpk (hc a ha) ih
theorem zcl(hL:Good L){g:E}(h:Gen L g):eok g:=by
 induction h with
 | one=>exact e1_ok
 | mul a f ha hf ih=>exact emul_ok (hL.ok a ha) ih (ztq a (fun b hb=>hL.com a b ha hb) hf)
theorem gen_mem(hL:∀ a,a∈L->a.1<4){a:E}(ha:a∈L):Gen L a:=by
 have:=Gen.mul (L:=L) a e1 ha .one
 rwa [zg4 a (hL a ha)]at this
theorem zbd(hL:Good L){a:E}(ha:a∈L):Gen L a:=gen_mem (fun b hb=>(hL.ok b hb).1) ha
theorem gen_mul{g h:E}(hg:Gen L g)(hh:Gen L h)(hl:h.1<4):Gen L (emul g h):=by
 induction hg with
 | one=>rw[zfn h hl];exact hh
 | mul a f ha _ ih=>rw[zbh];exact .mul a _ ha ih
theorem zbu(hL:Good L){g h:E}(hg:Gen L g)(hh:Gen L h):Gen L (emul g h):=gen_mul hg hh (zcl hL hh).1
theorem zkz(hL:Good L){g h:E}(hg:Gen L g)(hh:Gen L h):ecom g h :=
 ztq g (fun a ha=>zba (ztq a (fun b hb=>hL.com a b ha hb) hg)) hh
theorem ztp(hM:Good M)(h:∀ a,a∈L->Gen M a){g:E}(hg:Gen L g):Gen M g:=by
 induction hg with
 | one=>exact .one
 | mul a f ha _ ih=>exact zbu hM (h a ha) ih
theorem zv1(h:∀ a,a∈L->a∈M){g:E}(hg:Gen L g):Gen M g:=by
 induction hg with
 | one=>exact .one
 | mul a f ha _ ih=>exact .mul a f (h a ha) ih
theorem zpa(hM:Good M)(h:∀ a,a∈L->Gen M a):Good L :=
 ⟨fun a ha=>zcl hM (h a ha),fun a b ha hb=>zkz hM (h a ha) (h b hb)⟩
theorem zc5{g:E}(h:Gen L g):spB (L.map (·.2)) g.2=true:=by
 induction h with
 | one=>exact zhq _
 | mul a f ha _ ih=>exact zdb _ _ _ (zb3 _ _ (List.mem_map.2 ⟨a,ha,rfl⟩)) ih
theorem zfk:∀(L:List E) (v:Nat),spB (L.map (·.2)) v=true->∃ g,Gen L g/\g.2=v
 | [],v,h=>⟨e1,.one,by simp only[List.map_nil,spB,beq_iff_eq]at h;rw[h];rfl⟩
 | a::L,v,h=>by
  simp only[List.map_cons,spB,Bool.or_eq_true]at h
  rcases h with h|h
  ·obtain⟨g,h1,h2⟩:=zfk L v h
   exact⟨g,zv1 (fun b hb=>List.mem_cons_of_mem _ hb) h1,h2⟩
  ·obtain⟨g,h1,h2⟩:=zfk L _ h
   refine⟨emul a g,.mul a g qc3 (zv1 (fun b hb=>List.mem_cons_of_mem _ hb) h1),?_⟩
   show a.2^^^g.2=v
   rw[h2,Nat.xor_comm v,<- Nat.xor_assoc,Nat.xor_self,Nat.zero_xor]
theorem gen_cons{a:E}(hL:Good (a::L)){g:E}(h:Gen (a::L) g):Gen L g \/ ∃ f,Gen L f/\g=emul a f:=by
 have ha:=hL.ok a qc3
 have hL2:Good L:=⟨fun b hb=>hL.ok b (List.mem_cons_of_mem _ hb),fun b c hb hc=>hL.com b c (List.mem_cons_of_mem _ hb) (List.mem_cons_of_mem _ hc)⟩
 induction h with
 | one=>exact .inl .one
 | mul b f hb _ ih =>
  rcases List.mem_cons.1 hb with e|e
  ·subst e
   rcases ih with ih|⟨k,h1,h2⟩
   ·exact .inr ⟨f,ih,rfl⟩
   ·left
    rw[h2,<- zbh,zcm ha,zfn k (zcl hL2 h1).1];exact h1
  ·rcases ih with ih|⟨k,h1,h2⟩
   ·exact .inl (.mul b f e ih)
   ·right
    refine⟨emul b k,.mul b k e h1,?_⟩
    rw[h2,<- zbh,<- zbh,zcc (hL.com b a hb qc3)]
theorem good_tl{a:E}(hL:Good (a::L)):Good L:=⟨fun b hb=>hL.ok b (List.mem_cons_of_mem _ hb),fun b c hb hc=>hL.com b c (List.mem_cons_of_mem _ hb) (List.mem_cons_of_mem _ hc)⟩
theorem zpc:∀{L:List E},Good L->Ind (L.map (·.2))->∀{g:E},Gen L g->g.2=0->g=e1
 | [],_,_,g,h,_=>by
  cases h with
  | one=>rfl
  | mul a f ha _=>cases ha
 | a::L,hL,hi,g,h,hz=>by
  rw[List.map_cons,ind_cons]at hi
  rcases gen_cons hL h with q|⟨f,q,rfl⟩
  ·exact zpc (good_tl hL) hi.1 q hz
  ·have h1:=zc5 q
   have h2:a.2^^^f.2=0:=hz
   have:f.2=a.2:=by
    have:=congrArg (fun n=>a.2^^^n) h2
    simp only[<- Nat.xor_assoc,Nat.xor_self,Nat.zero_xor,Nat.xor_zero]at this
    exact this
   rw[this,hi.2]at h1
   cases h1
theorem ziu(hL:Good L)(hi:Ind (L.map (·.2))){g h:E}(hg:Gen L g)(hh:Gen L h)(e:g.2=h.2):g=h:=by
 have h1:=zbu hL hg hh
 have h2:=zpc hL hi h1 (by show g.2^^^h.2=0;rw[e,Nat.xor_self])
 have h3:=congrArg (fun x=>emul x h) h2
 simp only[zbh,zcm (zcl hL hh),zg4 g (zcl hL hg).1,zfn h (zcl hL hh).1]at h3
 exact h3
end Go.Ma
namespace Go.Ma
def projR(f p:E)(L:List E):List E:=L.map fun q=>if ecom q p then q else emul q f
def proj(p:E):List E->List E
 | []=>[]
 | q::L=>if ecom q p then q::proj p L else p::projR q p L
theorem ze9(p:E):∀(L:List E),(∃ q,q∈L /\ ¬ ecom q p)->∃ A f B,L=A++f::B/\(∀ a,a∈A->ecom a p) /\ ¬ ecom f p/\proj p L=A++p::projR f p B
 | [],⟨q,h,_⟩=>by cases h
 | a::L,⟨q,h,hq⟩=>by
  by_cases ha:ecom a p
  ·have:∃ q,q∈L /\ ¬ ecom q p:=by
    rcases List.mem_cons.1 h with e|e
    ·subst e;exact absurd ha hq
    ·exact⟨q,e,hq⟩
   obtain⟨A,f,B,h1,h2,h3,h4⟩:=ze9 p L this
   refine⟨a::A,f,B,by rw[h1];rfl,?_,h3,?_⟩
   ·intro b hb
    rcases List.mem_cons.1 hb with e|e
    ·subst e;exact ha
    ·exact h2 b e
   ·simp only[proj,if_pos ha,h4,List.cons_append]
  ·exact⟨[],a,L,rfl,(fun b hb=>by cases hb),ha,by simp only[proj,if_neg ha,List.nil_append]⟩
theorem zq0{f p b:E}{L:List E}(h:b∈projR f p L):∃ q,q∈L/\((ecom q p/\b=q)\/(¬ ecom q p/\b=emul q f)):=by
 obtain⟨q,hq,rfl⟩:=List.mem_map.1 h
 refine⟨q,hq,?_⟩
 by_cases e:ecom q p
 ·exact .inl ⟨e,if_pos e⟩
 ·exact .inr ⟨e,if_neg e⟩
theorem zii{L:List E}{p:E}(hL:Good L)(hx:∃ q,q∈L /\ ¬ ecom q p){b:E}(hb:b∈proj p L):b=p\/(Gen L b/\ecom p b):=by
 obtain⟨A,f,B,h1,h2,h3,h4⟩:=ze9 p L hx
 have hf:f∈L:=by rw[h1];simp
 rw[h4]at hb
 rcases List.mem_append.1 hb with q|q
 ·exact .inr ⟨zbd hL (by rw[h1];simp[q]),zba (h2 b q)⟩
 rcases List.mem_cons.1 q with q|q
 ·exact .inl q
 ·obtain⟨r,hr,q|q⟩:=zq0 q
  ·obtain⟨q1,rfl⟩:=q
   exact .inr ⟨zbd hL (by rw[h1];simp[hr]),zba q1⟩
  ·obtain⟨q1,rfl⟩:=q
   have hrL:r∈L:=by rw[h1];simp[hr]
   exact .inr ⟨zbu hL (zbd hL hrL) (zbd hL hf),zmk (fun e=>q1 (zba e)) (fun e=>h3 (zba e))⟩
theorem zga{L:List E}{p:E}(hL:Good L)(hp:eok p)(hx:∃ q,q∈L /\ ¬ ecom q p):Good (proj p L):=by
 refine⟨fun a ha=>?_,fun a b ha hb=>?_⟩
 ·rcases zii hL hx ha with rfl|⟨h,_⟩
  ·exact hp
  ·exact zcl hL h
 ·rcases zii hL hx ha with rfl|⟨h,h'⟩<;>rcases zii hL hx hb with rfl|⟨k,k'⟩
  ·exact zro _
  ·exact k'
  ·exact zba h'
  ·exact zkz hL h k
theorem zko{L:List E}{p:E}(hx:∃ q,q∈L /\ ¬ ecom q p):p∈proj p L:=by
 obtain⟨A,f,B,h1,h2,h3,h4⟩:=ze9 p L hx
 rw[h4];simp
theorem zlw{L:List E}{p:E}(hL:Good L)(hp:eok p)(hx:∃ q,q∈L /\ ¬ ecom q p):∃ f,f∈L /\ ¬ ecom p f /\ ∀ g,Gen L g->(ecom p g->Gen (proj p L) g)/\(¬ ecom p g->Gen (proj p L) (emul g f)):=by
 have hG:=zga hL hp hx
 obtain⟨A,f,B,h1,h2,h3,h4⟩:=ze9 p L hx
 have hf:f∈L:=by rw[h1];simp
 have h3':¬ ecom p f:=fun e=>h3 (zba e)
 have mem:∀ e,e∈L->(ecom p e->Gen (proj p L) e)/\(¬ ecom p e->Gen (proj p L) (emul e f)):=by
  intro e he
  rw[h1]at he
  rcases List.mem_append.1 he with q|q
  ·exact⟨fun _=>zbd hG (by rw[h4];simp[q]),fun h=>absurd (zba (h2 e q)) h⟩
  rcases List.mem_cons.1 q with q|q
  ·subst q
   exact⟨fun h=>absurd h h3',fun _=>by rw[zcm (hL.ok e hf)];exact .one⟩
  ·refine⟨fun h=>zbd hG ?_,fun h=>zbd hG ?_⟩
   ·rw[h4]
    refine List.mem_append_right _ (List.mem_cons_of_mem _ (List.mem_map.2 ⟨e,q,if_pos (zba h)⟩))
   ·rw[h4]
    refine List.mem_append_right _ (List.mem_cons_of_mem _ (List.mem_map.2 ⟨e,q,if_neg fun h'=>h (zba h')⟩))
 refine⟨f,hf,h3',fun g hg=>?_⟩
 induction hg with
 | one=>exact⟨fun _=>.one,fun h=>absurd (zpj p) h⟩
 | mul e k he hk ih =>
  obtain⟨m1,m2⟩:=mem e he
  obtain⟨i1,i2⟩:=ih
  have cke:ecom k f:=zkz hL hk (zbd hL hf)
  have cfe:ecom f e:=hL.com f e hf he
  by_cases ce:ecom p e<;>by_cases ck:ecom p k
  ·exact⟨fun _=>zbu hG (m1 ce) (i1 ck),fun h=>absurd (zpk ce ck) h⟩
  ·refine⟨fun h=>absurd h (ztv ce ck),fun _=>?_⟩
   rw[zbh];exact zbu hG (m1 ce) (i2 ck)
  ·refine⟨fun h=>absurd h (ztu ce ck),fun _=>?_⟩
   rw[zbh,zcc cke,<- zbh];exact zbu hG (m2 ce) (i1 ck)
  ·refine⟨fun _=>?_,fun h=>absurd (zmk ce ck) h⟩
   have:=zbu hG (m2 ce) (i2 ck)
   rw[zcc cke,zbh,<- zbh f f,zcm (hL.ok f hf),zfn k (zcl hL hk).1]at this
   exact this
theorem zqz{L:List E}{p:E}(hL:Good L)(hp:eok p)(hx:∃ q,q∈L /\ ¬ ecom q p){g:E}(h:Gen (proj p L) g):∃ k,Gen L k/\ecom p k/\(g=k\/g=emul p k):=by
 induction h with
 | one=>exact⟨e1,.one,zpj p,.inl rfl⟩
 | mul a f ha _ ih =>
  obtain⟨k,h1,h2,h3⟩:=ih
  rcases zii hL hx ha with rfl|⟨q,q'⟩
  ·rcases h3 with rfl|rfl
   ·exact⟨f,h1,h2,.inr rfl⟩
   ·refine⟨k,h1,h2,.inl ?_⟩
    rw[<- zbh,zcm hp,zfn k (zcl hL h1).1]
  ·refine⟨emul a k,zbu hL q h1,zpk q' h2,?_⟩
   rcases h3 with rfl|rfl
   ·exact .inl rfl
   ·right
    rw[<- zbh,zcc (zba q'),zbh]
theorem zop(p:E):∀ L:List E,(proj p L).length=L.length
 | []=>rfl
 | q::L=>by
  unfold proj
  split
  ·simp[zop p L]
  ·simp[projR]
def U:Nat->List Nat
 | 0=>[]
 | w+1=>2^w::2^(12+w)::U w
theorem zp2{w j:Nat}(h:(w<=j/\j<12)\/12+w<=j):∀ a,a∈U w->a.testBit j=false:=by
 induction w with
 | zero=>intro a ha;cases ha
 | succ w ih =>
  intro a ha
  rcases List.mem_cons.1 ha with e|ha
  ·subst e;rw[Nat.testBit_two_pow];simp;omega
  rcases List.mem_cons.1 ha with e|ha
  ·subst e;rw[Nat.testBit_two_pow];simp;omega
  ·exact ih qad a ha
theorem U_lt{w:Nat}(hw:w<=12):∀ a,a∈U w->a<2^24:=by
 induction w with
 | zero=>intro a ha;cases ha
 | succ w ih =>
  intro a ha
  rcases List.mem_cons.1 ha with e|ha
  ·subst e;exact Nat.pow_lt_pow_right qag qad
  rcases List.mem_cons.1 ha with e|ha
  ·subst e;exact Nat.pow_lt_pow_right qag qad
  ·exact ih qad a ha
theorem U_ind{w:Nat}(hw:w<=12):Ind (U w):=by
 induction w with
 | zero=>rfl
 | succ w ih =>
  have h1:Ind (2^(12+w)::U w):=by
   rw[ind_cons]
   refine⟨ih qad,?_⟩
   cases h:spB (U w) (2^(12+w)) with
   | false=>rfl
   | true =>
    have:=zeo (j:=12+w) (U w) (zp2 (.inr (Nat.le_refl _))) _ h
    rw[Nat.testBit_two_pow_self]at this;cases this
  show Ind (2^w::2^(12+w)::U w)
  rw[ind_cons]
  refine⟨h1,?_⟩
  cases h:spB (2^(12+w)::U w) (2^w) with
  | false=>rfl
  | true =>
   have:=zeo (j:=w) (2^(12+w)::U w) (fun a ha=>by
    rcases List.mem_cons.1 ha with e|ha
    ·subst e;rw[Nat.testBit_two_pow];simp
    ·exact zp2 (.inl ⟨Nat.le_refl _,by omega⟩) a ha) _ h
   rw[Nat.testBit_two_pow_self]at this;cases this
theorem U_len:∀ w,(U w).length=2*w
 | 0=>rfl
 | w+1=>by simp[U,U_len w];omega
abbrev inV(w v:Nat):Prop:=spB (U w) v=true
theorem zky{w:Nat}:∀(v:Nat),(∀ j,(w<=j/\j<12)\/12+w<=j->v.testBit j=false)->inV w v:=by
 induction w with
 | zero =>
  intro v h
  have:v=0:=Nat.eq_of_testBit_eq fun j=>by rw[Nat.zero_testBit];exact h j qad
  subst this;rfl
 | succ w ih =>
  intro v h
  have key:∀ u:Nat,(∀ j,(w+1<=j/\j<12)\/12+(w+1)<=j->u.testBit j=false)->u.testBit w=(if w<12 then false else u.testBit w)->spB (2^(12+w)::U w) u=true:=by
   intro u hu huw
   cases hb:u.testBit (12+w) with
   | false =>
    simp only[spB,Bool.or_eq_true]
    left
    refine ih u fun j hj=>?_
    by_cases e:j=w
    ·subst e
     by_cases q:j<12
     ·rw[huw,if_pos q]
     ·exact hu j qad
    by_cases e2:j=12+w
    ·subst e2;exact hb
    ·exact hu j qad
   | true =>
    simp only[spB,Bool.or_eq_true]
    right
    refine ih _ fun j hj=>?_
    rw[Nat.testBit_xor,Nat.testBit_two_pow]
    by_cases e2:j=12+w
    ·subst e2;simp[hb]
    have e3:¬ 12+w=j:=fun e=>e2 e.symm
    simp only[e3,decide_false,Bool.xor_false]
    by_cases e:j=w
    ·subst e
     by_cases q:j<12
     ·rw[huw,if_pos q]
     ·exact hu j qad
    ·exact hu j qad
  show spB (2^w::2^(12+w)::U w) v=true
  cases hb:v.testBit w with
  | false =>
   simp only[spB,Bool.or_eq_true]at key⊢
   left
   refine key v h ?_
   rw[hb];simp
  | true =>
   have h2:=key (v^^^2^w) (fun j hj=>by
    rw[Nat.testBit_xor,Nat.testBit_two_pow,h j hj]
    simp;omega) (by rw[Nat.testBit_xor,Nat.testBit_two_pow_self,hb];simp)
   rw[spB,Bool.or_eq_true]
   exact .inr h2
def cm(a b:Nat):Bool:=bt a b != bt b a
theorem ztz(a b c:Nat):cm a (b^^^c)=(cm a b != cm a c):=by
 unfold cm
 rw[zbp,zbq]
 cases bt a b<;>cases bt a c<;>cases bt b a<;>cases bt c a<;>rfl
theorem zjt(a b c:Nat):cm (a^^^b) c=(cm a c != cm b c):=by
 unfold cm
 rw[zbp,zbq]
 cases bt a c<;>cases bt b c<;>cases bt c a<;>cases bt c b<;>rfl
theorem zt0(a b:Nat):cm a b=cm b a:=by
 unfold cm;cases bt a b<;>cases bt b a<;>rfl
theorem cm_0(a:Nat):cm a 0=false:=by unfold cm;rw[zt4,zru];rfl
theorem cm_ecom{a b:E}:ecom a b ↔ cm a.2 b.2=false:=by
 unfold cm ecom;cases bt a.2 b.2<;>cases bt b.2 a.2<;>simp
theorem zt1{c:Nat}:∀(L:List Nat),(∀ a,a∈L->cm c a=false)->∀ v,spB L v=true->cm c v=false
 | [],_,v,h=>by
  simp only[spB,beq_iff_eq]at h
  subst h;exact cm_0 c
 | a::L,hL,v,h=>by
  simp only[spB,Bool.or_eq_true]at h
  have ih:=zt1 L (fun b hb=>hL b (List.mem_cons_of_mem _ hb))
  rcases h with h|h
  ·exact ih v h
  ·have:=ih _ h
   rw[ztz,hL a qc3]at this
   simpa using this
theorem zkr{k i:Nat}(h:i<k):∀ u,parF k (2^i &&& u)=u.testBit i:=by
 induction k with
 | zero=>omega
 | succ k ih =>
  intro u
  simp only[parF,Nat.testBit_and,Nat.testBit_two_pow]
  by_cases e:i=k
  ·subst e
   have:∀ m,m<=i->parF m (2^i &&& u)=false:=by
    intro m
    induction m with
    | zero=>intro _;rfl
    | succ m ihm =>
     intro hm
     simp only[parF,ihm qad,Nat.testBit_and,Nat.testBit_two_pow]
     have:¬ i=m:=qad
     simp[this]
   rw[this i (Nat.le_refl _)];simp
  ·rw[ih qad]
   simp[e]
theorem parF_hi{k i:Nat}(h:k<=i)(u:Nat):parF k (u &&& 2^i)=false:=by
 have:∀ m,m<=k->parF m (u &&& 2^i)=false:=by
  intro m
  induction m with
  | zero=>intro _;rfl
  | succ m ihm =>
   intro hm
   simp only[parF,ihm qad,Nat.testBit_and,Nat.testBit_two_pow]
   have:¬ i=m:=qad
   simp[this]
 exact this k (Nat.le_refl _)
def dual(c:Nat):Nat:=if c<12 then 2^(12+c) else 2^(c-12)
theorem zt2{c:Nat}(h:c<24)(u:Nat):cm (dual c) u=u.testBit c:=by
 unfold cm dual bt
 split
 ·rename_i hc
  have e:(2^(12+c)) >>> 12=2^c:=by
   rw[Nat.shiftRight_eq_div_pow,Nat.pow_add,Nat.mul_comm,Nat.mul_div_cancel _ qag]
  rw[e,zkr hc,parF_hi qad]
  simp
 ·rename_i hc
  have e:(2^(c-12)) >>> 12=0:=by
   rw[Nat.shiftRight_eq_div_pow]
   exact Nat.div_eq_of_lt (Nat.pow_lt_pow_right qag qad)
  rw[e,Nat.zero_and,zfb,Nat.and_comm,zkr qad,Nat.testBit_shiftRight]
  have:12+(c-12)=c:=qad
  rw[this];simp
theorem dual_in{w c:Nat}(_hw:w<=12)(h:c<w\/(12<=c/\c<12+w)):inV w (dual c):=by
 refine zky _ fun j hj=>?_
 unfold dual
 split<;>rw[Nat.testBit_two_pow]<;>simp<;>omega
theorem apart{w:Nat}(hw:w<=12):∀(L:List Nat),(∀ a,a∈L->inV w a)->∀ a,inV w a->spB L a=false->∃ v,inV w v/\(∀ r,r∈L->cm v r=false)/\cm v a=true
 | [],_,a,ha,h=>by
  have h0:a≠0:=by simpa[spB] using h
  obtain⟨c,hc⟩:=Nat.exists_testBit_of_ne_zero h0
  have hin:c<w\/(12<=c/\c<12+w):=by
   have:¬((w<=c/\c<12)\/12+w<=c):=fun q=>by
    rw[zeo (U w) (zp2 q) a ha]at hc;cases hc
   omega
  exact⟨dual c,dual_in hw hin,(fun r hr=>by cases hr),by rw[zt2 qad,hc]⟩
 | r::L,hL,a,ha,h=>by
  simp only[spB,Bool.or_eq_false_iff]at h
  have hr:=hL r qc3
  have ih:=apart hw L (fun b hb=>hL b (List.mem_cons_of_mem _ hb))
  obtain⟨v,v1,v2,v3⟩:=ih a ha h.1
  obtain⟨u,u1,u2,u3⟩:=ih _ (zdb _ _ _ ha hr) h.2
  cases e1:cm v r with
  | false =>
   refine⟨v,v1,fun b hb=>?_,v3⟩
   rcases List.mem_cons.1 hb with e|e
   ·subst e;exact e1
   ·exact v2 b e
  | true =>
   cases e2:cm u r with
   | false =>
    refine⟨u,u1,fun b hb=>?_,by rw[ztz,e2]at u3;simpa using u3⟩
    rcases List.mem_cons.1 hb with e|e
    ·subst e;exact e2
    ·exact u2 b e
   | true =>
    refine⟨v^^^u,zdb _ _ _ v1 u1,fun b hb=>?_,?_⟩
    ·rw[zjt]
     rcases List.mem_cons.1 hb with e|e
     ·subst e;rw[e1,e2];rfl
     ·rw[v2 b e,u2 b e];rfl
    ·rw[ztz,e2]at u3
     rw[zjt,v3]
     revert u3
     cases cm u a<;>simp
def perpB(L:List Nat)(v:Nat):Bool:=L.all fun r=>!cm v r
theorem perp_iff{L:List Nat}{v:Nat}:perpB L v=true ↔ ∀ r,r∈L->cm v r=false:=by
 simp[perpB]
theorem cn_perp{w K:Nat}(hw:w<=12)(hK:∀ a,a∈U w->a<2^K):∀(L:List Nat),(∀ a,a∈L->inV w a)->cn K (fun v=>spB (U w) v&&perpB L v)*2^rk L=2^(2*w)
 | [],_=>by
  have:=zjs (U w) hK
  rw[U_ind hw,U_len]at this
  simp only[rk,Nat.pow_zero,Nat.mul_one]
  rw[<- this]
  exact zev _ _ _ fun v _=>by simp[perpB]
 | r::L,hL=>by
  have ih:=cn_perp hw hK L (fun b hb=>hL b (List.mem_cons_of_mem _ hb))
  have hr:=hL r qc3
  simp only[rk]
  cases hs:spB L r with
  | true =>
   simp only[if_true,Nat.add_zero]
   rw[<- ih]
   congr 1
   refine zev _ _ _ fun v _=>?_
   congr 1
   rw[Bool.eq_iff_iff,perp_iff,perp_iff]
   refine⟨fun h b hb=>h b (List.mem_cons_of_mem _ hb),fun h b hb=>?_⟩
   rcases List.mem_cons.1 hb with e|e
   ·subst e;exact zt1 L h b hs
   ·exact h b e
  | false =>
   obtain⟨u,u1,u2,u3⟩:=apart hw L (fun b hb=>hL b (List.mem_cons_of_mem _ hb)) r hr hs
   have split:cn K (fun v=>spB (U w) v&&perpB L v)=cn K (fun v=>spB (U w) v&&perpB (r::L) v)+cn K (fun v=>(fun x=>spB (U w) x&&perpB (r::L) x) (v^^^u)):=by
    rw[<- cn_or]
    ·refine zev _ _ _ fun v _=>?_
     have e1:spB (U w) (v^^^u)=spB (U w) v:=by
      rw[Bool.eq_iff_iff]
      refine⟨fun h=>?_,fun h=>zdb _ _ _ h u1⟩
      have:=zdb _ _ _ h u1
      rwa [zau]at this
     have e2:perpB L (v^^^u)=perpB L v:=by
      rw[Bool.eq_iff_iff,perp_iff,perp_iff]
      refine⟨fun h b hb=>?_,fun h b hb=>?_⟩
      ·have:=h b hb;rw[zjt,u2 b hb]at this;simpa using this
      ·rw[zjt,u2 b hb,h b hb];rfl
     have e3:perpB (r::L) v=(!cm v r&&perpB L v):=rfl
     have e4:perpB (r::L) (v^^^u)=(cm v r&&perpB L v):=by
      show(!cm (v^^^u) r&&perpB L (v^^^u))=_
      rw[e2,zjt,u3];simp
     simp only[e1,e3,e4]
     cases spB (U w) v<;>cases cm v r<;>cases perpB L v<;>rfl
    ·intro v _
     have e3:perpB (r::L) v=(!cm v r&&perpB L v):=rfl
     have e4:perpB (r::L) (v^^^u)=(!cm (v^^^u) r&&perpB L (v^^^u)):=rfl
     simp only[e3,e4,zjt,u3]
     cases cm v r<;>simp
   rw[zmo K u (fun x=>spB (U w) x&&perpB (r::L) x) (zqj _ hK _ u1)]at split
   rw[split]at ih
   rw[<- ih]
   simp only[Bool.false_eq_true,if_false,Nat.pow_succ]
   have:∀ a b:Nat,a*(b*2)=(a+a)*b:=fun a b=>by rw[Nat.mul_comm b 2,<- Nat.mul_assoc,Nat.mul_two]
   exact this _ _
theorem zmp:∀(k:Nat) (f g:Nat->Bool),(∀ v,v<2^k->f v=true->g v=true)->cn k f=cn k g->∀ v,v<2^k->g v=true->f v=true
 | 0,f,g,h,e,v,hv,hg=>by
  have:v=0:=by simpa using hv
  subst this
  simp only[cn]at e
  rw[hg]at e
  revert e;cases f 0<;>simp
 | k+1,f,g,h,e,v,hv,hg=>by
  have hp:2^(k+1)=2^k+2^k:=qb1
  have mono:∀(k:Nat) (f g:Nat->Bool),(∀ v,v<2^k->f v=true->g v=true)->cn k f<=cn k g:=by
   intro k
   induction k with
   | zero =>
    intro f g h
    have:=h 0 qc3
    simp only[cn]
    cases e1:f 0<;>cases e2:g 0<;>simp_all
   | succ k ih =>
    intro f g h
    have hp:2^(k+1)=2^k+2^k:=qb1
    simp only[cn]
    have h1:=ih f g fun v hv=>h v qad
    have h2:=ih (fun v=>f (v^^^2^k)) (fun v=>g (v^^^2^k)) fun v hv=>h _ (Nat.xor_lt_two_pow qad qad)
    omega
  have hx:∀ v,v<2^k->v^^^2^k<2^(k+1):=fun v hv=>Nat.xor_lt_two_pow qad qad
  have m1:=mono k f g fun v hv=>h v qad
  have m2:=mono k (fun v=>f (v^^^2^k)) (fun v=>g (v^^^2^k)) fun v hv=>h _ (hx v hv)
  simp only[cn]at e
  rcases Nat.lt_or_ge v (2^k) with q|q
  ·exact zmp k f g (fun v hv=>h v qad) qad v q hg
  ·have:=zmp k (fun v=>f (v^^^2^k)) (fun v=>g (v^^^2^k)) (fun v hv=>h _ (hx v hv)) qad (v^^^2^k) (zjc hv q) (by simpa only[zau] using hg)
   simpa only[zau] using this
theorem maxi{w:Nat}(hw:w<=12){L:List Nat}(hin:∀ a,a∈L->inV w a)(hi:Ind L)(hl:L.length=w)(hc:∀ a b,a∈L->b∈L->cm a b=false){v:Nat}(hv:inV w v)(h:∀ a,a∈L->cm v a=false):spB L v=true:=by
 obtain⟨K,hK⟩:∃ K,∀ a,a∈U w->a<2^K:=⟨24,U_lt hw⟩
 have hlt:∀ a,a∈L->a<2^K:=fun a ha=>zqj _ hK _ (hin a ha)
 have h1:=cn_perp hw hK L hin
 have h2:=zjs L hlt
 rw[hi,hl]at h1 h2
 have h3:cn K (fun v=>spB (U w) v&&perpB L v)=2^w:=by
  have:2^(2*w)=2^w*2^w:=by rw[<- Nat.pow_add];congr 1;omega
  rw[this]at h1
  exact Nat.eq_of_mul_eq_mul_right (Nat.two_pow_pos w) h1
 refine zmp K (spB L) (fun v=>spB (U w) v&&perpB L v) (fun u _ hu=>?_) (by rw[h2,h3]) v (zqj _ hK _ hv) ?_
 ·rw[Bool.and_eq_true]
  refine⟨zlk L (U w) hin u hu,perp_iff.2 fun r hr=>?_⟩
  rw[zt0]
  exact zt1 L (fun a ha=>hc r a hr ha) u hu
 ·show(spB (U w) v&&perpB L v)=true
  rw[hv,perp_iff.2 h];rfl
end Go.Ma
namespace Go.Ma
open Classical
structure Sta (w:Nat) (L:List E):Prop where
 good:Good L
 ind:Ind (L.map (·.2))
 len:L.length=w
 inv:∀ a,a∈L->inV w a.2
theorem zy7{w:Nat}(hw:w<=12){L:List E}(h:Sta w L){p:E}(hp:inV w p.2)(hc:∀ q,q∈L->ecom q p):spB (L.map (·.2)) p.2=true:=by
 refine maxi (L:=L.map (·.2)) hw ?_ h.ind (by simp[h.len]) ?_ hp ?_
 ·intro a ha
  obtain⟨q,hq,rfl⟩:=List.mem_map.1 ha
  exact h.inv q hq
 ·intro a b ha hb
  obtain⟨q,hq,rfl⟩:=List.mem_map.1 ha
  obtain⟨r,hr,rfl⟩:=List.mem_map.1 hb
  exact cm_ecom.1 (h.good.com q r hq hr)
 ·intro a ha
  obtain⟨q,hq,rfl⟩:=List.mem_map.1 ha
  exact cm_ecom.1 (zba (hc q hq))
theorem zgq{w:Nat}(hw:w<=12){L:List E}(h:Sta w L){p:E}(hp:inV w p.2)(hok:eok p)(h1:¬ Gen L p)(h2:¬ Gen L (eneg p)):∃ q,q∈L /\ ¬ ecom q p:=by
 refine Classical.byContradiction fun hn=>?_
 have hc:∀ q,q∈L->ecom q p:=fun q hq=>Classical.byContradiction fun e=>hn ⟨q,hq,e⟩
 obtain⟨g,hg,e⟩:=zfk L _ (zy7 hw h hp hc)
 rcases zk2 (zcl h.good hg) hok e with q|q
 ·subst q;exact h1 hg
 ·subst q;exact h2 hg
theorem not_span{L:List E}(hL:Good L){p:E}(hok:eok p)(h1:¬ Gen L p)(h2:¬ Gen L (eneg p)):spB (L.map (·.2)) p.2=false:=by
 cases e:spB (L.map (·.2)) p.2 with
 | false=>rfl
 | true =>
  obtain⟨g,hg,e⟩:=zfk L _ e
  rcases zk2 (zcl hL hg) hok e with q|q
  ·subst q;exact absurd hg h1
  ·subst q;exact absurd hg h2
theorem zxh(a:Nat)(l:List Nat):rk (a::l)<=rk l+1:=by
 simp only[rk];split<;>omega
theorem proj_vec{L:List E}{p:E}(hx:∃ q,q∈L /\ ¬ ecom q p):∃ f,f∈L /\ ¬ ecom f p/\(∀ b,b∈proj p L->b=p\/b∈L \/ ∃ q,q∈L/\b=emul q f)/\(∀ q,q∈L->spB (f.2::(proj p L).map (·.2)) q.2=true):=by
 obtain⟨A,f,B,h1,h2,h3,h4⟩:=ze9 p L hx
 have hf:f∈L:=by rw[h1];simp
 refine⟨f,hf,h3,fun b hb=>?_,fun q hq=>?_⟩
 ·rw[h4]at hb
  rcases List.mem_append.1 hb with q|q
  ·exact .inr (.inl (by rw[h1];simp[q]))
  rcases List.mem_cons.1 q with q|q
  ·exact .inl q
  ·obtain⟨r,hr,q|q⟩:=zq0 q
   ·exact .inr (.inl (by rw[q.2,h1];simp[hr]))
   ·exact .inr (.inr ⟨r,by rw[h1];simp[hr],q.2⟩)
 ·rw[h1]at hq
  rw[h4]
  rcases List.mem_append.1 hq with e|e
  ·exact zb3 _ _ (by simp;right;left;exact⟨q.1,e⟩)
  rcases List.mem_cons.1 e with e|e
  ·subst e;exact zb3 _ _ qc3
  ·by_cases c:ecom q p
   ·refine zb3 _ _ ?_
    have:q∈projR f p B:=List.mem_map.2 ⟨q,e,if_pos c⟩
    refine List.mem_cons_of_mem _ (List.mem_map.2 ⟨q,?_,rfl⟩)
    simp[this]
   ·have m1:spB (f.2::(A++p::projR f p B).map (·.2)) (emul q f).2=true:=by
     refine zb3 _ _ ?_
     have:emul q f∈projR f p B:=List.mem_map.2 ⟨q,e,if_neg c⟩
     refine List.mem_cons_of_mem _ (List.mem_map.2 ⟨emul q f,?_,rfl⟩)
     simp[this]
    have m2:spB (f.2::(A++p::projR f p B).map (·.2)) f.2=true:=zb3 _ _ qc3
    have:=zdb _ _ _ m1 m2
    have e:(emul q f).2^^^f.2=q.2:=zau _ _
    rwa [e]at this
theorem zkn{w:Nat}(hw:w<=12){L:List E}(h:Sta w L){p:E}(hp:inV w p.2)(hok:eok p)(h1:¬ Gen L p)(h2:¬ Gen L (eneg p)):Sta w (proj p L):=by
 have hx:=zgq hw h hp hok h1 h2
 obtain⟨f,hf,hfp,hm,hs⟩:=proj_vec hx
 have hV:∀ b,b∈proj p L->inV w b.2:=by
  intro b hb
  rcases hm b hb with rfl|e|⟨q,hq,rfl⟩
  ·exact hp
  ·exact h.inv b e
  ·exact zdb _ _ _ (h.inv q hq) (h.inv f hf)
 refine⟨zga h.good hok hx,?_,by rw[zop,h.len],hV⟩
 have hlt:∀ v,inV w v->v<2^24:=fun v hv=>zqj _ (U_lt hw) _ hv
 have hns:=not_span h.good hok h1 h2
 have hr:rk (p.2::L.map (·.2))=w+1:=by
  have:Ind (p.2::L.map (·.2)):=ind_cons.2 ⟨h.ind,hns⟩
  unfold Ind at this
  rw[this];simp[h.len]
 have he:rk (p.2::L.map (·.2))=rk (f.2::(proj p L).map (·.2)):=by
  refine zxg (k:=24) ?_ ?_ (zng ?_ ?_)
  ·intro a ha
   rcases List.mem_cons.1 ha with e|e
   ·subst e;exact hlt _ hp
   ·obtain⟨q,hq,rfl⟩:=List.mem_map.1 e;exact hlt _ (h.inv q hq)
  ·intro a ha
   rcases List.mem_cons.1 ha with e|e
   ·subst e;exact hlt _ (h.inv f hf)
   ·obtain⟨q,hq,rfl⟩:=List.mem_map.1 e;exact hlt _ (hV q hq)
  ·intro a ha
   rcases List.mem_cons.1 ha with e|e
   ·subst e
    exact zb3 _ _ (List.mem_cons_of_mem _ (List.mem_map.2 ⟨p,zko hx,rfl⟩))
   ·obtain⟨q,hq,rfl⟩:=List.mem_map.1 e;exact hs q hq
  ·intro a ha
   have mL:∀ q,q∈L->spB (p.2::L.map (·.2)) q.2=true:=fun q hq=>zb3 _ _ (List.mem_cons_of_mem _ (List.mem_map.2 ⟨q,hq,rfl⟩))
   rcases List.mem_cons.1 ha with e|e
   ·subst e;exact mL f hf
   ·obtain⟨q,hq,rfl⟩:=List.mem_map.1 e
    rcases hm q hq with rfl|e|⟨r,hr,rfl⟩
    ·exact zb3 _ _ qc3
    ·exact mL q e
    ·exact zdb _ _ _ (mL r hr) (mL f hf)
 rw[hr]at he
 have h3:=zxh f.2 ((proj p L).map (·.2))
 have h4:=rk_le ((proj p L).map (·.2))
 unfold Ind
 simp only[List.length_map,zop,h.len]at h4⊢
 omega
end Go.Ma
namespace Go.Ma
def xr(v:Nat->Nat)(m:Nat->Bool):Nat->Nat
 | 0=>0
 | n+1=>if m n then xr v m n^^^v n else xr v m n
def revl(v:Nat->Nat):Nat->List Nat
 | 0=>[]
 | n+1=>v n::revl v n
theorem revl_mem{v:Nat->Nat}{a:Nat}:∀{n:Nat},a∈revl v n ↔ ∃ j,j<n/\a=v j
 | 0=>by simp[revl]
 | n+1=>by
  simp only[revl,List.mem_cons,revl_mem (n:=n)]
  constructor
  ·rintro(rfl|⟨j,h1,h2⟩)
   ·exact⟨n,by omega,rfl⟩
   ·exact⟨j,by omega,h2⟩
  ·rintro⟨j,h1,h2⟩
   by_cases e:j=n
   ·subst e;exact .inl h2
   ·exact .inr ⟨j,by omega,h2⟩
theorem zh8{v v':Nat->Nat}{m m':Nat->Bool}:∀{n:Nat},(∀ j,j<n->v j=v' j)->(∀ j,j<n->m j=m' j)->xr v m n=xr v' m' n
 | 0,_,_=>rfl
 | n+1,h1,h2=>by
  simp only[xr]
  rw[zh8 (fun j hj=>h1 j qad) (fun j hj=>h2 j qad),h1 n qad,h2 n qad]
theorem zp4(v:Nat->Nat)(m m':Nat->Bool):∀ n,xr v (fun j=>m j != m' j) n=xr v m n^^^xr v m' n
 | 0=>(Nat.xor_self 0).symm
 | n+1=>by
  simp only[xr,zp4 v m m' n]
  have e1:∀ a b c:Nat,a^^^b^^^c=a^^^c^^^b:=fun a b c=>by rw[Nat.xor_assoc,Nat.xor_comm b,<- Nat.xor_assoc]
  cases m n<;>cases m' n<;>simp
  ·rw[Nat.xor_assoc]
  ·rw[e1]
  ·rw[e1,<- Nat.xor_assoc,zau]
theorem zk9{v:Nat->Nat}{m:Nat->Bool}:∀{n:Nat},(∀ j,j<n->m j=false)->xr v m n=0
 | 0,_=>rfl
 | n+1,h=>by simp only[xr];rw[h n qad,zk9 fun j hj=>h j qad];rfl
theorem zua{v:Nat->Nat}{i:Nat}:∀{n:Nat},i<n->xr v (fun j=>j==i) n=v i
 | 0,h=>by omega
 | n+1,h=>by
  simp only[xr]
  by_cases e:n=i
  ·subst e
   rw[zk9 fun j hj=>by simp;omega];simp
  ·rw[zua qad];simp[e]
theorem zr8{v:Nat->Nat}{m:Nat->Bool}:∀ n,spB (revl v n) (xr v m n)=true
 | 0=>rfl
 | n+1=>by
  simp only[xr,revl,spB,Bool.or_eq_true]
  split
  ·right;rw[zau];exact zr8 n
  ·left;exact zr8 n
theorem zlj{v:Nat->Nat}{u:Nat}:∀{n:Nat},spB (revl v n) u=true->∃ m,xr v m n=u
 | 0,h=>⟨fun _=>false,by simp only[revl,spB,beq_iff_eq]at h;rw[h];rfl⟩
 | n+1,h=>by
  simp only[revl,spB,Bool.or_eq_true]at h
  rcases h with h|h
  ·obtain⟨m,hm⟩:=zlj h
   refine⟨fun j=>if j=n then false else m j,?_⟩
   simp only[xr,if_true,Bool.false_eq_true,if_false]
   rw[<- hm]
   exact zh8 (fun _ _=>rfl) fun j hj=>by rw[if_neg qad]
  ·obtain⟨m,hm⟩:=zlj h
   refine⟨fun j=>if j=n then true else m j,?_⟩
   simp only[xr,if_true]
   rw[zh8 (m':=m) (fun _ _=>rfl) fun j hj=>by rw[if_neg qad],hm,zau]
structure Piv (n:Nat) (r p:Nat->Nat) (act:Nat->Bool):Prop where
 own:∀ i,i<n->act i=true->(r i).testBit (p i)=true
 other:∀ i j,i<n->j<n->i≠j->act j=true->(r i).testBit (p j)=false
 zero:∀ i,i<n->act i=false->r i=0
def cnt(act:Nat->Bool):Nat->Nat
 | 0=>0
 | n+1=>cnt act n+(act n).toNat
theorem cnt_le(act:Nat->Bool):∀ n,cnt act n<=n
 | 0=>Nat.le_refl _
 | n+1=>by have:=cnt_le act n;have:(act n).toNat<=1:=Bool.toNat_le _;simp only[cnt];omega
theorem zty{act:Nat->Bool}:∀{n:Nat},cnt act n=n ↔ ∀ i,i<n->act i=true
 | 0=>by simp[cnt]
 | n+1=>by
  have h1:=cnt_le act n
  have h2:=zty (act:=act) (n:=n)
  have h3:(act n).toNat<=1:=Bool.toNat_le _
  simp only[cnt]
  constructor
  ·intro h i hi
   have e:cnt act n=n:=qad
   by_cases q:i=n
   ·subst q
    have:(act i).toNat=1:=qad
    revert this;cases act i<;>simp
   ·exact h2.1 e i qad
  ·intro h
   rw[h2.2 fun i hi=>h i qad,h n qad];rfl
theorem rk_piv{n:Nat}{r p:Nat->Nat}{act:Nat->Bool}(h:Piv n r p act):rk (revl r n)=cnt act n:=by
 induction n with
 | zero=>rfl
 | succ n ih =>
  have ih:=ih ⟨fun i hi=>h.own i qad,fun i j hi hj=>h.other i j qad qad,fun i hi=>h.zero i qad⟩
  simp only[revl,rk,cnt,ih]
  cases ha:act n with
  | false=>rw[h.zero n qad ha,zhq];rfl
  | true =>
   have:spB (revl r n) (r n)=false:=by
    cases e:spB (revl r n) (r n) with
    | false=>rfl
    | true =>
     have:=zeo (j:=p n) (revl r n) (fun a ha'=>by
      obtain⟨j,hj,rfl⟩:=revl_mem.1 ha'
      exact h.other j n qad qad qad ha) _ e
     rw[h.own n qad ha]at this;cases this
   rw[this];rfl
def slv(r p:Nat->Nat)(act:Nat->Bool)(u:Nat):Nat->Nat
 | 0=>u
 | n+1=>if act n&&(slv r p act u n).testBit (p n) then slv r p act u n^^^r n else slv r p act u n
theorem slv_bit{N:Nat}{r p:Nat->Nat}{act:Nat->Bool}(h:Piv N r p act)(u:Nat):∀{n:Nat},n<=N->∀ i,n<=i->i<N->act i=true->(slv r p act u n).testBit (p i)=u.testBit (p i)
 | 0,_,_,_,_,_=>rfl
 | n+1,hn,i,h1,h2,h3=>by
  have ih:=slv_bit h u (n:=n) qad i qad h2 h3
  simp only[slv]
  split
  ·rw[Nat.testBit_xor,ih,h.other n i qad h2 qad h3,Bool.xor_false]
  ·exact ih
theorem slv_eq{N:Nat}{r p:Nat->Nat}{act:Nat->Bool}(h:Piv N r p act)(u:Nat):∀{n:Nat},n<=N->slv r p act u n=u^^^xr r (fun i=>act i&&u.testBit (p i)) n
 | 0,_=>by simp[slv,xr]
 | n+1,hn=>by
  have ih:=slv_eq h u (n:=n) qad
  have hb:(act n&&(slv r p act u n).testBit (p n))=(act n&&u.testBit (p n)):=by
   cases ha:act n with
   | false=>rfl
   | true=>rw[slv_bit h u qad n (Nat.le_refl _) qad ha]
  simp only[slv,hb,xr]
  split
  ·rw[ih,Nat.xor_assoc]
  ·exact ih
theorem zyd{N:Nat}{r p:Nat->Nat}{act m:Nat->Bool}(h:Piv N r p act):∀{n:Nat},n<=N->∀ i,i<N->act i=true->(xr r m n).testBit (p i)=(decide (i<n)&&m i)
 | 0,_,i,_,_=>by simp[xr]
 | n+1,hn,i,hi,ha=>by
  have ih:=zyd (m:=m) h (n:=n) qad i hi ha
  simp only[xr]
  by_cases e:i=n
  ·subst e
   have e1:decide (i<i+1)=true:=qc3
   have e2:decide (i<i)=false:=qc3
   split
   ·rename_i hm
    rw[Nat.testBit_xor,ih,h.own i hi ha,hm,e1,e2];rfl
   ·rename_i hm
    rw[ih,e1,e2]
    simp only[Bool.not_eq_true]at hm
    rw[hm];rfl
  ·have e1:decide (i<n+1)=decide (i<n):=by simp;omega
   rw[e1]
   split
   ·rw[Nat.testBit_xor,ih,h.other n i qad hi qad ha,Bool.xor_false]
   ·exact ih
theorem zus{N:Nat}{r p:Nat->Nat}{act:Nat->Bool}(h:Piv N r p act)(u:Nat):slv r p act u N=0 ↔ spB (revl r N) u=true:=by
 rw[slv_eq h u (Nat.le_refl _)]
 constructor
 ·intro e
  have:u=xr r (fun i=>act i&&u.testBit (p i)) N:=by
   have:=congrArg (· ^^^ xr r (fun i=>act i&&u.testBit (p i)) N) e
   simpa only[zau,Nat.zero_xor] using this
  rw[this];exact zr8 N
 ·intro e
  obtain⟨m,rfl⟩:=zlj e
  have:xr r (fun i=>act i&&(xr r m N).testBit (p i)) N=xr r m N:=by
   have key:∀ n,n<=N->xr r (fun i=>act i&&(xr r m N).testBit (p i)) n=xr r m n:=by
    intro n
    induction n with
    | zero=>intro _;rfl
    | succ n ih =>
     intro hn
     have ih:=ih qad
     simp only[xr]
     rw[ih]
     by_cases ha:act n=true
     ·have h1:=zyd (m:=m) h (Nat.le_refl _) n qad ha
      have h2:decide (n<N)=true:=qbo
      simp only[h1,h2,ha,Bool.true_and]
     ·rw[h.zero n qad qb8]
      simp only[Nat.xor_zero,ite_self]
   exact key N (Nat.le_refl _)
  rw[this,Nat.xor_self]
end Go.Ma
namespace Go.Ma
def pos(c:Nat):Nat:=if c%2=0 then c / 2 else 12+c / 2
def cb(v c:Nat):Bool:=v.testBit (pos c)
theorem cb_xor(a b c:Nat):cb (a^^^b) c=(cb a c != cb b c):=by
 unfold cb;rw[Nat.testBit_xor]
structure RR (n c a:Nat) (R pc:Nat->Nat):Prop where
 an:a<=n
 lt:∀ j,j<a->pc j<c
 mono:∀ i j,i<j->j<a->pc i<pc j
 own:∀ j,j<a->cb (R j) (pc j)=true
 other:∀ i j,i<n->j<a->i≠j->cb (R i) (pc j)=false
 lead:∀ j d,j<a->d<pc j->cb (R j) d=false
 zero:∀ j d,a<=j->j<n->d<c->cb (R j) d=false
theorem rr_zero(n:Nat)(R:Nat->Nat):RR n 0 0 R fun _=>0 :=
 ⟨Nat.zero_le _,by omega,by omega,by omega,by omega,by omega,by omega⟩
theorem rr_skip{n c a:Nat}{R pc:Nat->Nat}(h:RR n c a R pc)(hz:∀ j,a<=j->j<n->cb (R j) c=false):RR n (c+1) a R pc :=
 ⟨h.an,fun j hj=>by have:=h.lt j hj;omega,h.mono,h.own,h.other,h.lead,fun j d h1 h2 h3=>by
  by_cases e:d=c
  ·subst e;exact hz j h1 h2
  ·exact h.zero j d h1 h2 qad⟩
def swp{α:Type}(f:Nat->α)(a b:Nat):Nat->α:=fun j=>if j=a then f b else if j=b then f a else f j
def clr(R:Nat->Nat)(a c:Nat):Nat->Nat:=fun j=>if j≠a/\cb (R j) c=true then R j^^^R a else R j
theorem zsl{α:Type}{f:Nat->α}{a b n j:Nat}(ha:a<n)(hb:b<n)(hj:j<n):∃ i,i<n/\swp f a b j=f i/\(a<=b->a<=j->a<=i)/\(j<a->j<b->i=j):=by
 unfold swp
 split
 ·exact⟨b,hb,rfl,fun h _=>h,by omega⟩
 ·split
  ·exact⟨a,ha,rfl,fun _ _=>Nat.le_refl _,by omega⟩
  ·exact⟨j,hj,rfl,fun _ h=>h,fun _ _=>rfl⟩
theorem rr_swap{n c a f:Nat}{R pc:Nat->Nat}(h:RR n c a R pc)(h1:a<=f)(h2:f<n):RR n c a (swp R a f) pc:=by
 have low:∀ j,j<a->swp R a f j=R j:=fun j hj=>by
  unfold swp;rw[if_neg qad,if_neg qad]
 refine⟨h.an,h.lt,h.mono,fun j hj=>by rw[low j hj];exact h.own j hj,fun i j hi hj hij=>?_,fun j d hj hd=>by rw[low j hj];exact h.lead j d hj hd,fun j d q1 q2 q3=>?_⟩
 ·obtain⟨k,k1,k2,k3,k4⟩:=zsl (f:=R) (show a<n by omega) h2 hi
  rw[k2]
  refine h.other k j k1 hj fun e=>?_
  subst e
  by_cases q:a<=i
  ·have:=k3 h1 q;omega
  ·have:=k4 qad qad;omega
 ·obtain⟨k,k1,k2,k3,k4⟩:=zsl (f:=R) (show a<n by omega) h2 q2
  rw[k2]
  exact h.zero k d (k3 h1 q1) k1 q3
theorem rr_clr{n c a:Nat}{R pc:Nat->Nat}(h:RR n c a R pc)(han:a<n)(hb:cb (R a) c=true):RR n (c+1) (a+1) (clr R a c) fun j=>if j=a then c else pc j:=by
 have hpa:∀ d,d<c->cb (R a) d=false:=fun d hd=>h.zero a d (Nat.le_refl _) han hd
 have same:∀ j d,d<c->cb (clr R a c j) d=cb (R j) d:=fun j d hd=>by
  unfold clr
  split
  ·rw[cb_xor,hpa d hd];simp
  ·rfl
 have ata:clr R a c a=R a:=by unfold clr;rw[if_neg qc3]
 have atc:∀ j,j≠a->cb (clr R a c j) c=false:=fun j hj=>by
  unfold clr
  split
  ·rename_i q;rw[cb_xor,hb,q.2];rfl
  ·rename_i q
   cases e:cb (R j) c with
   | false=>rfl
   | true=>exact absurd ⟨hj,e⟩ q
 refine⟨han,fun j hj=>?_,fun i j hij hj=>?_,fun j hj=>?_,fun i j hi hj hij=>?_,fun j d hj hd=>?_,fun j d q1 q2 q3=>?_⟩
 ·split
  ·exact qad
  ·have:=h.lt j qad;omega
 ·rw[if_neg qad]
  split
  ·exact h.lt i qad
  ·exact h.mono i j hij qad
 ·split
  ·rename_i e;rw[e,ata];exact hb
  ·rw[same j _ (h.lt j qad)];exact h.own j qad
 ·split
  ·rename_i e
   exact atc i qad
  ·rw[same i _ (h.lt j qad)];exact h.other i j hi qad hij
 ·try dsimp only at hd
  split at hd
  ·rename_i e;rw[e,ata];exact hpa d hd
  ·have:=h.lt j qad
   rw[same j d qad];exact h.lead j d qad hd
 ·by_cases e:d=c
  ·subst e;exact atc j qad
  ·rw[same j d qad];exact h.zero j d qad q2 qad
theorem rr_piv{n c a:Nat}{R pc:Nat->Nat}(h:RR n c a R pc)(hz:∀ j,j<n->(∀ d,d<c->cb (R j) d=false)->R j=0):Piv n R (fun i=>pos (pc i)) fun i=>decide (i<a) :=
 ⟨fun i _ ha=>h.own i qb8,fun i j hi hj hij ha=>h.other i j hi qb8 hij,fun i hi ha=>hz i hi fun d hd=>h.zero i d qb8 hi hd⟩
theorem pos_of{w j:Nat}(hw:w<=12)(h:j<w\/(12<=j/\j<12+w)):∃ c,c<2*w/\pos c=j:=by
 rcases h with h|h
 ·exact⟨2*j,by omega,by unfold pos;rw[if_pos qad];omega⟩
 ·exact⟨2*(j-12)+1,by omega,by unfold pos;rw[if_neg qad];omega⟩
theorem cb_zero{w v:Nat}(hw:w<=12)(hv:inV w v)(h:∀ d,d<2*w->cb v d=false):v=0:=by
 refine Nat.eq_of_testBit_eq fun j=>?_
 rw[Nat.zero_testBit]
 by_cases e:j<w\/(12<=j/\j<12+w)
 ·obtain⟨c,h1,h2⟩:=pos_of hw e
  rw[<- h2];exact h c h1
 ·exact zeo (U w) (zp2 qad) v hv
end Go.Ma
namespace Go.Ma
def cd(t:Bool)(m:Nat):Nat:=match t with
 | true=>m
 | false=>0
theorem zgi(s t:Bool)(m:Nat):cd (s != t) m=cd s m^^^cd t m:=by
 cases s<;>cases t<;>simp[cd]
theorem zhe{i:Nat}(h:i<12)(v:Nat):bt (2^i) v=false:=by
 unfold bt
 have e:(2^i) >>> 12=0:=by
  rw[Nat.shiftRight_eq_div_pow]
  exact Nat.div_eq_of_lt (Nat.pow_lt_pow_right qag qad)
 rw[e,Nat.zero_and,zfb]
theorem zft{i:Nat}(h:i<12)(v:Nat):bt (2^(12+i)) v=v.testBit i:=by
 unfold bt
 have e:(2^(12+i)) >>> 12=2^i:=by
  rw[Nat.shiftRight_eq_div_pow,Nat.pow_add,Nat.mul_comm,Nat.mul_div_cancel _ qag]
 rw[e,zkr h]
theorem zdx{i:Nat}(h:i<12)(v:Nat):bt v (2^i)=v.testBit (12+i):=by
 unfold bt
 rw[Nat.and_comm,zkr h,Nat.testBit_shiftRight]
theorem zi4{i:Nat}(v:Nat):bt v (2^(12+i))=false:=by
 unfold bt
 exact parF_hi qad _
theorem zew(t:Bool)(m v:Nat):bt (cd t m) v=(t&&bt m v):=by
 cases t<;>simp[cd,zt4]
theorem zgj(t:Bool)(m v:Nat):bt v (cd t m)=(t&&bt v m):=by
 cases t<;>simp[cd,zru]
theorem zhd(t:Bool)(m j:Nat):(cd t m).testBit j=(t&&m.testBit j):=by
 cases t<;>simp[cd]
def gL(k a b v:Nat):Nat:=match k with
 | 4=>v^^^cd (v.testBit a != v.testBit (12+a)) (2^a^^^2^(12+a))
 | 5=>v^^^cd (v.testBit a) (2^(12+a))
 | 6=>v^^^cd (v.testBit a) (2^(12+a))
 | 9=>v^^^(cd (v.testBit a) (2^b)^^^cd (v.testBit (12+b)) (2^(12+a)))
 | 10=>v^^^(cd (v.testBit a) (2^(12+b))^^^cd (v.testBit b) (2^(12+a)))
 | 11=>v^^^(cd (v.testBit a != v.testBit b) (2^a^^^2^b)^^^cd (v.testBit (12+a) != v.testBit (12+b)) (2^(12+a)^^^2^(12+b)))
 | _=>v
def gQ(k a b v:Nat):Nat:=match k with
 | 1=>2*(v.testBit (12+a)).toNat
 | 2=>2*(v.testBit a != v.testBit (12+a)).toNat
 | 3=>2*(v.testBit a).toNat
 | 4=>2*(v.testBit a&&v.testBit (12+a)).toNat
 | 5=>(v.testBit a).toNat
 | 6=>3*(v.testBit a).toNat
 | 10=>2*(v.testBit a&&v.testBit b).toNat
 | _=>0
def gE(k a b:Nat)(e:E):E:=((e.1+gQ k a b e.2)%4,gL k a b e.2)
def gOk(k a b:Nat):Prop:=(1<=k/\k<=6/\a<12)\/(9<=k/\k<=11/\a<12/\b<12/\a≠b)
theorem zj8{k a b:Nat}(h:gOk k a b)(e f:E):gE k a b (emul e f)=emul (gE k a b e) (gE k a b f):=by
 obtain⟨s,v⟩:=e
 obtain⟨t,u⟩:=f
 rcases h with⟨h1,h2,ha⟩|⟨h1,h2,ha,hb,hab⟩
 ·have hk:k=1\/k=2\/k=3\/k=4\/k=5\/k=6:=by omega
  rcases hk with rfl|rfl|rfl|rfl|rfl|rfl
  ·refine zc6 ?_ rfl
   simp only[gE,gQ,gL,emul,Nat.testBit_xor]
   cases v.testBit (12+a)<;>cases u.testBit (12+a)<;>simp<;>omega
  ·refine zc6 ?_ rfl
   simp only[gE,gQ,gL,emul,Nat.testBit_xor]
   cases v.testBit (12+a)<;>cases u.testBit (12+a)<;>cases v.testBit a<;>cases u.testBit a<;>simp<;>omega
  ·refine zc6 ?_ rfl
   simp only[gE,gQ,gL,emul,Nat.testBit_xor]
   cases v.testBit a<;>cases u.testBit a<;>simp<;>omega
  ·refine zc6 ?_ ?_
   ·have hq1:decide (12+a=a)=false:=decide_eq_false qad
    have hq2:decide (a=12+a)=false:=decide_eq_false qad
    simp only[gE,gQ,gL,emul,Nat.testBit_xor,zbq,zbp,zew,zgj,zhe ha,zft ha,zdx ha,zi4,Nat.testBit_two_pow,zhd,hq1,hq2]
    cases v.testBit (12+a)<;>cases u.testBit (12+a)<;>cases v.testBit a<;>cases u.testBit a<;>cases bt v u<;>simp<;>omega
   ·simp only[gE,gL,emul,Nat.testBit_xor]
    rw[show((v.testBit a != u.testBit a) != (v.testBit (12+a) != u.testBit (12+a)))=((v.testBit a != v.testBit (12+a)) != (u.testBit a != u.testBit (12+a))) by
     cases v.testBit (12+a)<;>cases u.testBit (12+a)<;>cases v.testBit a<;>cases u.testBit a<;>rfl,zgi]
    ac_rfl
  ·exact qgj
  ·exact qgj
 ·have hk:k=9\/k=10\/k=11:=by omega
  have hba:¬ b=a:=fun e=>hab e.symm
  have hd1:decide (b=a)=false:=decide_eq_false hba
  have hd2:decide (a=b)=false:=decide_eq_false hab
  have q1:decide (a=12+b)=false:=decide_eq_false qad
  have q2:decide (b=12+a)=false:=decide_eq_false qad
  have q3:decide (a=12+a)=false:=decide_eq_false qad
  have q4:decide (b=12+b)=false:=decide_eq_false qad
  have q5:decide (12+a=b)=false:=decide_eq_false qad
  have q6:decide (12+b=a)=false:=decide_eq_false qad
  have q7:decide (12+a=a)=false:=decide_eq_false qad
  have q8:decide (12+b=b)=false:=decide_eq_false qad
  have q9:decide (12+a=12+b)=false:=decide_eq_false qad
  have q0:decide (12+b=12+a)=false:=decide_eq_false qad
  rcases hk with rfl|rfl|rfl
  ·refine zc6 ?_ ?_
   ·simp only[gE,gQ,gL,emul,Nat.testBit_xor,zbq,zbp,zew,zgj,zhe ha,zft ha,zdx ha,zhe hb,zft hb,zdx hb,zi4,Nat.testBit_two_pow,zhd,hd1,hd2,q1,q2,q3,q4,q5,q6,q7,q8,q9,q0]
    cases v.testBit (12+b)<;>cases u.testBit a<;>cases bt v u<;>simp<;>omega
   ·simp only[gE,gL,emul,Nat.testBit_xor,zgi]
    ac_rfl
  ·refine zc6 ?_ ?_
   ·simp only[gE,gQ,gL,emul,Nat.testBit_xor,zbq,zbp,zew,zgj,zhe ha,zft ha,zdx ha,zhe hb,zft hb,zdx hb,zi4,Nat.testBit_two_pow,zhd,hd1,hd2,q1,q2,q3,q4,q5,q6,q7,q8,q9,q0]
    cases v.testBit a<;>cases u.testBit a<;>cases v.testBit b<;>cases u.testBit b<;>cases bt v u<;>simp<;>omega
   ·simp only[gE,gL,emul,Nat.testBit_xor,zgi]
    ac_rfl
  ·refine zc6 ?_ ?_
   ·simp only[gE,gQ,gL,emul,Nat.testBit_xor,zbq,zbp,zew,zgj,zhe ha,zft ha,zdx ha,zhe hb,zft hb,zdx hb,zi4,Nat.testBit_two_pow,zhd,hd1,hd2,q1,q2,q3,q4,q5,q6,q7,q8,q9,q0]
    cases v.testBit (12+a)<;>cases v.testBit (12+b)<;>cases u.testBit a<;>cases u.testBit b<;>cases bt v u<;>simp<;>omega
   ·simp only[gE,gL,emul,Nat.testBit_xor]
    rw[show((v.testBit a != u.testBit a) != (v.testBit b != u.testBit b))=((v.testBit a != v.testBit b) != (u.testBit a != u.testBit b)) by
     cases v.testBit b<;>cases u.testBit b<;>cases v.testBit a<;>cases u.testBit a<;>rfl,
     show((v.testBit (12+a) != u.testBit (12+a)) != (v.testBit (12+b) != u.testBit (12+b)))=((v.testBit (12+a) != v.testBit (12+b)) != (u.testBit (12+a) != u.testBit (12+b))) by
     cases v.testBit (12+b)<;>cases u.testBit (12+b)<;>cases v.testBit (12+a)<;>cases u.testBit (12+a)<;>rfl,zgi (v.testBit a != v.testBit b),zgi (v.testBit (12+a) != v.testBit (12+b))]
    ac_rfl
theorem zxw(k a b:Nat)(e:E):(gE k a b e).1<4:=Nat.mod_lt _ qag
def eL(n:Nat)(x z:Bool):E:=((x&&z).toNat,cd x (2^n)^^^cd z (2^(12+n)))
theorem eL_x{n:Nat}(x z:Bool)(j:Nat)(hj:j<12):(eL n x z).2.testBit j=(x&&decide (n=j)):=by
 simp only[eL,Nat.testBit_xor,zhd,Nat.testBit_two_pow]
 rw[show decide (12+n=j)=false from decide_eq_false qad];simp
theorem eL_z{n:Nat}(x z:Bool)(j:Nat)(hn:n<12):(eL n x z).2.testBit (12+j)=(z&&decide (n=j)):=by
 simp only[eL,Nat.testBit_xor,zhd,Nat.testBit_two_pow]
 rw[show decide (n=12+j)=false from decide_eq_false qad,show decide (12+n=12+j)=decide (n=j) from decide_eq_decide.2 qad];simp
theorem gE_fix{k a b:Nat}(h:gOk k a b){e:E}(hlt:e.1<4)(ex:e.2.testBit a=false)(ez:e.2.testBit (12+a)=false)(hb:9<=k->e.2.testBit b=false/\e.2.testBit (12+b)=false):gE k a b e=e:=by
 obtain⟨s,v⟩:=e
 dsimp only at hlt ex ez hb
 rcases h with⟨h1,h2,ha⟩|⟨h1,h2,ha,hb',hab⟩
 ·have hk:k=1\/k=2\/k=3\/k=4\/k=5\/k=6:=by omega
  rcases hk with rfl|rfl|rfl|rfl|rfl|rfl<;>simp[gE,gQ,gL,ex,ez,cd]<;>omega
 ·obtain⟨fx,fz⟩:=hb h1
  have hk:k=9\/k=10\/k=11:=qad
  rcases hk with rfl|rfl|rfl<;>simp[gE,gQ,gL,ex,ez,fx,fz,cd]<;>omega
theorem eL_lt(n:Nat)(x z:Bool):(eL n x z).1<4:=by
 show(x&&z).toNat<4
 cases x<;>cases z<;>decide
theorem gE_other{k a b n:Nat}(h:gOk k a b)(hn:n<12)(hna:n≠a)(hnb:9<=k->n≠b)(x z:Bool):gE k a b (eL n x z)=eL n x z:=by
 have hak:a<12/\(9<=k->b<12):=by unfold gOk at h;omega
 refine gE_fix h (eL_lt n x z) ?_ ?_ fun hk=>⟨?_,?_⟩
 ·rw[eL_x _ _ _ hak.1,decide_eq_false hna,Bool.and_false]
 ·rw[eL_z _ _ _ hn,decide_eq_false hna,Bool.and_false]
 ·rw[eL_x _ _ _ (hak.2 hk),decide_eq_false (hnb hk),Bool.and_false]
 ·rw[eL_z _ _ _ hn,decide_eq_false (hnb hk),Bool.and_false]
def esh(k:Nat)(e:E):E:=((e.1+k)%4,e.2)
theorem esh_4{k:Nat}(h:k%4=0){e:E}(he:e.1<4):esh k e=e:=by
 refine zc6 ?_ rfl
 simp only[esh];omega
theorem gE_esh(k a b j:Nat)(e:E):gE k a b (esh j e)=esh j (gE k a b e):=by
 refine zc6 ?_ rfl
 simp only[gE,esh];omega
theorem eL_mul{n:Nat}(hn:n<12)(x z:Bool):eL n x z=esh (x&&z).toNat (emul (eL n x false) (eL n false z)):=by
 refine zc6 ?_ ?_
 ·simp only[eL,esh,emul]
  cases x<;>cases z<;>simp[cd,zt4,zru,zhe hn]
 ·simp[eL,esh,emul,cd]
theorem xorl(p q:Nat):p^^^(p^^^q)=q:=qe9
theorem xorr(p q:Nat):p^^^(q^^^p)=q:=by rw[Nat.xor_comm q p,xorl]
def tb1(k:Nat)(x z:Bool):Nat×Bool×Bool:=match k with
 | 1=>(2*z.toNat,x,z)
 | 2=>(2*(x != z).toNat,x,z)
 | 3=>(2*x.toNat,x,z)
 | 4=>(2*(x&&z).toNat,z,x)
 | 5=>(2*(x&&z).toNat,x,z != x)
 | _=>(2*(x && !z).toNat,x,z != x)
theorem gE_tab1{k a:Nat}(h1:1<=k)(h2:k<=6)(ha:a<12)(b:Nat)(x z:Bool):gE k a b (eL a x z)=esh (tb1 k x z).1 (eL a (tb1 k x z).2.1 (tb1 k x z).2.2):=by
 have ex:(eL a x z).2.testBit a=x:=by rw[eL_x x z a ha];simp
 have ez:(eL a x z).2.testBit (12+a)=z:=by rw[eL_z x z a ha];simp
 have hk:k=1\/k=2\/k=3\/k=4\/k=5\/k=6:=qad
 refine zc6 ?_ ?_
 ·rcases hk with rfl|rfl|rfl|rfl|rfl|rfl<;>simp only[gE,gQ,ex,ez,esh,tb1]<;>simp only[eL]<;>cases x<;>cases z<;>rfl
 ·rcases hk with rfl|rfl|rfl|rfl|rfl|rfl<;>simp only[gE,gL,ex,ez,esh,tb1]<;>cases x<;>cases z<;>simp[eL,cd,Nat.xor_assoc,xorl,xorr]
section
variable{a b:Nat}
theorem eX(n:Nat):eL n true false=(0,2^n):=by simp[eL,cd]
theorem eZ(n:Nat):eL n false true=(0,2^(12+n)):=by simp[eL,cd]
theorem gE_tab2(ha:a<12)(hb:b<12)(hab:a≠b) :
  gE 9 a b (eL a true false)=emul (eL a true false) (eL b true false)/\gE 9 a b (eL a false true)=eL a false true ∧
  gE 9 a b (eL b true false)=eL b true false/\gE 9 a b (eL b false true)=emul (eL a false true) (eL b false true) ∧
  gE 10 a b (eL a true false)=emul (eL a true false) (eL b false true)/\gE 10 a b (eL a false true)=eL a false true ∧
  gE 10 a b (eL b true false)=emul (eL b true false) (eL a false true)/\gE 10 a b (eL b false true)=eL b false true ∧
  gE 11 a b (eL a true false)=eL b true false/\gE 11 a b (eL a false true)=eL b false true ∧
  gE 11 a b (eL b true false)=eL a true false/\gE 11 a b (eL b false true)=eL a false true:=by
 have hba:¬ b=a:=fun e=>hab e.symm
 have q1:decide (a=12+b)=false:=decide_eq_false qad
 have q2:decide (b=12+a)=false:=decide_eq_false qad
 have q3:decide (a=12+a)=false:=decide_eq_false qad
 have q4:decide (b=12+b)=false:=decide_eq_false qad
 have q5:decide (12+a=b)=false:=decide_eq_false qad
 have q6:decide (12+b=a)=false:=decide_eq_false qad
 have q7:decide (12+a=a)=false:=decide_eq_false qad
 have q8:decide (12+b=b)=false:=decide_eq_false qad
 have q9:decide (12+a=12+b)=false:=decide_eq_false qad
 have q0:decide (12+b=12+a)=false:=decide_eq_false qad
 have d1:decide (a=b)=false:=decide_eq_false hab
 have d2:decide (b=a)=false:=decide_eq_false hba
 refine⟨?_,?_,?_,?_,?_,?_,?_,?_,?_,?_,?_,?_⟩
 all_goals
  refine zc6 ?_ ?_
  ·simp only[gE,gQ,emul,eX,eZ,zhe ha,zhe hb,zi4,Nat.testBit_two_pow,q1,q2,q3,q4,q5,q6,q7,q8,q9,q0,d1,d2]
   try simp
  ·simp only[gE,gL,emul,eX,eZ,Nat.testBit_two_pow,q1,q2,q3,q4,q5,q6,q7,q8,q9,q0,d1,d2]
   try simp[cd,xorl,xorr]
   try exact Nat.xor_comm _ _
end
def eclr(a:Nat)(e:E):E:=((e.1+3*(e.2.testBit a&&e.2.testBit (12+a)).toNat)%4,e.2^^^(cd (e.2.testBit a) (2^a)^^^cd (e.2.testBit (12+a)) (2^(12+a))))
theorem eclr_mul{a:Nat}(ha:a<12){e:E}(h:e.1<4):emul (eclr a e) (eL a (e.2.testBit a) (e.2.testBit (12+a)))=e:=by
 obtain⟨s,v⟩:=e
 have q1:decide (12+a=a)=false:=decide_eq_false qad
 have q2:decide (a=12+a)=false:=decide_eq_false qad
 dsimp only at h⊢
 refine zc6 ?_ ?_
 ·simp only[eclr,emul,eL,zbp,zgj,zdx ha,zi4,Nat.testBit_two_pow,Nat.testBit_xor,zhd,q1,q2]
  cases v.testBit a<;>cases v.testBit (12+a)<;>simp<;>omega
 ·simp only[eclr,emul,eL]
  rw[Nat.xor_assoc,Nat.xor_self,Nat.xor_zero]
theorem eclr_lt(a:Nat)(e:E):(eclr a e).1<4:=Nat.mod_lt _ qag
end Go.Ma
namespace Go.Ma
theorem gL_xor{k a b:Nat}(h:gOk k a b)(u v:Nat):gL k a b (u^^^v)=gL k a b u^^^gL k a b v:=by
 have:=congrArg Prod.snd (zj8 h (0,u) (0,v))
 exact this
theorem gL_zero{k a b:Nat}(h:gOk k a b):gL k a b 0=0:=by
 have:=gL_xor h 0 0
 rw[Nat.xor_self,Nat.xor_self]at this
 exact this
theorem gE_one{k a b:Nat}(h:gOk k a b):gE k a b e1=e1:=by
 refine zc6 ?_ (gL_zero h)
 rcases h with⟨h1,h2,_⟩|⟨h1,h2,_⟩
 ·have hk:k=1\/k=2\/k=3\/k=4\/k=5\/k=6:=by omega
  rcases hk with rfl|rfl|rfl|rfl|rfl|rfl<;>simp[gE,gQ,e1]
 ·have hk:k=9\/k=10\/k=11:=by omega
  rcases hk with rfl|rfl|rfl<;>simp[gE,gQ,e1]
theorem ecom_emul(e f:E):ecom e f ↔ emul e f=emul f e:=by
 refine⟨zcc,fun h=>?_⟩
 have h2:=congrArg Prod.fst h
 simp only[emul]at h2
 unfold ecom
 cases e1:bt e.2 f.2<;>cases e2:bt f.2 e.2<;>rw[e1,e2]at h2<;>simp at h2⊢<;>omega
theorem gE_neg(k a b:Nat)(e:E):gE k a b (eneg e)=eneg (gE k a b e):=by
 refine zc6 ?_ rfl
 simp only[gE,eneg]
 omega
theorem ecom_not{e f:E}(h:¬ ecom e f):emul e f=eneg (emul f e):=by
 refine zc6 ?_ (by simp[emul,eneg,Nat.xor_comm])
 unfold ecom at h
 simp only[emul,eneg]
 cases e1:bt e.2 f.2<;>cases e2:bt f.2 e.2<;>rw[e1,e2]at h<;>simp at h⊢<;>omega
theorem gE_com{k a b:Nat}(h:gOk k a b)(e f:E):ecom (gE k a b e) (gE k a b f) ↔ ecom e f:=by
 constructor
 ·intro q
  refine Classical.byContradiction fun n=>?_
  have h1:=congrArg (gE k a b) (ecom_not n)
  rw[gE_neg,zj8 h,zj8 h,zcc q]at h1
  exact ztt (emul_lt _ _) h1.symm
 ·intro q
  rw[ecom_emul,<- zj8 h,<- zj8 h,zcc q]
theorem gL_cm{k a b:Nat}(h:gOk k a b)(u v:Nat):cm (gL k a b u) (gL k a b v)=cm u v:=by
 have:=gE_com h (0,u) (0,v)
 rw[cm_ecom,cm_ecom]at this
 have e:cm (gL k a b u) (gL k a b v)=false ↔ cm u v=false:=this
 cases q:cm u v<;>rw[q]at e<;>simp at e<;>exact e
theorem gL_inj{k a b:Nat}(h:gOk k a b){u:Nat}(hu:u<2^24)(e:gL k a b u=0):u=0:=by
 refine Nat.eq_of_testBit_eq fun j=>?_
 rw[Nat.zero_testBit]
 rcases Nat.lt_or_ge j 24 with hj|hj
 ·rw[<- zt2 hj,<- gL_cm h,e,cm_0]
 ·exact Nat.testBit_lt_two_pow (Nat.lt_of_lt_of_le hu (Nat.pow_le_pow_right qag hj))
theorem sp_gL{k a b:Nat}(h:gOk k a b):∀(l:List Nat),(∀ c,c∈l->c<2^24)->∀ v,v<2^24->spB (l.map (gL k a b)) (gL k a b v)=spB l v
 | [],_,v,hv=>by
  show(gL k a b v==0)=(v==0)
  rw[Bool.eq_iff_iff]
  simp only[beq_iff_eq]
  exact⟨gL_inj h hv,fun e=>by rw[e,gL_zero h]⟩
 | c::l,hl,v,hv=>by
  have ih:=sp_gL h l (fun d hd=>hl d (List.mem_cons_of_mem _ hd))
  simp only[List.map_cons,spB]
  rw[<- gL_xor h,ih v hv,ih _ (Nat.xor_lt_two_pow hv (hl c qc3))]
theorem rk_gL{k a b:Nat}(h:gOk k a b):∀(l:List Nat),(∀ c,c∈l->c<2^24)->rk (l.map (gL k a b))=rk l
 | [],_=>rfl
 | c::l,hl=>by
  have hl':=fun d hd=>hl d (List.mem_cons_of_mem c hd)
  simp only[List.map_cons,rk]
  rw[rk_gL h l hl',sp_gL h l hl' c (hl c qc3)]
theorem gE_ok{k a b:Nat}(h:gOk k a b){e:E}(he:eok e):eok (gE k a b e):=by
 have h1:=zj8 h e e
 rw[zcm he,gE_one h]at h1
 have h2:=congrArg Prod.fst h1
 refine⟨zxw _ _ _ _,?_⟩
 have h3:0=((gE k a b e).1+(gE k a b e).1+2*(bt (gE k a b e).2 (gE k a b e).2).toNat)%4:=h2
 omega
theorem ztr{k a b w:Nat}(h:gOk k a b)(ha:a<w)(hb:9<=k->b<w){v:Nat}{j:Nat}(hj:(w<=j/\j<12)\/12+w<=j)(hv:v.testBit j=false):(gL k a b v).testBit j=false:=by
 have q1:decide (a=j)=false:=decide_eq_false qad
 have q2:decide (12+a=j)=false:=decide_eq_false qad
 rcases h with⟨h1,h2,_⟩|⟨h1,h2,_⟩
 ·have hk:k=1\/k=2\/k=3\/k=4\/k=5\/k=6:=by omega
  rcases hk with rfl|rfl|rfl|rfl|rfl|rfl<;>simp only[gL,Nat.testBit_xor,zhd,Nat.testBit_two_pow,hv,q1,q2]<;>simp
 ·have hb:=hb h1
  have q3:decide (b=j)=false:=decide_eq_false qad
  have q4:decide (12+b=j)=false:=decide_eq_false qad
  have hk:k=9\/k=10\/k=11:=qad
  rcases hk with rfl|rfl|rfl<;>simp only[gL,Nat.testBit_xor,zhd,Nat.testBit_two_pow,hv,q1,q2,q3,q4]<;>simp
theorem gE_inV{k a b w:Nat}(h:gOk k a b)(ha:a<w)(hb:9<=k->b<w){v:Nat}(hv:inV w v):inV w (gL k a b v) :=
 zky _ fun j hj=>ztr h ha hb hj (zeo _ (zp2 hj) v hv)
theorem gE_sta{k a b w:Nat}(hw:w<=12)(h:gOk k a b)(ha:a<w)(hb:9<=k->b<w){L:List E}(hs:Sta w L):Sta w (L.map (gE k a b)):=by
 refine⟨⟨?_,?_⟩,?_,by rw[List.length_map,hs.len],?_⟩
 ·intro x hx
  obtain⟨e,he,rfl⟩:=List.mem_map.1 hx
  exact gE_ok h (hs.good.ok e he)
 ·intro x y hx hy
  obtain⟨e,he,rfl⟩:=List.mem_map.1 hx
  obtain⟨f,hf,rfl⟩:=List.mem_map.1 hy
  exact(gE_com h e f).2 (hs.good.com e f he hf)
 ·have e:(L.map (gE k a b)).map (·.2)=(L.map (·.2)).map (gL k a b):=by
   rw[List.map_map,List.map_map];rfl
  have hi:=hs.ind
  unfold Ind at hi⊢
  have hlt:∀ c,c∈L.map (·.2)->c<2^24:=fun c hc=>by
   obtain⟨f,hf,rfl⟩:=List.mem_map.1 hc
   exact zqj _ (U_lt hw) _ (hs.inv f hf)
  rw[e,rk_gL h _ hlt,hi,List.length_map,List.length_map,List.length_map]
 ·intro x hx
  obtain⟨e,he,rfl⟩:=List.mem_map.1 hx
  exact gE_inV h ha hb (hs.inv e he)
end Go.Ma
namespace Go.Ma
variable{n c:Nat}{R R' pc pc':Nat->Nat}
theorem rr_full(h:RR n c n R pc):Piv n R (fun i=>pos (pc i)) fun i=>decide (i<n) :=
 ⟨fun i _ ha=>h.own i qb8,fun i j hi hj hij ha=>h.other i j hi qb8 hij,fun i hi ha=>absurd hi qb8⟩
theorem rr_bit(h:RR n c n R pc)(m:Nat->Bool){i:Nat}(hi:i<n):cb (xr R m n) (pc i)=m i:=by
 have:=zyd (m:=m) (rr_full h) (Nat.le_refl n) i hi qd7
 unfold cb
 rw[this,decide_eq_true hi,Bool.true_and]
theorem cb_xr0{v:Nat->Nat}{m:Nat->Bool}{d:Nat}:∀{k:Nat},(∀ i,i<k->m i=true->cb (v i) d=false)->cb (xr v m k) d=false
 | 0,_=>by unfold cb xr;exact Nat.zero_testBit _
 | k+1,h=>by
  simp only[xr]
  have ih:=cb_xr0 (v:=v) (m:=m) (d:=d) (k:=k) fun i hi=>h i qad
  split
  ·rename_i hm
   rw[cb_xor,ih,h k qad hm];rfl
  ·exact ih
theorem znv{m:Nat->Bool}:∀{k:Nat},(∃ i,i<k/\m i=true)->∃ j,j<k/\m j=true /\ ∀ i,i<j->m i=false
 | 0,h=>by obtain⟨i,hi,_⟩:=h;omega
 | k+1,h=>by
  by_cases q:∃ i,i<k/\m i=true
  ·obtain⟨j,h1,h2,h3⟩:=znv q
   exact⟨j,by omega,h2,h3⟩
  ·obtain⟨i,hi,hm⟩:=h
   have hik:i=k:=by
    refine Classical.byContradiction fun hn=>q ⟨i,by omega,hm⟩
   subst hik
   exact⟨i,by omega,hm,fun j hj=>by
    cases e:m j with
    | false=>rfl
    | true=>exact absurd ⟨j,hj,e⟩ q⟩
theorem rr_lead(h:RR n c n R pc){m:Nat->Bool}{j:Nat}(hm:∀ i,i<j->m i=false)(hj:j<n){d:Nat}(hd:d<pc j):cb (xr R m n) d=false:=by
 refine cb_xr0 fun i hi hmi=>h.lead i d hi ?_
 rcases Nat.lt_trichotomy i j with q|q|q
 ·rw[hm i q]at hmi;cases hmi
 ·subst q;exact hd
 ·exact Nat.lt_trans hd (h.mono j i q hi)
theorem rr_in(h:RR n c n R pc)(h':RR n c n R' pc')(hs:∀ v,spB (revl R n) v=true->spB (revl R' n) v=true){j:Nat}(hj:j<n):∃ k,k<n/\pc j=pc' k:=by
 obtain⟨m,hm⟩:=zlj (hs (R j) (zb3 _ _ (revl_mem.2 ⟨j,hj,rfl⟩)))
 have hex:∃ i,i<n/\m i=true:=by
  refine Classical.byContradiction fun hn=>?_
  have h0:xr R' m n=0:=zk9 fun i hi=>by
   cases e:m i with
   | false=>rfl
   | true=>exact absurd ⟨i,hi,e⟩ hn
  have:=h.own j hj
  rw[<- hm,h0]at this
  unfold cb at this
  rw[Nat.zero_testBit]at this;cases this
 obtain⟨k,hk,k1,k2⟩:=znv hex
 have a1:cb (R j) (pc' k)=true:=by rw[<- hm,rr_bit h' m hk,k1]
 have a2:∀ d,d<pc' k->cb (R j) d=false:=fun d hd=>by rw[<- hm];exact rr_lead h' k2 hk hd
 refine⟨k,hk,?_⟩
 rcases Nat.lt_trichotomy (pc j) (pc' k) with q|q|q
 ·have:=a2 _ q
  rw[h.own j hj]at this;cases this
 ·exact q
 ·have:=h.lead j _ hj q
  rw[a1]at this;cases this
theorem rr_pc(h:RR n c n R pc)(h':RR n c n R' pc')(hs:∀ v,spB (revl R n) v=spB (revl R' n) v):∀ j,j<n->pc j=pc' j:=by
 intro j
 induction j using Nat.strongRecOn with
 | _ j ih =>
  intro hj
  obtain⟨k,hk,e1⟩:=rr_in h h' (fun v hv=>by rw[<- hs];exact hv) hj
  obtain⟨k',hk',e2⟩:=rr_in h' h (fun v hv=>by rw[hs];exact hv) hj
  have g1:j<=k:=by
   refine Classical.byContradiction fun q=>?_
   have:=ih k qad hk
   have:=h.mono k j qad hj
   omega
  have g2:j<=k':=by
   refine Classical.byContradiction fun q=>?_
   have:=ih k' qad hk'
   have:=h'.mono k' j qad hj
   omega
  have m1:pc' j<=pc' k:=by
   rcases Nat.lt_or_ge j k with q|q
   ·exact Nat.le_of_lt (h'.mono j k q hk)
   ·rw[show j=k by omega];exact Nat.le_refl _
  have m2:pc j<=pc k':=by
   rcases Nat.lt_or_ge j k' with q|q
   ·exact Nat.le_of_lt (h.mono j k' q hk')
   ·rw[show j=k' by omega];exact Nat.le_refl _
  omega
theorem rr_uniq(h:RR n c n R pc)(h':RR n c n R' pc')(hs:∀ v,spB (revl R n) v=spB (revl R' n) v){j:Nat}(hj:j<n):R j=R' j:=by
 have hp:=rr_pc h h' hs
 obtain⟨m,hm⟩:=zlj ((hs (R j)).symm.trans (zb3 _ _ (revl_mem.2 ⟨j,hj,rfl⟩)))
 rw[<- hm]
 have he:∀ i,i<n->m i=(i==j):=fun i hi=>by
  rw[<- rr_bit h' m hi,hm,<- hp i hi]
  by_cases e:i=j
  ·subst e;rw[h.own i hi];simp
  ·rw[h.other j i hj hi fun q=>e q.symm];simp[e]
 rw[zh8 (fun _ _=>rfl) he,zua hj]
end Go.Ma
namespace Go.Tz
open Go Go.AL Go.Proofs
abbrev tab:Tab:=[
 (3,⟨false,1,8,.int .i64 0,.int .i64⟩),
 (4,⟨false,1,1,.bool false,.bool⟩),
 (5,⟨false,1,1,.int .u8 0,.int .u8⟩),
 (22,⟨false,1,24,.sl [] true,.sl 69⟩),
 (24,⟨false,2,32,.agg [.int .i64 0,.sl [] true],.st [(0,1,false),(1,1,false)]⟩),
 (27,⟨false,1,8,.int .i64 0,.int .i64⟩),
 (29,⟨false,2,32,.agg [.int .i64 0,.sl [] true],.st [(0,1,false),(1,1,false)]⟩),
 (31,⟨false,1,24,.sl [] true,.sl 33⟩),
 (33,⟨true,5,40,.agg [.int .i64 0,.int .i64 0,.int .i64 0,.int .i64 0,.int .i64 0],.st [(0,1,false),(1,1,false),(2,1,false),(3,1,false),(4,1,false)]⟩),
 (42,⟨false,1,24,.sl [] true,.sl 3⟩),
 (63,⟨false,1,24,.sl [] true,.sl 67⟩),
 (65,⟨false,3,40,.agg [.int .i64 0,.int .i64 0,.sl [] true],.st [(0,1,false),(1,1,false),(2,1,false)]⟩),
 (67,⟨false,4,48,.agg [.int .i64 0,.sl [] true,.int .i64 0,.int .i64 0],.st [(0,1,false),(1,1,false),(2,1,false),(3,1,false)]⟩),
 (69,⟨true,4,32,.agg [.int .i64 0,.int .i64 0,.int .i64 0,.int .i64 0],.st [(0,1,false),(1,1,false),(2,1,false),(3,1,false)]⟩),
 (73,⟨false,1,8,.nilf,.oth⟩),
 (82,⟨false,1,8,.nilf,.oth⟩),
 (96,⟨false,1,8,.nilp,.oth⟩),
 (97,⟨false,1,24,.sl [] true,.sl 96⟩),
 (99,⟨false,1,24,.sl [] true,.sl 42⟩),
 (101,⟨false,1,8,.int .u64 0,.int .u64⟩),
 (102,⟨false,1,24,.sl [] true,.sl 5⟩),
 (103,⟨false,1,8,.nilp,.oth⟩),
 (105,⟨false,1,8,.nilf,.oth⟩),
 (117,⟨false,1,8,.nilf,.oth⟩),
 (133,⟨false,3,56,.agg [.sl [] true,.int .i64 0,.sl [] true],.st [(0,1,false),(1,1,false),(2,1,false)]⟩),
 (144,⟨false,1,8,.nilp,.oth⟩),
 (146,⟨false,1,24,.sl [] true,.sl 230⟩),
 (151,⟨false,1,24,.sl [] true,.sl 241⟩),
 (160,⟨false,1,8,.nilf,.oth⟩),
 (162,⟨false,3,40,.agg [.int .i64 0,.sl [] true,.nilf],.st [(0,2,true),(2,1,false)]⟩),
 (164,⟨false,1,24,.sl [] true,.sl 166⟩),
 (166,⟨true,2,16,.agg [.int .i64 0,.int .i64 0],.st [(0,1,false),(1,1,false)]⟩),
 (170,⟨false,1,8,.nilf,.oth⟩),
 (172,⟨false,4,32,.agg [.int .i64 0,.int .i64 0,.int .i64 0,.int .i64 0],.st [(0,4,true)]⟩),
 (175,⟨false,1,8,.nilf,.oth⟩),
 (185,⟨false,1,4,.int .u32 0,.int .u32⟩),
 (187,⟨false,3,40,.agg [.sl [] true,.int .i64 0,.int .u32 0],.st [(0,1,false),(1,1,false),(2,1,false)]⟩),
 (195,⟨false,6,48,.agg [.int .i64 0,.int .i64 0,.int .i64 0,.int .i64 0,.int .i64 0,.nilf],.st [(0,5,true),(5,1,false)]⟩),
 (199,⟨true,4,32,.agg [.int .i64 0,.int .i64 0,.int .i64 0,.int .i64 0],.arr 4 3⟩),
 (203,⟨false,1,8,.nilf,.oth⟩),
 (205,⟨false,5,40,.agg [.int .i64 0,.int .i64 0,.int .i64 0,.int .i64 0,.nilf],.st [(0,4,true),(4,1,false)]⟩),
 (208,⟨false,1,8,.nilm,.map 3 273 false 1⟩),
 (210,⟨false,1,8,.nilf,.oth⟩),
 (212,⟨false,6,64,.agg [.int .i64 0,.int .i64 0,.sl [] true,.nilm,.nilf,.bool false],.st [(0,3,true),(3,1,false),(4,1,false),(5,1,false)]⟩),
 (215,⟨true,8,64,.agg [.int .i64 0,.int .i64 0,.int .i64 0,.int .i64 0,.int .i64 0,.int .i64 0,.int .i64 0,.int .i64 0],.arr 8 3⟩),
 (217,⟨false,9,72,.agg [.int .i64 0,.int .i64 0,.int .i64 0,.int .i64 0,.int .i64 0,.int .i64 0,.int .i64 0,.int .i64 0,.int .i64 0],.st [(0,8,true),(8,1,false)]⟩),
 (230,⟨false,5,40,.agg [.int .i64 0,.int .i64 0,.int .i64 0,.int .i64 0,.int .i64 0],.st [(0,1,false),(1,4,true)]⟩),
 (238,⟨false,1,8,.nilf,.oth⟩),
 (241,⟨false,1,24,.sl [] true,.sl 4⟩),
 (245,⟨true,2,16,.agg [.int .i64 0,.int .i64 0],.arr 2 3⟩),
 (248,⟨false,1,8,.nilm,.map 166 4 true 2⟩),
 (250,⟨false,1,24,.sl [] true,.sl 292⟩),
 (261,⟨false,4,48,.agg [.int .i64 0,.int .i64 0,.sl [] true,.nilf],.st [(0,3,true),(3,1,false)]⟩),
 (263,⟨true,2,16,.agg [.int .i64 0,.int .i64 0],.st [(0,1,false),(1,1,false)]⟩),
 (265,⟨true,2,16,.agg [.int .i64 0,.int .i64 0],.arr 2 3⟩),
 (273,⟨false,1,24,.sl [] true,.sl 31⟩),
 (276,⟨false,1,8,.nilm,.map 3 33 false 1⟩),
 (280,⟨false,1,8,.nilf,.oth⟩),
 (281,⟨false,1,8,.nilf,.oth⟩),
 (285,⟨false,1,8,.nilf,.oth⟩),
 (290,⟨false,1,8,.int .u64 0,.int .u64⟩),
 (292,⟨true,2,16,.agg [.int .i64 0,.int .i64 0],.st [(0,1,false),(1,1,false)]⟩),
 (296,⟨false,1,8,.nilm,.map 299 263 true 2⟩),
 (299,⟨true,2,16,.agg [.int .i64 0,.int .i64 0],.st [(0,1,false),(1,1,false)]⟩),
 (307,⟨false,1,24,.sl [] true,.sl 31⟩),
 (309,⟨false,1,8,.nilm,.map 3 307 false 1⟩),
 (312,⟨true,32,32,.agg [.int .u8 0,.int .u8 0,.int .u8 0,.int .u8 0,.int .u8 0,.int .u8 0,.int .u8 0,.int .u8 0,.int .u8 0,.int .u8 0,.int .u8 0,.int .u8 0,.int .u8 0,.int .u8 0,.int .u8 0,.int .u8 0,.int .u8 0,.int .u8 0,.int .u8 0,.int .u8 0,.int .u8 0,.int .u8 0,.int .u8 0,.int .u8 0,.int .u8 0,.int .u8 0,.int .u8 0,.int .u8 0,.int .u8 0,.int .u8 0,.int .u8 0,.int .u8 0],.arr 32 5⟩),
 (313,⟨true,64,64,.agg [.int .u8 0,.int .u8 0,.int .u8 0,.int .u8 0,.int .u8 0,.int .u8 0,.int .u8 0,.int .u8 0,.int .u8 0,.int .u8 0,.int .u8 0,.int .u8 0,.int .u8 0,.int .u8 0,.int .u8 0,.int .u8 0,.int .u8 0,.int .u8 0,.int .u8 0,.int .u8 0,.int .u8 0,.int .u8 0,.int .u8 0,.int .u8 0,.int .u8 0,.int .u8 0,.int .u8 0,.int .u8 0,.int .u8 0,.int .u8 0,.int .u8 0,.int .u8 0,.int .u8 0,.int .u8 0,.int .u8 0,.int .u8 0,.int .u8 0,.int .u8 0,.int .u8 0,.int .u8 0,.int .u8 0,.int .u8 0,.int .u8 0,.int .u8 0,.int .u8 0,.int .u8 0,.int .u8 0,.int .u8 0,.int .u8 0,.int .u8 0,.int .u8 0,.int .u8 0,.int .u8 0,.int .u8 0,.int .u8 0,.int .u8 0,.int .u8 0,.int .u8 0,.int .u8 0,.int .u8 0,.int .u8 0,.int .u8 0,.int .u8 0,.int .u8 0],.arr 64 5⟩)]
theorem tab_ok:TabOk Tryz.prog tab:=⟨zao qah,zao qah,zao qah,zao qah,zao qah,zao qah,zao qah,zao qah,zao qah,zao qah,zao qah,zao qah,zao qah,zao qah,zao qah,zao qah,zao qah,zao qah,zao qah,zao qah,zao qah,zao qah,zao qah,zao qah,zao qah,zao qah,zao qah,zao qah,zao qah,zao qah,zao qah,zao qah,zao qah,zao qah,zao qah,zao qah,zao qah,zao qah,zao qah,zao qah,zao qah,zao qah,zao qah,zao qah,zao qah,zao qah,zao qah,zao qah,zao qah,zao qah,zao qah,zao qah,zao qah,zao qah,zao qah,zao qah,zao qah,zao qah,zao qah,zao qah,zao qah,zao qah,zao qah,zao qah,zao qah,zao qah,zao qah,zao qah,trivial⟩
end Go.Tz
namespace Go.Tz
open Go Go.AL Go.Proofs
noncomputable abbrev Pr:=Tryz.prog
theorem pok:POk Pr tab:=⟨tab_ok,by kernel_rfl⟩
abbrev iD(n:Int):D:=.int .i64 n
def tab32:List D:=[.int .u8 0,.int .u8 1,.int .u8 28,.int .u8 2,.int .u8 29,.int .u8 14,.int .u8 24,.int .u8 3,.int .u8 30,.int .u8 22,.int .u8 20,.int .u8 15,.int .u8 25,.int .u8 17,.int .u8 4,.int .u8 8,.int .u8 31,.int .u8 27,.int .u8 13,.int .u8 23,.int .u8 21,.int .u8 19,.int .u8 16,.int .u8 7,.int .u8 26,.int .u8 12,.int .u8 18,.int .u8 6,.int .u8 11,.int .u8 5,.int .u8 10,.int .u8 9]
def tab64:List D:=[.int .u8 0,.int .u8 1,.int .u8 56,.int .u8 2,.int .u8 57,.int .u8 49,.int .u8 28,.int .u8 3,.int .u8 61,.int .u8 58,.int .u8 42,.int .u8 50,.int .u8 38,.int .u8 29,.int .u8 17,.int .u8 4,.int .u8 62,.int .u8 47,.int .u8 59,.int .u8 36,.int .u8 45,.int .u8 43,.int .u8 51,.int .u8 22,.int .u8 53,.int .u8 39,.int .u8 33,.int .u8 30,.int .u8 24,.int .u8 18,.int .u8 12,.int .u8 5,.int .u8 63,.int .u8 55,.int .u8 48,.int .u8 27,.int .u8 60,.int .u8 41,.int .u8 37,.int .u8 16,.int .u8 46,.int .u8 35,.int .u8 44,.int .u8 21,.int .u8 52,.int .u8 32,.int .u8 23,.int .u8 11,.int .u8 54,.int .u8 26,.int .u8 40,.int .u8 15,.int .u8 34,.int .u8 20,.int .u8 31,.int .u8 10,.int .u8 25,.int .u8 14,.int .u8 19,.int .u8 9,.int .u8 13,.int .u8 8,.int .u8 7,.int .u8 6]
def GG:Nat->Option (List D):=fun g=>match Nat.beq g 1 with
 | true=>some tab32
 | false=>match Nat.beq g 2 with
  | true=>some tab64
  | false=>none
def badF:List Nat:=[9,216,257,275]
def chk1(P:Program)(f:Nat):Bool:=match elemN f badF with
 | true=>true
 | false=>match P.funcs[f]? with
  | some fn=>chkFn fn
  | none=>true
theorem chk1_of{P:Program}{f:Nat}{fn:Func}(h3:elemN f badF=false)(h:P.funcs[f]?=some fn)(key:chk1 P f=true):chkFn fn=true:=by
 unfold chk1 at key
 rw[h3,h]at key
 exact key
theorem chkA1:(List.range' 3 60).all (chk1 Pr)=true:=qah
theorem chkA2:(List.range' 63 75).all (chk1 Pr)=true:=qah
theorem chkA3:(List.range' 138 75).all (chk1 Pr)=true:=qah
theorem chkA4:(List.range' 213 75).all (chk1 Pr)=true:=qah
theorem chkA{f:Nat}(h1:3<=f)(h2:f<=287):chk1 Pr f=true:=by
 rcases Nat.lt_or_ge f 63 with q|q
 ·exact List.all_eq_true.1 chkA1 f (List.mem_range'_1.2 ⟨h1,by omega⟩)
 rcases Nat.lt_or_ge f 138 with q2|q2
 ·exact List.all_eq_true.1 chkA2 f (List.mem_range'_1.2 ⟨q,by omega⟩)
 rcases Nat.lt_or_ge f 213 with q3|q3
 ·exact List.all_eq_true.1 chkA3 f (List.mem_range'_1.2 ⟨q2,by omega⟩)
 ·exact List.all_eq_true.1 chkA4 f (List.mem_range'_1.2 ⟨q3,by omega⟩)
def FFP(P:Program)(f:FuncId):Option Func:=match Nat.ble 3 f,Nat.ble f 287,elemN f badF with
 | true,true,false=>P.funcs[f]?
 | _,_,_=>none
theorem ff_okP{P:Program}(hA:∀ f,3<=f->f<=287->chk1 P f=true):FOk P (FFP P):=by
 intro f fn h
 unfold FFP at h
 split at h
 ·rename_i h1 h2 h3
  exact⟨h,chk1_of h3 h (hA f (Nat.le_of_ble_eq_true h1) (Nat.le_of_ble_eq_true h2))⟩
 ·exact qed
noncomputable def FF:FuncId->Option Func:=FFP Pr
theorem ff_ok:FOk Pr FF:=ff_okP fun _ h1 h2=>chkA h1 h2
end Go.Tz
namespace Go.Tz
open Go Go.AL Go.Proofs
variable{G:Nat->Option (List D)}
abbrev Q4:=Int×Int×Int×Int
abbrev prD(a b:Int):D:=.agg [iD a,iD b]
def toE(q:Q4):D×D:=(prD q.1 q.2.1,prD q.2.2.1 q.2.2.2)
def kyE(q:Q4):List Int:=[q.1,q.2.1]
theorem zrb(l:List Q4):keysD true (l.map toE)=some (l.map kyE):=by
 induction l with
 | nil=>rfl
 | cons q l ih=>simp[keysD,toE,keyD,intsOf,ih,kyE]
theorem zvn(l:List Q4):∀ ks,ks∈l.map kyE->ks.length=2:=by
 intro ks h
 obtain⟨q,_,rfl⟩:=List.mem_map.1 h
 rfl
theorem zvw{a b:Int}:∀(l:List Q4) (i:Nat),(∀ q,q∈l->kyE q≠[a,b])->idxOf [a,b] (l.map kyE) i=none
 | [],_,_=>rfl
 | q::l,i,h=>by
  have h1:=h q qc3
  have:([a,b]==kyE q)=false:=beq_eq_false_iff_ne.2 (Ne.symm h1)
  simp only[List.map_cons,idxOf,this]
  exact zvw l (i+1) fun q hq=>h q qen
theorem zvv{a b c d:Int}:∀(l:List Q4) (i:Nat),(a,b,c,d)∈l->(∀ q,q∈l->kyE q=[a,b]->q=(a,b,c,d))->∃ j,idxOf [a,b] (l.map kyE) i=some (i+j)/\l[j]?=some (a,b,c,d)
 | [],_,h,_=>by cases h
 | q::l,i,h,hu=>by
  by_cases e:kyE q=[a,b]
  ·have:=hu q qc3 e
   subst this
   exact⟨0,by simp[idxOf,kyE],rfl⟩
  ·have h':(a,b,c,d)∈l:=by
    rcases List.mem_cons.1 h with q1|q1
    ·subst q1;exact absurd rfl e
    ·exact q1
   obtain⟨j,h1,h2⟩:=zvv l (i+1) h' fun q hq=>hu q qen
   have:([a,b]==kyE q)=false:=beq_eq_false_iff_ne.2 (Ne.symm e)
   refine⟨j+1,?_,by simpa using h2⟩
   simp only[List.map_cons,idxOf,this,h1]
   congr 1;omega
def sel{α:Type}(tb:List (Nat × α))(L:Nat->Bool):List α:=(tb.filter fun p=>L p.1).map (·.2)
theorem zep{α:Type}{i:Nat}{L:Nat->Bool}:∀{tb:List (Nat × α)},(∀ p,p∈tb->p.1≠i)->sel tb (fun j=>if j=i then true else L j)=sel tb L:=by
 intro tb h
 unfold sel
 congr 1
 apply List.filter_congr
 intro p hp
 simp[h p hp]
theorem zsu{α:Type}{i:Nat}{q:α}{L:Nat->Bool}(hL:L i=false):∀(tb:List (Nat × α)),(tb.map (·.1)).Nodup->(i,q)∈tb->(sel tb fun j=>if j=i then true else L j).Perm (sel tb L++[q])
 | [],_,h=>by cases h
 | (k,x)::tb,hn,h=>by
  simp only[List.map_cons,List.nodup_cons]at hn
  rcases List.mem_cons.1 h with e|e
  ·cases e
   have hne:∀ p,p∈tb->p.1≠i:=fun p hp he=>hn.1 (List.mem_map.2 ⟨p,hp,he⟩)
   have h1:sel ((i,q)::tb) (fun j=>if j=i then true else L j)=q::sel tb L:=by
    rw[<- zep (i:=i) (L:=L) hne];simp[sel]
   have h2:sel ((i,q)::tb) L=sel tb L:=by simp[sel,hL]
   rw[h1,h2]
   exact(List.perm_append_singleton q (sel tb L)).symm
  ·have hki:k≠i:=fun e2=>hn.1 (List.mem_map.2 ⟨(i,q),e,e2.symm⟩)
   have ih:=zsu hL tb hn.2 e
   by_cases hk:L k=true
   ·have h1:sel ((k,x)::tb) (fun j=>if j=i then true else L j)=x::sel tb (fun j=>if j=i then true else L j):=by simp[sel,hki,hk]
    have h2:sel ((k,x)::tb) L=x::sel tb L:=by simp[sel,hk]
    rw[h1,h2];exact ih.cons x
   ·have h1:sel ((k,x)::tb) (fun j=>if j=i then true else L j)=sel tb (fun j=>if j=i then true else L j):=by simp[sel,hki,hk]
    have h2:sel ((k,x)::tb) L=sel tb L:=by simp[sel,hk]
    rw[h1,h2];exact ih
def tbE:List (Nat×Q4):=[(3,1,2,3,1),(6,2,1,3,3),(9,2,3,1,1),(12,3,2,1,3),(15,3,1,2,1),(18,1,3,2,3)]
def tbK:List (Nat×Nat×Int×Int):=[(1,2,1,2),(2,3,3,1),(4,4,2,1),(5,5,3,3),(7,6,2,3),(8,7,1,1),(10,8,3,2),(11,9,1,3),(13,10,3,1),(14,11,2,1),(16,12,1,3),(17,13,2,3)]
structure SR (L:Nat->Bool) (s:St):Prop where
 bl:∀ i t a b,(i,t,a,b)∈tbK->L i=true->lk s.env t = .d (prD a b)
 mp:L 0=true->lk s.env 1 = .map 0/\s.nx=1 /\ ∃ l:List Q4,s.heap.get 0=some (.map (l.map toE))/\l.Perm (sel tbE L)
 no:L 0=false->s.nx=0/\s.heap=[]/\sel tbE L=[]
 t14:L 19=true->lk s.env 14 = .map 0
 t0:L 20=true->lk s.env 0 = .map 0
theorem zeg{s:St}{t m:Nat}{v:AV}(h:m≠t):lk (s.put (some t) v).env m=lk s.env m:=zan v s.env h
theorem zy8{L:Nat->Bool}{s:St}{i t:Nat}{v:AV}(h:SR L s)(hi0:i≠0)(hie:∀ p,p∈tbE->p.1≠i)(hb:∀ j t' a b,(j,t',a,b)∈tbK->(j=i->t'=t/\v = .d (prD a b))/\(j≠i->t'≠t))(h1:t≠1)
  (h14:if i=19 then t=14/\v = .map 0 else t≠14) (h0:if i=20 then t=0/\v = .map 0 else t≠0):SR (fun j=>if j=i then true else L j) (s.put (some t) v):=by
 constructor
 ·intro j t' a b hj hL
  obtain⟨p1,p2⟩:=hb j t' a b hj
  by_cases e:j=i
  ·obtain⟨rfl,rfl⟩:=p1 e
   exact zar _ _ _
  ·rw[zeg (p2 e)]
   simp only[if_neg e]at hL
   exact h.bl j t' a b hj hL
 ·intro hL
  simp only[if_neg (Ne.symm hi0)]at hL
  obtain⟨a1,a2,l,a3,a4⟩:=h.mp hL
  exact⟨by rw[zeg (Ne.symm h1)];exact a1,a2,l,a3,by rw[zep hie];exact a4⟩
 ·intro hL
  simp only[if_neg (Ne.symm hi0)]at hL
  obtain⟨a1,a2,a3⟩:=h.no hL
  exact⟨a1,a2,by rw[zep hie];exact a3⟩
 ·intro hL
  by_cases e:i=19
  ·rw[if_pos e]at h14
   obtain⟨rfl,rfl⟩:=h14
   exact zar _ _ _
  ·rw[if_neg e]at h14
   rw[zeg (Ne.symm h14)]
   simp only[if_neg (Ne.symm e)]at hL
   exact h.t14 hL
 ·intro hL
  by_cases e:i=20
  ·rw[if_pos e]at h0
   obtain⟨rfl,rfl⟩:=h0
   exact zar _ _ _
  ·rw[if_neg e]at h0
   rw[zeg (Ne.symm h0)]
   simp only[if_neg (Ne.symm e)]at hL
   exact h.t0 hL
end Go.Tz
namespace Go.Tz
open Go Go.AL Go.Proofs
variable{G:Nat->Option (List D)}{r:Option Nat}{n b:Nat}{ms:List Nat}
theorem zsk:TBuild Pr 299 [iD 0,iD 0] [(0,1),(1,1)]:=zib pok.tab (ty:=⟨true,2,16,.agg [iD 0,iD 0],.st [(0,1,false),(1,1,false)]⟩) rfl rfl rfl
theorem zxe:TBuild Pr 263 [iD 0,iD 0] [(0,1),(1,1)]:=zib pok.tab (ty:=⟨true,2,16,.agg [iD 0,iD 0],.st [(0,1,false),(1,1,false)]⟩) rfl rfl rfl
theorem zcn{s:St}{o:Oper}{t:TypeId}{a b:Int}(ho:o.op = .build t #[(0,.const (.int .i64 a)),(1,.const (.int .i64 b))])(hT:TBuild Pr t [iD 0,iD 0] [(0,1),(1,1)]):PureOp G Pr s o (.d (prD a b)) :=
 ze8 (l:=[.d (iD a),.d (iD b)]) ho hT rfl
theorem sr_make{L:Nat->Bool}{s:St}(h:SR L s)(hL:L 0=false):SR (fun j=>if j=0 then true else L j) ({ env:=s.env,heap:=(s.nx,some (.map []))::s.heap,nx:=s.nx+1:St }.put (some 1) (.map s.nx)):=by
 obtain⟨n1,n2,n3⟩:=h.no hL
 constructor
 ·intro i t a b hi hl
  have h1:t≠1/\i≠0:=by
   have:∀ p,p∈tbK->p.2.1≠1/\p.1≠0:=qag
   exact this _ hi
  simp only[if_neg h1.2]at hl
  show lk ((1,AV.map s.nx)::s.env) t=_
  rw[zan _ _ h1.1]
  exact h.bl i t a b hi hl
 ·intro _
  refine⟨by rw[n1];exact zar _ _ _,by show s.nx+1=1;rw[n1],[],?_,?_⟩
  ·show AHeap.get ((s.nx,some (.map []))::s.heap) 0=_
   rw[n1];rfl
  ·rw[zep qag,n3]
 ·intro hl;simp at hl
 ·intro hl
  show lk ((1,AV.map s.nx)::s.env) 14=_
  rw[zan _ _ qag];exact h.t14 hl
 ·intro hl
  show lk ((1,AV.map s.nx)::s.env) 0=_
  rw[zan _ _ qag];exact h.t0 hl
theorem zvo:KeyOk Pr 299 true 2:=by
 have h:=(pok.tab.get (t:=296) (ty:=⟨false,1,8,.nilm,.map 299 263 true 2⟩) rfl).2
 exact h.2
theorem und296:Pr.underlying 296=some (.map 299 263):=(pok.tab.get (t:=296) (ty:=⟨false,1,8,.nilm,.map 299 263 true 2⟩) rfl).2.1
theorem zne{L:Nat->Bool}{s:St}{o:Oper}{i t1 t2:Nat}{q:Q4}(h:SR L s)(hL:L i=false)(h0:L 0=true)(ho:o.op = .insert 296 (.tmp 1) (.tmp t1) (.tmp t2))(hd:o.dst=none)(e1:lk s.env t1 = .d (prD q.1 q.2.1))(e2:lk s.env t2 = .d (prD q.2.2.1 q.2.2.2))
  (hm:(i,q)∈tbE) (hi0:i≠0/\i≠19/\i≠20 /\ ∀ p,p∈tbK->p.1≠i) (hu:∀ p,p∈tbE->kyE p.2=kyE q->p.1=i):OpWP r Pr G n b o s ms (fun s'=>SR (fun j=>if j=i then true else L j) s'):=by
 obtain⟨m1,m2,l,m3,m4⟩:=h.mp h0
 have hnone:idxOf [q.1,q.2.1] (l.map kyE) 0=none:=zvw l 0 fun x hx hk=>by
  have hx':x∈sel tbE L:=m4.subset hx
  unfold sel at hx'
  obtain⟨p,hp,rfl⟩:=List.mem_map.1 hx'
  obtain⟨p1,p2⟩:=List.mem_filter.1 hp
  have:=hu p p1 hk
  rw[this,hL]at p2;cases p2
 have hst:=zdk (G:=G) (st:=s) (S:=2) (nm:=0) (d:=prD q.1 q.2.1) (y:=prD q.2.2.1 q.2.2.2) (es:=l.map toE) (kss:=l.map kyE) (.inr ho) und296 zvo m1 m3 e1 rfl e2 rfl (zrb l) (zvn l) rfl
 rw[hnone]at hst
 refine za1 (k:=0) (fun c hc=>by rw[ho]at hc;cases hc) (hst.names fun _ h=>h.elim) (by rw[hd];rfl) ?_
 rw[hd]
 constructor
 ·intro j t a b' hj hl
  have:=hi0.2.2.2 _ hj
  simp only[if_neg this]at hl
  exact h.bl j t a b' hj hl
 ·intro _
  refine⟨m1,m2,l++[q],?_,?_⟩
  ·show AHeap.get ((0,_)::s.heap) 0=_
   rw[zaf]
   simp[toE]
  ·exact(m4.append_right [q]).trans (zsu hL tbE qag hm).symm
 ·intro hl
  simp only[if_neg (Ne.symm hi0.1)]at hl
  rw[h0]at hl;cases hl
 ·intro hl
  simp only[if_neg (Ne.symm hi0.2.1)]at hl
  exact h.t14 hl
 ·intro hl
  simp only[if_neg (Ne.symm hi0.2.2.1)]at hl
  exact h.t0 hl
theorem sr_mv{i t:Nat}{v:AV}(h:∀ p,p∈tbK->p.1≠i/\p.2.1≠t):∀ j t' a b,(j,t',a,b)∈tbK->(j=i->t'=t/\v = .d (prD a b))/\(j≠i->t'≠t) :=
 fun _ _ _ _ hj=>⟨fun e=>absurd e (h _ hj).1,fun _=>(h _ hj).2⟩
theorem zfy{L:Nat->Bool}{s:St}{i t:Nat}{x y:Int}(h:SR L s)(hi:i≠0/\i≠19/\i≠20)(ht:t≠1/\t≠14/\t≠0)(hie:∀ p,p∈tbE->p.1≠i)(hb:∀ p,p∈tbK->(p.1=i->p.2.1=t/\p.2.2.1=x/\p.2.2.2=y)/\(p.1≠i->p.2.1≠t)) :
  SR (fun j=>if j=i then true else L j) (s.put (some t) (.d (prD x y))) :=
 zy8 h hi.1 hie (fun j t' a b hj=>⟨fun e=>by obtain⟨q1,q2,q3⟩:=(hb _ hj).1 e;simp only at q1 q2 q3;subst q2 q3;exact⟨q1,rfl⟩,fun e=>(hb _ hj).2 e⟩) ht.1 (by rw[if_neg hi.2.1];exact ht.2.1) (by rw[if_neg hi.2.2];exact ht.2.2)
theorem cases21{i:Nat}(h:i<21):i=0\/i=1\/i=2\/i=3\/i=4\/i=5\/i=6\/i=7\/i=8\/i=9\/i=10\/i=11\/i=12\/i=13\/i=14\/i=15\/i=16\/i=17\/i=18\/i=19\/i=20:=qad
theorem table_c:ACall Pr G 257 [] [] 0 fun v H k=>v = .map 0/\k=1 /\ ∃ l:List Q4,H.get 0=some (.map (l.map toE))/\l.Perm (tbE.map (·.2)):=by
 refine zn7 Tryz.func257 rfl qag ?_
 refine ze3 (zd9 (zal (v:=.d .nilm) (fun c h=>by cases h) (zde rfl rfl) rfl ?_))
 refine ze3 (zmw pok.mixed (ziz qah) SR ?_ ?_ ?_)
 ·exact⟨fun i t a b _ h=>qed,fun h=>qed,fun _=>⟨rfl,rfl,rfl⟩,fun h=>qed,fun h=>qed⟩
 ·intro L s i o hS hL ho hall
  rcases cases21 (Array.getElem?_eq_some_iff.1 ho).1 with rfl|rfl|rfl|rfl|rfl|rfl|rfl|rfl|rfl|rfl|rfl|rfl|rfl|rfl|rfl|rfl|rfl|rfl|rfl|rfl|rfl
  ·have ho:=Option.some.inj (show some _=some o from ho)
   subst ho
   refine⟨rfl,za1 (k:=1) (fun c h=>by cases h) ((zf2 (nm:=s.nx) rfl).names fun m hm=>⟨Nat.le_of_eq hm.symm,by omega⟩) rfl ?_⟩
   exact sr_make hS hL
  ·have ho:=Option.some.inj (show some _=some o from ho)
   subst ho
   exact⟨rfl,zal (fun c h=>by cases h) (zcn (a:=1) (b:=2) rfl zsk) rfl (zfy hS qag qag qag qag)⟩
  ·have ho:=Option.some.inj (show some _=some o from ho)
   subst ho
   exact⟨rfl,zal (fun c h=>by cases h) (zcn (a:=3) (b:=1) rfl zxe) rfl (zfy hS qag qag qag qag)⟩
  ·have ho:=Option.some.inj (show some _=some o from ho)
   subst ho
   have h0:=hall ⟨0,.data⟩ qc3 rfl
   have h1:=hall ⟨1,.data⟩ qc3 rfl
   have h2:=hall ⟨2,.data⟩ qc3 rfl
   exact⟨rfl,zne (i:=3) (q:=(1,2,3,1)) (t1:=2) (t2:=3) hS hL h0 rfl rfl (hS.bl 1 2 _ _ qag h1) (hS.bl 2 3 _ _ qag h2) qag qag qag⟩
  ·have ho:=Option.some.inj (show some _=some o from ho)
   subst ho
   exact⟨rfl,zal (fun c h=>by cases h) (zcn (a:=2) (b:=1) rfl zsk) rfl (zfy hS qag qag qag qag)⟩
  ·have ho:=Option.some.inj (show some _=some o from ho)
   subst ho
   exact⟨rfl,zal (fun c h=>by cases h) (zcn (a:=3) (b:=3) rfl zxe) rfl (zfy hS qag qag qag qag)⟩
  ·have ho:=Option.some.inj (show some _=some o from ho)
   subst ho
   have h0:=hall ⟨0,.data⟩ qc3 rfl
   have h1:=hall ⟨4,.data⟩ qc3 rfl
   have h2:=hall ⟨5,.data⟩ qc3 rfl
   exact⟨rfl,zne (i:=6) (q:=(2,1,3,3)) (t1:=4) (t2:=5) hS hL h0 rfl rfl (hS.bl 4 4 _ _ qag h1) (hS.bl 5 5 _ _ qag h2) qag qag qag⟩
  ·have ho:=Option.some.inj (show some _=some o from ho)
   subst ho
   exact⟨rfl,zal (fun c h=>by cases h) (zcn (a:=2) (b:=3) rfl zsk) rfl (zfy hS qag qag qag qag)⟩
  ·have ho:=Option.some.inj (show some _=some o from ho)
   subst ho
   exact⟨rfl,zal (fun c h=>by cases h) (zcn (a:=1) (b:=1) rfl zxe) rfl (zfy hS qag qag qag qag)⟩
  ·have ho:=Option.some.inj (show some _=some o from ho)
   subst ho
   have h0:=hall ⟨0,.data⟩ qc3 rfl
   have h1:=hall ⟨7,.data⟩ qc3 rfl
   have h2:=hall ⟨8,.data⟩ qc3 rfl
   exact⟨rfl,zne (i:=9) (q:=(2,3,1,1)) (t1:=6) (t2:=7) hS hL h0 rfl rfl (hS.bl 7 6 _ _ qag h1) (hS.bl 8 7 _ _ qag h2) qag qag qag⟩
  ·have ho:=Option.some.inj (show some _=some o from ho)
   subst ho
   exact⟨rfl,zal (fun c h=>by cases h) (zcn (a:=3) (b:=2) rfl zsk) rfl (zfy hS qag qag qag qag)⟩
  ·have ho:=Option.some.inj (show some _=some o from ho)
   subst ho
   exact⟨rfl,zal (fun c h=>by cases h) (zcn (a:=1) (b:=3) rfl zxe) rfl (zfy hS qag qag qag qag)⟩
  ·have ho:=Option.some.inj (show some _=some o from ho)
   subst ho
   have h0:=hall ⟨0,.data⟩ qc3 rfl
   have h1:=hall ⟨10,.data⟩ qc3 rfl
   have h2:=hall ⟨11,.data⟩ qc3 rfl
   exact⟨rfl,zne (i:=12) (q:=(3,2,1,3)) (t1:=8) (t2:=9) hS hL h0 rfl rfl (hS.bl 10 8 _ _ qag h1) (hS.bl 11 9 _ _ qag h2) qag qag qag⟩
  ·have ho:=Option.some.inj (show some _=some o from ho)
   subst ho
   exact⟨rfl,zal (fun c h=>by cases h) (zcn (a:=3) (b:=1) rfl zsk) rfl (zfy hS qag qag qag qag)⟩
  ·have ho:=Option.some.inj (show some _=some o from ho)
   subst ho
   exact⟨rfl,zal (fun c h=>by cases h) (zcn (a:=2) (b:=1) rfl zxe) rfl (zfy hS qag qag qag qag)⟩
  ·have ho:=Option.some.inj (show some _=some o from ho)
   subst ho
   have h0:=hall ⟨0,.data⟩ qc3 rfl
   have h1:=hall ⟨13,.data⟩ qc3 rfl
   have h2:=hall ⟨14,.data⟩ qc3 rfl
   exact⟨rfl,zne (i:=15) (q:=(3,1,2,1)) (t1:=10) (t2:=11) hS hL h0 rfl rfl (hS.bl 13 10 _ _ qag h1) (hS.bl 14 11 _ _ qag h2) qag qag qag⟩
  ·have ho:=Option.some.inj (show some _=some o from ho)
   subst ho
   exact⟨rfl,zal (fun c h=>by cases h) (zcn (a:=1) (b:=3) rfl zsk) rfl (zfy hS qag qag qag qag)⟩
  ·have ho:=Option.some.inj (show some _=some o from ho)
   subst ho
   exact⟨rfl,zal (fun c h=>by cases h) (zcn (a:=2) (b:=3) rfl zxe) rfl (zfy hS qag qag qag qag)⟩
  ·have ho:=Option.some.inj (show some _=some o from ho)
   subst ho
   have h0:=hall ⟨0,.data⟩ qc3 rfl
   have h1:=hall ⟨16,.data⟩ qc3 rfl
   have h2:=hall ⟨17,.data⟩ qc3 rfl
   exact⟨rfl,zne (i:=18) (q:=(1,3,2,3)) (t1:=12) (t2:=13) hS hL h0 rfl rfl (hS.bl 16 12 _ _ qag h1) (hS.bl 17 13 _ _ qag h2) qag qag qag⟩
  ·have ho:=Option.some.inj (show some _=some o from ho)
   subst ho
   have h0:=hall ⟨0,.data⟩ qc3 rfl
   exact⟨rfl,zal (fun c h=>by cases h) (zbl rfl (hS.mp h0).1) rfl (zy8 hS qag qag (sr_mv qag) qag (.intro rfl rfl) (by decide:(14:Nat)≠0))⟩
  ·have ho:=Option.some.inj (show some _=some o from ho)
   subst ho
   have h0:=hall ⟨19,.data⟩ qc3 rfl
   exact⟨rfl,zal (fun c h=>by cases h) (zde rfl (hS.t14 h0)) rfl (zy8 hS qag qag (sr_mv qag) qag (by decide:(0:Nat)≠14) (.intro rfl rfl))⟩
 ·intro L s hS hall
  obtain⟨m1,m2,l,m3,m4⟩:=hS.mp (hall 0 qag)
  refine zh3 ⟨.inr rfl,rfl,.map 0,?_,rfl,m2,l,m3,?_⟩
  ·have:=ResV.one (P:=Pr) (G:=G) (st:=s) (.tmp 0) _ (.tmp 0)
   rw[hS.t0 (hall 20 qag)]at this
   exact this
  ·have:sel tbE L=tbE.map (·.2):=by
    unfold sel
    congr 1
    apply List.filter_eq_self.2
    intro p hp
    have:∀ p,p∈tbE->p.1<21:=qag
    exact hall _ (this p hp)
   rw[<- this];exact m4
end Go.Tz
namespace Go.Tz
open Go Go.AL Go.Proofs
variable{G:Nat->Option (List D)}{r:Option Nat}{n b0:Nat}{ms:List Nat}{a b c d:Int}
def vl(a b c d:Int):Nat->AV
 | 1=>.ptr 0 2 0 0
 | 2=>.d (iD a)
 | 3=>.ptr 0 2 0 1
 | 4=>.d (iD b)
 | 5=>.d (prD a b)
 | _=>.d (prD c d)
structure S7 (a b c d:Int) (L:Nat->Bool) (s:St):Prop where
 e1:lk s.env 1 = .ptr 0 2 0 0
 e2:lk s.env 2 = .ptr 1 2 0 0
 g0:s.heap.get 0=some (.arr 2 [[.d (iD a),.d (iD b)]])
 g1:L 7=false->s.heap.get 1=some (.arr 2 [[.d (iD 0),.d (iD 0)]])
 g2:L 7=true->s.heap.get 1=some (.arr 2 [[.d (iD c),.d (iD d)]])
 nx:2<=s.nx
 cl:L 7=true->L 0=true
 m:L 0=true->∃(nm:Nat) (l:List Q4),2<=nm/\lk s.env 26 = .map nm/\s.heap.get nm=some (.map (l.map toE))/\l.Perm (tbE.map (·.2))
 v:∀ i,1<=i->i<=6->L i=true->lk s.env (26+i)=vl a b c d i
theorem znj{L:Nat->Bool}{s:St}{i:Nat}{v:AV}(h:S7 a b c d L s)(h1:1<=i)(h6:i<=6)(hv:vl a b c d i=v):S7 a b c d (fun j=>if j=i then true else L j) (s.put (some (26+i)) v):=by
 subst hv
 have ne:∀ m,m≠26+i->lk (s.put (some (26+i)) (vl a b c d i)).env m=lk s.env m:=fun m hm=>zeg hm
 refine⟨by rw[ne 1 qad];exact h.e1,by rw[ne 2 qad];exact h.e2,h.g0,fun hl=>h.g1 ?_,fun hl=>h.g2 ?_,h.nx,fun hl=>?_,fun hl=>?_,fun j j1 j6 hl=>?_⟩
 ·exact qek
 ·exact qek
 ·have:=h.cl qek
  simp[this]
 ·obtain⟨nm,l,q1,q2,q3,q4⟩:=h.m (by simpa[show ¬ 0=i by omega] using hl)
  exact⟨nm,l,q1,by rw[ne 26 qad];exact q2,q3,q4⟩
 ·by_cases e:j=i
  ·subst e;exact zar _ _ _
  ·rw[ne (26+j) qad]
   simp only[if_neg e]at hl
   exact h.v j j1 j6 hl
theorem ta265:TArr Pr 265 2 3 false 1 8 (iD 0):=⟨(pok.tab.get (t:=265) (ty:=⟨true,2,16,.agg [iD 0,iD 0],.arr 2 3⟩) rfl).2,(pok.tab.get (t:=3) (ty:=⟨false,1,8,iD 0,.int .i64⟩) rfl).tok⟩
theorem tk3:TOk Pr 3 false 1 8 (iD 0):=(pok.tab.get (t:=3) (ty:=⟨false,1,8,iD 0,.int .i64⟩) rfl).tok
theorem ek263:EOk Pr 263 2 16 (.agg [iD 0,iD 0]):=(pok.tab.get (t:=263) (ty:=⟨true,2,16,.agg [iD 0,iD 0],.st [(0,1,false),(1,1,false)]⟩) rfl).1
theorem s7_call{L:Nat->Bool}{s:St}{o:Oper}(h:S7 a b c d L s)(hL:L 7=false)(hLs:∀ j,j≠0->L j=L j)(ho:o.op = .call { callee:=.value (.func 257),args:=#[],argTypes:=#[] })(hd:o.dst=some 26)(hn:26<n) :
  OpWP r Pr G n b0 o s ms fun s'=>S7 a b c d (fun j=>if j=0 then true else L j) s':=by
 have hf:IsFn Pr 257:=⟨Tryz.f257,Tryz.func257,rfl,rfl⟩
 refine zaw (f:=257) (fi:=[]) (ca:=[]) (l:=[]) ho rfl hf rfl (by rw[hd];simpa[dstOk] using hn) ?_
 have:=zcf (P:=Pr) (G:=G) (f:=257) (ds:=[]) (H:=s.heap) (nx:=s.nx) table_c (K:=fun v H' nx'=>∃(N:AHeap) (l:List Q4),v = .map s.nx/\H'=N.shift s.nx++s.heap/\nx'=s.nx+1/\N.get 0=some (.map (l.map toE))/\l.Perm (tbE.map (·.2))) (by
  rintro v N k ⟨rfl,rfl,l,q1,q2⟩
  exact⟨N,l,by simp[AV.ren],rfl,rfl,q1,q2⟩)
 refine zbc this ?_
 rintro v H' nx' ⟨N,l,rfl,rfl,rfl,q1,q2⟩
 rw[hd]
 have hnx:=h.nx
 have old:∀ m,m<s.nx->AHeap.get (N.shift s.nx++s.heap) m=s.heap.get m:=fun m hm=>by
  rw[zif,if_neg (fun q=>by omega)]
 refine⟨?_,?_,?_,fun hl=>?_,fun hl=>?_,by show 2<=s.nx+1;omega,fun _=>qc3,fun _=>⟨s.nx,l,hnx,zar _ _ _,?_,q2⟩,fun j j1 j6 hl=>?_⟩
 ·exact(zan _ _ qag).trans h.e1
 ·exact(zan _ _ qag).trans h.e2
 ·exact(old 0 qad).trans h.g0
 ·exact(old 1 qad).trans (h.g1 hL)
 ·simp[hL]at hl
 ·show AHeap.get (N.shift s.nx++s.heap) s.nx=_
  rw[zif,if_pos ⟨Nat.le_refl _,by rw[Nat.sub_self];exact zmm q1⟩,Nat.sub_self,q1]
  rfl
 ·have:j≠0:=by omega
  simp only[if_neg this]at hl
  exact(zan _ _ qad).trans (h.v j j1 j6 hl)
theorem s7_lookup{L:Nat->Bool}{s:St}{o:Oper}(h:S7 a b c d L s)(h0:L 0=true)(h5:L 5=true)(ho:o.op = .lookup 296 (.tmp 26) (.tmp 31) false)(hm:(a,b,c,d)∈tbE.map (·.2)):PureOp G Pr s o (.d (prD c d)):=by
 obtain⟨nm,l,q1,q2,q3,q4⟩:=h.m h0
 have hu:∀ q,q∈tbE.map (·.2)->kyE q=kyE (a,b,c,d)->q=(a,b,c,d):=by
  have key:∀ q,q∈tbE.map (·.2)->∀ q',q'∈tbE.map (·.2)->kyE q=kyE q'->q=q':=qag
  exact fun q hq=>key q hq _ hm
 obtain⟨j,j1,j2⟩:=zvv (a:=a) (b:=b) (c:=c) (d:=d) l 0 (q4.symm.subset hm) (fun q hq=>hu q (q4.subset hq))
 have hT:=(pok.tab.get (t:=263) (ty:=⟨true,2,16,.agg [iD 0,iD 0],.st [(0,1,false),(1,1,false)]⟩) rfl).1
 exact zhu (G:=G) (st:=s) (S:=2) (cok:=false) (bo:=true) (d:=prD a b) (es:=l.map toE) ho und296 zvo hT q2 q3 (h.v 5 qag qag h5) rfl rfl (zrb l) (zvn l) (.inl ⟨j,prD a b,by simpa using j1,by simp[j2,toE],rfl⟩)
theorem s7_store{L:Nat->Bool}{s:St}{o:Oper}(h:S7 a b c d L s)(h6:L 6=true)(h0:L 0=true)(h7:L 7=false)(ho:o.op = .store 263 (.tmp 2) (.tmp 32))(hd:o.dst=none):OpWP r Pr G n b0 o s ms fun s'=>S7 a b c d (fun j=>if j=7 then true else L j) s':=by
 have hst:=zgp (G:=G) (P:=Pr) (st:=s) (v:=.d (prD c d)) ho ek263 h.e2 (h.v 6 qag qag h6) (h.g1 h7) rfl rfl rfl rfl qag
 refine za1 (k:=0) (fun c hc=>by rw[ho]at hc;cases hc) (hst.names fun _ h=>h.elim) (by rw[hd];rfl) ?_
 rw[hd]
 refine⟨h.e1,h.e2,?_,fun hl=>?_,fun _=>?_,h.nx,fun _=>(by simpa using h0),fun hl=>?_,fun j j1 j6 hl=>?_⟩
 ·exact(zad _ _ qag).trans h.g0
 ·simp at hl
 ·exact zaf _ _ _
 ·obtain⟨nm,l,q1,q2,q3,q4⟩:=h.m qeg
  exact⟨nm,l,q1,q2,(zad _ _ qad).trans q3,q4⟩
 ·have:j≠7:=by omega
  simp only[if_neg this]at hl
  exact h.v j j1 j6 hl
end Go.Tz
namespace Go.Tz
open Go Go.AL Go.Proofs
variable{G:Nat->Option (List D)}{a b c d:Int}
def K7(a b:Int)(e:Exit)(s:St):Prop:=e = .normal/\lk s.env 1 = .ptr 0 2 0 0/\lk s.env 2 = .ptr 1 2 0 0/\s.heap.get 0=some (.arr 2 [[.d (iD a),.d (iD b)]])/\s.heap.get 1=some (.arr 2 [[.d (iD 0),.d (iD 0)]])/\s.nx=2
theorem chk211:chkFn Tryz.f211=true:=qah
theorem reg7{s:St}(hm:(a,b,c,d)∈tbE.map (·.2))(hs:K7 a b .normal s){id:Nat}{ops:Array Oper}(hops:(match Tryz.f211.body with|some (.seq _ (.seq _ (.seq (.region _ ops true) _)))=>some ops|_=>none)=some ops) :
  AWP none Pr G 33 0 (.region id ops true) s [] fun e s' m=>e = .normal/\m=[]/\lk s'.env 2 = .ptr 1 2 0 0/\s'.heap.get 1=some (.arr 2 [[.d (iD c),.d (iD d)]]):=by
 obtain⟨_,k1,k2,k3,k4,k5⟩:=hs
 cases hops
 refine zmw pok.mixed (ziz qah) (S7 a b c d) ?_ ?_ ?_
 ·exact⟨k1,k2,k3,fun _=>k4,fun h=>qed,by omega,fun h=>qed,fun h=>qed,fun i _ _ h=>qed⟩
 ·intro L s i o hS hL ho hall
  have hi:i<8:=(Array.getElem?_eq_some_iff.1 ho).1
  rcases (by omega:i=0\/i=1\/i=2\/i=3\/i=4\/i=5\/i=6\/i=7) with rfl|rfl|rfl|rfl|rfl|rfl|rfl|rfl
  ·have ho:=Option.some.inj (show some _=some o from ho)
   subst ho
   refine⟨rfl,?_⟩
   cases h7:L 7 with
   | false=>exact s7_call hS h7 (fun _ _=>rfl) rfl rfl qag
   | true=>have:=hS.cl h7;rw[hL]at this;cases this
  ·have ho:=Option.some.inj (show some _=some o from ho)
   subst ho
   exact⟨rfl,zal (fun c h=>by cases h) (zc2 (ki:=.i64) (i:=0) rfl ta265 hS.e1 rfl qag qag) rfl (znj hS (i:=1) qag qag rfl)⟩
  ·have ho:=Option.some.inj (show some _=some o from ho)
   subst ho
   have h1:=hall ⟨1,.data⟩ qc3 rfl
   exact⟨rfl,zal (fun c h=>by cases h) (zcj rfl tk3 (fun _=>rfl) (hS.v 1 qag qag h1) hS.g0 rfl rfl rfl) rfl (znj hS (i:=2) qag qag rfl)⟩
  ·have ho:=Option.some.inj (show some _=some o from ho)
   subst ho
   exact⟨rfl,zal (fun c h=>by cases h) (zc2 (ki:=.i64) (i:=1) rfl ta265 hS.e1 rfl qag qag) rfl (znj hS (i:=3) qag qag rfl)⟩
  ·have ho:=Option.some.inj (show some _=some o from ho)
   subst ho
   have h1:=hall ⟨3,.data⟩ qc3 rfl
   exact⟨rfl,zal (fun c h=>by cases h) (zcj rfl tk3 (fun _=>rfl) (hS.v 3 qag qag h1) hS.g0 rfl rfl rfl) rfl (znj hS (i:=4) qag qag rfl)⟩
  ·have ho:=Option.some.inj (show some _=some o from ho)
   subst ho
   have h1:=hall ⟨2,.data⟩ qc3 rfl
   have h2:=hall ⟨4,.data⟩ qc3 rfl
   refine⟨rfl,zal (fun c h=>by cases h) (ze8 (l:=[.d (iD a),.d (iD b)]) rfl zsk ?_) rfl (znj hS (i:=5) qag qag rfl)⟩
   have e1:=hS.v 2 qag qag h1
   have e2:=hS.v 4 qag qag h2
   show fillA [(0,1),(1,1)] [.d (iD 0),.d (iD 0)] [(0,lk s.env (26+2)),(1,lk s.env (26+4))]=_
   rw[e1,e2]
   rfl
  ·have ho:=Option.some.inj (show some _=some o from ho)
   subst ho
   have h0:=hall ⟨0,.data⟩ qc3 rfl
   have h5:=hall ⟨5,.data⟩ qc3 rfl
   exact⟨rfl,zal (fun c h=>by cases h) (s7_lookup hS h0 h5 rfl hm) rfl (znj hS (i:=6) qag qag rfl)⟩
  ·have ho:=Option.some.inj (show some _=some o from ho)
   subst ho
   have h6:=hall ⟨6,.data⟩ qc3 rfl
   have h0:=hall ⟨0,.chain⟩ qc3 rfl
   exact⟨rfl,s7_store hS h6 h0 hL rfl rfl⟩
 ·intro L s hS hall
  exact⟨rfl,rfl,hS.e2,hS.g2 (hall 7 qag)⟩
theorem und263:TOk Pr 263 true 2 16 (.agg [iD 0,iD 0]):=(pok.tab.get (t:=263) (ty:=⟨true,2,16,.agg [iD 0,iD 0],.st [(0,1,false),(1,1,false)]⟩) rfl).tok
theorem prod7(hm:(a,b,c,d)∈tbE.map (·.2))(hpre:∀ c1 c2 rest,Tryz.f211.body=some (.seq c1 (.seq c2 rest))->AWP none Pr G 33 0 c1 ⟨[(0,.d (.agg [iD a,iD b]))],[],0⟩ [] (nextQ (fun s m=>AWP none Pr G 33 0 c2 s m fun e s' m'=>m'=[]/\K7 a b e s') fun _ _ _=>False)) :
  PC Pr G 211 [.agg [iD a,iD b]] (.agg [iD c,iD d]):=by
 refine pc_of ⟨Tryz.f211,Tryz.func211,rfl,rfl⟩ (zn7 Tryz.func211 rfl (show 1<=33 by decide) (ze3 (zay (hpre _ _ _ rfl) ?_)))
 intro e s m h
 cases e with
 | normal =>
  refine ze3 (zay h ?_)
  rintro e s m ⟨rfl,h⟩
  have he:=h.1
  subst he
  refine ze3 (zay (reg7 hm h rfl) ?_)
  rintro e s m ⟨rfl,rfl,h2,h3⟩
  refine zh3 ⟨.inr rfl,rfl,.d (.agg [iD c,iD d]),?_,rfl⟩
  have:=ResRel.cell (P:=Pr) (G:=G) (st:=s) 2 263 2 16 true _ _ 2 0 0 _ _ [.d (iD c),.d (iD d)] und263 (fun h=>by cases h) h2 h3 rfl rfl rfl
  exact ResV.one _ _ this
 | _=>exact h.elim
def prd(a b:Int):Int×Int:=if a=b then(0,0) else if a=0 then(b,0) else if b=0 then(a,0) else if b=a%3+1 then(6-a-b,1) else(6-a-b,3)
theorem zsa(hd:a=b\/a=0\/b=0):PC Pr G 211 [.agg [iD a,iD b]] (.agg [iD (prd a b).1,iD (prd a b).2]):=by
 refine zai pok Tryz.func211 chk211 ?_
 conv=>whnf
 repeat' first|((first|refine LookP.mk _ rfl ?_|refine ShlP.mk _ qaa ?_|refine And.intro qet ?_|refine HpP.force ?_);conv=>whnf)|(intro t ht;cases t<;>conv=>whnf)
 all_goals first
  | (refine fin ?_;simp_all[prd,constD,zjr];done)
  | (exfalso;simp_all;done)
  | (refine fin ?_;simp_all[prd,constD,zjr];split<;>simp_all)
theorem prod7w(hm:(a,b,c,d)∈tbE.map (·.2))(h1:a≠b)(h2:a≠0)(h3:b≠0):PC Pr G 211 [.agg [iD a,iD b]] (.agg [iD c,iD d]):=by
 refine prod7 hm fun c1 c2 rest he=>?_
 cases he
 refine zay (za0 (hd:=fun p:omP.W=>p) (T:=tab) (xPm pok) loopPm _ _ (fun e s=>Fin (e = .normal/\s=⟨[(2,.ptr 1 2 0 0),(1,.ptr 0 2 0 0),(0,.d (.agg [iD a,iD b]))],[(1,some (.arr 2 [[.d (iD 0),.d (iD 0)]])),(0,some (.arr 2 [[.d (iD a),.d (iD b)]]))],2⟩)) qah ?_) ?_
 ·conv=>whnf
  repeat' first|((first|refine LookP.mk _ rfl ?_|refine ShlP.mk _ qaa ?_|refine And.intro qet ?_|refine HpP.force ?_);conv=>whnf)|(intro t ht;cases t<;>conv=>whnf)
  all_goals exact⟨rfl,rfl⟩
 ·rintro e s m ⟨rfl,⟨rfl,rfl⟩⟩
  refine zay (za0 (hd:=fun p:omP.W=>p) (T:=tab) (xPm pok) loopPm _ _ (fun e s=>Fin (K7 a b e s)) qah ?_) fun _ _ _ h=>⟨h.1,unfin h.2⟩
  conv=>whnf
  repeat' first|((first|refine LookP.mk _ rfl ?_|refine ShlP.mk _ qaa ?_|refine And.intro qet ?_|refine HpP.force ?_);conv=>whnf)|(intro t ht;cases t<;>conv=>whnf)
  all_goals first
   | exact fin ⟨rfl,rfl,rfl,rfl,rfl,rfl⟩
   | (exfalso;simp_all;done)
theorem zq1(ha:0<=a/\a<=3)(hb:0<=b/\b<=3):PC Pr G 211 [.agg [iD a,iD b]] (.agg [iD (prd a b).1,iD (prd a b).2]):=by
 by_cases h1:a=b
 ·exact zsa (.inl h1)
 by_cases h2:a=0
 ·exact zsa (.inr (.inl h2))
 by_cases h3:b=0
 ·exact zsa (.inr (.inr h3))
 have e1:a=1\/a=2\/a=3:=qad
 have e2:b=1\/b=2\/b=3:=qad
 rcases e1 with rfl|rfl|rfl<;>rcases e2 with rfl|rfl|rfl<;>first|exact absurd rfl h1|exact prod7w qag qag qag qag
end Go.Tz
namespace Go.Tz
open Go Go.AL Go.Proofs
def prodO(ds:List D):Option D:=match ds with
 | [.agg [.int .i64 a,.int .i64 b]]=>match decide (0<=a/\a<=3/\0<=b/\b<=3) with
  | true=>some (.agg [iD (prd a b).1,iD (prd a b).2])
  | false=>none
 | _=>none
theorem prodO_ok{G:Nat->Option (List D)}{ds:List D}{d:D}(h:prodO ds=some d):PC Pr G 211 ds d:=by
 unfold prodO at h
 split at h
 ·split at h
  ·rename_i hd
   cases h
   simp only[decide_eq_true_eq]at hd
   exact zq1 ⟨hd.1,hd.2.1⟩ hd.2.2
  ·exact qed
 ·exact qed
def OV:Ov:=fun f ds=>match Nat.beq f 211 with
 | true=>prodO ds
 | false=>none
theorem ov_ok{G:Nat->Option (List D)}:OvOk Pr G OV:=pc_ov fun f ds d h=>by
 unfold OV at h
 split at h
 ·rename_i e
  have:=Nat.eq_of_beq_eq_true e
  subst this
  exact prodO_ok h
 ·exact qed
noncomputable def rn(f:FuncId)(ds:List D):Option D:=runD FF tab GG OV 400 f ds
theorem zkj{f:FuncId}{ds:List D}{d:D}(h:rn f ds=some d):PC Pr GG f ds d:=pc_run ff_ok ov_ok pok h
abbrev psD(w x z p:Int):List D:=[iD w,iD x,iD z,iD p]
abbrev gtD(k:Int)(ws:List Int):List D:=[iD k,.sl (ws.map fun w=>[iD w]) true,iD 0,iD 0]
end Go.Tz
namespace Go.Tz
open Go Go.AL Go.Proofs
abbrev bellD:D:=.agg [iD 2,.sl [psD 2 3 0 0,psD 2 0 3 0] true]
abbrev yD:D:=.agg [iD 1,.sl [psD 1 1 1 0] true]
abbrev zeroD:D:=.agg [iD 2,.sl [psD 2 0 1 0,psD 2 0 2 0] false]
abbrev nmD(a b c d k:Int):List D:=[iD a,iD b,iD c,iD d,iD k]
theorem aw_of:PC Pr GG 49 [.agg [iD 2,iD 0,.sl [gtD 4 [0],gtD 9 [0,1]] true]] (.tup [bellD,iD 0]):=zkj qah
theorem aw_of2:PC Pr GG 49 [.agg [iD 1,iD 0,.sl [gtD 4 [0],gtD 5 [0]] true]] (.tup [yD,iD 0]):=zkj qah
theorem aw_vec:PC Pr GG 20 [bellD] (.tup [.sl [nmD 1 0 0 0 1,nmD 0 0 0 0 0,nmD 0 0 0 0 0,nmD 1 0 0 0 1] false,iD 0]):=zkj qah
theorem aw_meas:PC Pr GG 56 [bellD,iD 0,iD 1] (.tup [.agg [iD 2,.sl [psD 2 0 1 2,psD 2 0 2 2] true],iD 1,iD 0]):=zkj qah
theorem aw_exp:PC Pr GG 48 [bellD,.agg (psD 2 3 3 2)] (.tup [iD 1,iD 0]):=zkj qah
theorem aw_zero:PC Pr GG 35 [iD 2] (.tup [zeroD,iD 0]):=zkj qah
theorem aw_ov:PC Pr GG 33 [zeroD,bellD] (.tup [iD 1,iD 0]):=zkj qah
theorem aw_ent:PC Pr GG 34 [bellD,.sl [[iD 0]] true] (.tup [iD 1,iD 0]):=zkj qah
theorem aw_amp:PC Pr GG 21 [yD,iD 1] (.tup [.agg (nmD 0 0 1 0 1),iD 0]):=zkj qah
end Go.Tz
namespace Go.Tz
open Go Go.AL Go.Proofs
def kB:IntKind->IntKind->Bool
 | .i64,.i64=>true
 | _,_=>false
theorem kB_eq{a b:IntKind}(h:kB a b=true):a=b:=by
 cases a<;>cases b<;>first|rfl|cases h
mutual
def dB:D->D->Bool
 | .bool a,.bool b=>a==b
 | .int k a,.int l b=>kB k l&&(a==b)
 | .agg l,.agg m=>dBs l m
 | .tup l,.tup m=>dBs l m
 | .sl l t,.sl m u=>dBss l m&&(t==u)
 | _,_=>false
termination_by structural x=>x
def dBs:List D->List D->Bool
 | [],[]=>true
 | a::l,b::m=>dB a b&&dBs l m
 | _,_=>false
termination_by structural x=>x
def dBss:List (List D)->List (List D)->Bool
 | [],[]=>true
 | a::l,b::m=>dBs a b&&dBss l m
 | _,_=>false
termination_by structural x=>x
end
mutual
theorem dB_eq:∀(a b:D),dB a b=true->a=b
 | .bool a,b,h=>by cases b<;>simp_all[dB]
 | .int k a,b,h=>by
  cases b<;>simp[dB]at h
  rw[kB_eq h.1,h.2]
 | .agg l,b,h=>by
  cases b<;>simp[dB]at h
  rw[zrp l _ h]
 | .tup l,b,h=>by
  cases b<;>simp[dB]at h
  rw[zrp l _ h]
 | .sl l t,b,h=>by
  cases b<;>simp[dB]at h
  rw[dBss_eq l _ h.1,h.2]
 | .str _,b,h=>by cases b<;>simp[dB]at h
 | .nilp,b,h=>by cases b<;>simp[dB]at h
 | .nilf,b,h=>by cases b<;>simp[dB]at h
 | .nilm,b,h=>by cases b<;>simp[dB]at h
 | .opq _,b,h=>by cases b<;>simp[dB]at h
 | .any,b,h=>by cases b<;>simp[dB]at h
 | .rop _ _,b,h=>by cases b<;>simp[dB]at h
 | .fn _ _ _,b,h=>by cases b<;>simp[dB]at h
theorem zrp:∀(a b:List D),dBs a b=true->a=b
 | [],b,h=>by cases b<;>simp_all[dBs]
 | x::l,b,h=>by
  cases b<;>simp[dBs]at h
  rw[dB_eq x _ h.1,zrp l _ h.2]
theorem dBss_eq:∀(a b:List (List D)),dBss a b=true->a=b
 | [],b,h=>by cases b<;>simp_all[dBss]
 | x::l,b,h=>by
  cases b<;>simp[dBss]at h
  rw[zrp x _ h.1,dBss_eq l _ h.2]
end
abbrev Tb:=List (Nat×List D×D)
def tbO:Tb->FuncId->List D->Option D
 | [],_,_=>none
 | (g,es,d)::r,f,ds=>match Nat.beq g f&&dBs es ds with
  | true=>some d
  | false=>tbO r f ds
theorem tbO_ok{G:Nat->Option (List D)}:∀{t:Tb},AllP (fun p:Nat×List D×D=>PC Pr G p.1 p.2.1 p.2.2) t->∀ f ds d,tbO t f ds=some d->PC Pr G f ds d
 | [],_,f,ds,d,h=>by cases h
 | (g,es,e)::r,ha,f,ds,d,h=>by
  unfold tbO at h
  split at h
  ·rename_i hb
   simp only[Bool.and_eq_true]at hb
   have h1:=Nat.eq_of_beq_eq_true hb.1
   have h2:=zrp _ _ hb.2
   cases h
   subst h1 h2
   exact ha.1
  ·exact tbO_ok ha.2 f ds d h
abbrev awT:Tb:=[(49,[.agg [iD 2,iD 0,.sl [gtD 4 [0],gtD 9 [0,1]] true]],.tup [bellD,iD 0]),(49,[.agg [iD 1,iD 0,.sl [gtD 4 [0],gtD 5 [0]] true]],.tup [yD,iD 0]),
 (20,[bellD],.tup [.sl [nmD 1 0 0 0 1,nmD 0 0 0 0 0,nmD 0 0 0 0 0,nmD 1 0 0 0 1] false,iD 0]),(56,[bellD,iD 0,iD 1],.tup [.agg [iD 2,.sl [psD 2 0 1 2,psD 2 0 2 2] true],iD 1,iD 0]),
 (48,[bellD,.agg (psD 2 3 3 2)],.tup [iD 1,iD 0]),(35,[iD 2],.tup [zeroD,iD 0]),(33,[zeroD,bellD],.tup [iD 1,iD 0]),(34,[bellD,.sl [[iD 0]] true],.tup [iD 1,iD 0]),(21,[yD,iD 1],.tup [.agg (nmD 0 0 1 0 1),iD 0])]
theorem awT_ok:AllP (fun p:Nat×List D×D=>PC Pr GG p.1 p.2.1 p.2.2) awT:=⟨aw_of,aw_of2,aw_vec,aw_meas,aw_exp,aw_zero,aw_ov,aw_ent,aw_amp,trivial⟩
def OV2:Ov:=tbO awT
theorem ov2_ok:OvOk Pr GG OV2:=pc_ov (tbO_ok awT_ok)
end Go.Tz
namespace Go.Tz
open Go Go.AL Go.Proofs
theorem awake_c:PC Pr GG 15 [] (.bool true):=pc_run (T:=tab) (q:=400) ff_ok ov2_ok pok qah
end Go.Tz
namespace Go.Tz
open Go Go.AL Go.Proofs
variable{G:Nat->Option (List D)}
def bitI(x n:Int):Int:=iand .i64 (ishr .i64 x n) 1
def letterI(x z n:Int):Int:=if bitI x n=1/\bitI z n=1 then 2 else if bitI x n=1 then 1 else if bitI z n=1 then 3 else 0
def turnI(a b:Int):Int×Int:=if a=0 then(0,b) else if b=0 then(0,a) else if a=b then(0,0) else if b=iadd .i64 (a.tmod 3) 1 then(1,isub .i64 (isub .i64 6 a) b) else(3,isub .i64 (isub .i64 6 a) b)
def withI(x z n l:Int):Int×Int :=
 let x1:=if letterI x z n=1\/letterI x z n=2 then isub .i64 x (ishl .i64 1 n) else x
 let z1:=if bitI z n=1 then isub .i64 z (ishl .i64 1 n) else z
 (if l=1\/l=2 then iadd .i64 x1 (ishl .i64 1 n) else x1,if l=2\/l=3 then iadd .i64 z1 (ishl .i64 1 n) else z1)
end Go.Tz
namespace Go.Tz
open Go Go.AL Go.Proofs
variable{G:Nat->Option (List D)}
theorem zci{a b:Int}(h0:-9223372036854775808<=a+b)(h1:a+b<9223372036854775808):iadd .i64 a b=a+b:=by
 unfold iadd;rw[IntKind.wrap_i64];omega
def mulI(x z x' z' n0:Int):Nat->Int×Int×Int
 | 0=>(0,0,n0)
 | k+1=>((withI (mulI x z x' z' n0 k).1 (mulI x z x' z' n0 k).2.1 k (turnI (letterI x z k) (letterI x' z' k)).2).1,(withI (mulI x z x' z' n0 k).1 (mulI x z x' z' n0 k).2.1 k (turnI (letterI x z k) (letterI x' z' k)).2).2,
   iadd .i64 (mulI x z x' z' n0 k).2.2 (turnI (letterI x z k) (letterI x' z' k)).1)
end Go.Tz
namespace Go.Tz
open Go Go.AL Go.Proofs
variable{G:Nat->Option (List D)}
theorem chk87:chkFn Tryz.f87=true:=qah
theorem clone87(es:List (List D))(tg:Bool)(hes:∀ el,el∈es->el.length=4)(hsc:((es.map (·.map AV.d)).all fun el=>el.all AV.scalar)=true)(hbig:es.length<=1000000) :
  ACall Pr G 87 [.d (.sl es tg)] [] 0 fun v N k=>(v = .d (.sl [] true)/\es=[])\/(v = .sl 1 4 0 (0+es.length) (0+es.length) false/\N.get 1=some (.arr 4 (es.map (·.map .d)))/\k=2):=by
 refine za4 pok Tryz.func87 chk87 ?_
 conv=>whnf
 repeat' first|((first|refine LookP.mk _ rfl ?_|refine ShlP.mk _ qaa ?_|refine And.intro (by first|assumption|decide|omega) ?_|rw[hsc]|(refine And.intro ⟨rfl,by decide,by simp only[List.length_map,Nat.zero_add];omega⟩ ?_)|refine HpP.force ?_);conv=>whnf)|(intro t ht;cases t<;>conv=>whnf)
 ·exact qg9
 ·exact qgt
end Go.Tz
namespace Go.Tz
open Go Go.AL Go.Proofs
variable{G:Nat->Option (List D)}
structure Ps where
 (w x z p:Int)
 deriving DecidableEq
def Ps.l(q:Ps):List D:=[iD q.w,iD q.x,iD q.z,iD q.p]
abbrev Ps.d(q:Ps):D:=.agg q.l
abbrev rowsD(l:List Ps)(t:Bool):D:=.sl (l.map Ps.l) t
abbrev stD(w:Int)(l:List Ps)(t:Bool):D:=.agg [iD w,rowsD l t]
def offB(n lo hi:Int):Bool:=decide (n<lo)||decide (n>hi)
def pchkI(q:Ps):Int:=if offB q.w 1 12 then 3 else if offB q.x 0 (isub .i64 (ishl .i64 1 q.w) 1)||offB q.z 0 (isub .i64 (ishl .i64 1 q.w) 1) then 1 else if offB q.p 0 3 then 3 else 0
end Go.Tz
namespace Go.Tz
open Go Go.AL Go.Proofs
variable{G:Nat->Option (List D)}
theorem iquo_eq{c d:Int}(h0:0<=c)(h1:c<1000000)(hd:1<=d)(hd2:d<1000000): iquo .i64 c d=c / d:=by
 unfold iquo
 rw[Int.tdiv_eq_ediv_of_nonneg h0,IntKind.wrap_i64]
 have h2:0<=c / d:=Int.ediv_nonneg h0 qad
 have h3:c / d<=c:=Int.ediv_le_self d h0
 omega
theorem zcb{a b:Int}(h0:-9223372036854775808<=a-b)(h1:a-b<9223372036854775808):isub .i64 a b=a-b:=by
 unfold isub;rw[IntKind.wrap_i64];omega
theorem zch{a b:Int}(h0:-9223372036854775808<=a*b)(h1:a*b<9223372036854775808):imul .i64 a b=a*b:=by
 unfold imul;rw[IntKind.wrap_i64];omega
def bitB(q:Ps)(c:Int):Bool:=decide (bitI (if c%2=0 then q.x else q.z) (c / 2)=1)
def leadF(q:Ps):Nat->Nat->Int
 | 0,_=>-1
 | f+1,k=>if bitB q k=true then k else leadF q f (k+1)
def leadI(q:Ps):Int:=leadF q (2*q.w.toNat) 0
end Go.Tz
namespace Go.Tz
open Go Go.AL Go.Proofs
variable{G:Nat->Option (List D)}
theorem zpb{l:List Ps}{k:Nat}(h:k<l.length):(l.map Ps.l)[(k:Int).toNat]?=some (l[k]).l:=qec
theorem zkl(l:List Ps):∀ el,el∈l.map Ps.l->el.length=4:=by
 intro el h
 obtain⟨q,_,rfl⟩:=List.mem_map.1 h
 rfl
theorem rows_sc(l:List Ps):(((l.map Ps.l).map (·.map AV.d)).all fun el=>el.all AV.scalar)=true:=by
 simp[Ps.l,AV.scalar,D.scalar]
theorem zbe{α:Type}{l:List α}{k:Nat}(h:k<l.length):l.take (k+1)=l.take k++[l[k]]:=by
 rw[List.take_add_one,List.getElem?_eq_getElem h];rfl
def mulS(q r:Ps):Ps:=⟨q.w,(mulI q.x q.z r.x r.z (iadd .i64 q.p r.p) q.w.toNat).1,(mulI q.x q.z r.x r.z (iadd .i64 q.p r.p) q.w.toNat).2.1,(mulI q.x q.z r.x r.z (iadd .i64 q.p r.p) q.w.toNat).2.2.tmod 4⟩
end Go.Tz
namespace Go.Tz
open Go Go.AL Go.Proofs
variable{G:Nat->Option (List D)}
def bl1(n:Nat)(f:Nat->Bool):Blk:=.arr 1 ((List.range n).map fun q=>[.d (.bool (f q))])
def whE(n:Nat)(wn:Nat->Nat)(i:Nat):Blk:=.arr 1 ((List.range i).map fun j=>[.sl (wn j) 1 0 n n true])
def rowsA(l:List Ps):List (List AV):=l.map fun q=>q.l.map AV.d
def hp0(l:List Ps)(i:Nat):AHeap:=(1,some (.arr 4 (rowsA l)))::(3*i+2,some (whE l.length (fun j=>3*j+3) i))::(List.range i).map fun j=>(3*j+3,some (bl1 l.length fun q=>q==j))
theorem nbeq(n:Nat):Nat.beq n n=true:=qc3
end Go.Tz
namespace Go.Tz
open Go Go.AL Go.Proofs
variable{G:Nat->Option (List D)}
def loopsOf:Code->List Code
 | .seq c d=>loopsOf c++loopsOf d
 | .cond _ c d=>loopsOf c++loopsOf d
 | .block _ c=>loopsOf c
 | .scope c=>loopsOf c
 | .loop c=>c::loopsOf c
 | _=>[]
noncomputable def loopAt(f:Func)(i:Nat):Code:=match f.body with
 | some c=>(loopsOf c).getD i .skip
 | none=>.skip
end Go.Tz
namespace Go.Tz
open Go Go.AL Go.Proofs
variable{G:Nat->Option (List D)}
def clrR(rf:Nat->Ps)(a c i:Nat):Nat->Ps:=fun j=>if j<i/\j≠a/\bitB (rf j) c=true then mulS (rf j) (rf a) else rf j
def clrB(rf:Nat->Ps)(wb:Nat->Nat->Bool)(n a c i:Nat):Nat->Nat->Bool:=fun j=>if j<i/\j≠a/\bitB (rf j) c=true then(fun q=>if q<n then wb j q != wb a q else wb j q) else wb j
theorem clrR_a(rf:Nat->Ps)(a c i:Nat):clrR rf a c i a=rf a:=by simp[clrR]
theorem clrR_ge(rf:Nat->Ps)(a c i j:Nat)(h:i<=j):clrR rf a c i j=rf j:=by simp[clrR,Nat.not_lt.2 h]
theorem clrR_same{rf:Nat->Ps}{a c i:Nat}(h:¬(i≠a/\bitB (rf i) c=true)):clrR rf a c (i+1)=clrR rf a c i:=by
 funext j
 unfold clrR
 by_cases e:j=i
 ·subst e
  rw[if_neg (fun q=>h q.2),if_neg (fun q=>h q.2)]
 ·have:(j<i+1) ↔ (j<i):=by omega
  simp only[this]
theorem clrR_set{rf:Nat->Ps}{a c i:Nat}(hia:i≠a)(hb:bitB (rf i) c=true):clrR rf a c (i+1)=fun j=>if j=i then mulS (rf i) (rf a) else clrR rf a c i j:=by
 funext j
 unfold clrR
 by_cases e:j=i
 ·subst e
  rw[if_pos ⟨Nat.lt_succ_self _,hia,hb⟩,if_pos rfl]
 ·have:(j<i+1) ↔ (j<i):=by omega
  simp only[this,if_neg e]
end Go.Tz
namespace Go.Tz
open Go Go.AL Go.Proofs
variable{G:Nat->Option (List D)}
theorem zef{n b:Nat}{ms:List Nat}{c:Code}{st:St}{k:Exit->St->Prop}{σ:Type}(I:σ->St)(μ:σ->Nat)(s0:σ)(h0:Sub G b ms st (I s0))(hc:chkCode n c=true)
  (round:∀(s:σ) (A:St->Prop),(∀ st t,Sub G b ms st (I t)->μ t<μ s->A st)->xcode omP tab G (cPm Pr G) (dPm Pr G) (lPm Pr G n b ms) c (I s) fun e st'=>nextK e st' A k):LoopVC Pr G n b ms c st k :=
 zvl pok I μ s0 h0 hc fun s=>round s _ fun _ t h1 h2=>.mk t h1 h2
end Go.Tz
namespace Go.Tz
open Go Go.AL Go.Proofs
variable{G:Nat->Option (List D)}
def swapF{α:Type}(f:Nat->α)(a b:Nat):Nat->α:=fun j=>if j=a then f b else if j=b then f a else f j
def Ps.z0:Ps:=⟨0,0,0,0⟩
def fndO(rf:Nat->Ps)(n c a:Nat):Option Nat:=(List.range n).find? fun j=>decide (a<=j)&&bitB (rf j) c
abbrev RS:=(Nat->Ps)×(Nat->Nat->Bool)×Nat
def colS(n c:Nat)(s:RS):RS:=match fndO s.1 n c s.2.2 with
 | none=>s
 | some f=>(clrR (swapF s.1 s.2.2 f) s.2.2 c n,clrB (swapF s.1 s.2.2 f) (swapF s.2.1 s.2.2 f) n s.2.2 c n,s.2.2+1)
def redN(l:List Ps):Nat->RS
 | 0=>(fun j=>l.getD j Ps.z0,fun j q=>q==j,0)
 | c+1=>colS l.length c (redN l c)
theorem get_l0{l:List Ps}(h:0<l.length):(l.map Ps.l)[(0:Int).toNat]?=some (l[0]).l:=qec
end Go.Tz
namespace Go.Tz
open Go Go.AL Go.Proofs
variable{G:Nat->Option (List D)}
noncomputable def c0:Code:=loopAt Tryz.f100 0
end Go.Tz
namespace Go.Tz
open Go Go.AL Go.Proofs
variable{G:Nat->Option (List D)}
def redRows(l:List Ps)(c:Nat):List Ps:=(List.range l.length).map fun j=>(redN l c).1 j
end Go.Tz
namespace Go.Tz
open Go Go.AL Go.Proofs
variable{G:Nat->Option (List D)}
theorem zls(l:List Ps)(c:Nat):(redRows l c).length=l.length:=by simp[redRows]
def rankN(m:List Ps):Nat:=m.countP fun q=>decide (0<=leadI q)
end Go.Tz
namespace Go.Tz
open Go Go.AL Go.Proofs
variable{G:Nat->Option (List D)}
theorem chk111:chkFn Tryz.f111=true:=qah
def pckI(q:Ps):Int:=if q.w<1\/q.w>12 then 3 else if q.x<0\/q.z<0\/q.x>=ishl .i64 1 q.w\/q.z>=ishl .i64 1 q.w then 1 else if q.p<0\/q.p>3 then 3 else 0
theorem zg7(q:Ps):PC Pr G 111 [q.d] (iD (pckI q)):=by
 refine zai pok Tryz.func111 chk111 ?_
 conv=>whnf
 repeat' first|((first|refine LookP.mk _ rfl ?_|refine And.intro (by first|assumption|(simp at *;omega)) ?_|refine HpP.force ?_);conv=>whnf)|(intro t ht;cases t<;>conv=>whnf)
 all_goals refine fin ?_
 all_goals refine congrArg (fun n=>AV.d (iD n)) ?_
 all_goals unfold pckI
 all_goals simp only[decide_eq_true_eq,decide_eq_false_iff_not]at *
 all_goals repeat' split
 all_goals first|rfl|(exfalso;omega)
theorem chk141:chkFn Tryz.f141=true:=qah
def bothI(q r:Ps):Int:=if pckI q≠0 then pckI q else if pckI r≠0 then pckI r else if q.w≠r.w then 7 else 0
theorem both141(q r:Ps):PC Pr G 141 [q.d,r.d] (iD (bothI q r)):=by
 have hq:=zg7 (G:=G) q
 have hr:=zg7 (G:=G) r
 have hb:bothI q r=if pckI q≠0 then pckI q else if pckI r≠0 then pckI r else if q.w≠r.w then 7 else 0:=rfl
 generalize pckI q=a at hq hb
 generalize pckI r=b at hr hb
 rw[hb]
 refine zai pok Tryz.func141 chk141 ?_
 conv=>whnf
 repeat' first|((first|refine LookP.mk _ rfl ?_|refine zak hq ?_|refine zak hr ?_);conv=>whnf)|(intro t ht;cases t<;>conv=>whnf)
 all_goals refine fin ?_
 all_goals refine congrArg (fun n=>AV.d (iD n)) ?_
 all_goals (try simp only[decide_eq_true_eq,decide_eq_false_iff_not]at *)
 all_goals repeat' split
 all_goals first|rfl|(exfalso;omega)|(exfalso;simp at *;omega)
theorem chk157:chkFn Tryz.f157=true:=qah
theorem zl3(q:Ps)(d:D)(n:Int)(hn:0<=n):PC Pr G 157 [.agg [iD q.w,iD q.x,iD q.z,iD q.p,d],iD n] (iD (letterI q.x q.z n)):=by
 refine zai pok Tryz.func157 chk157 ?_
 conv=>whnf
 have hx:=bit01 q.x n
 have hz:=bit01 q.z n
 have hl:letterI q.x q.z n=letterI q.x q.z n:=rfl
 conv at hl=>rhs;unfold letterI bitI
 rw[hl]
 repeat' first|((first|refine LookP.mk _ rfl ?_|refine ShlP.mk _ qaa ?_|refine And.intro (by assumption) ?_|fail);conv=>whnf)|fail
 generalize iand .i64 (ishr .i64 q.x n) 1=a at hx⊢
 generalize iand .i64 (ishr .i64 q.z n) 1=b at hz⊢
 rcases hx with rfl|rfl<;>rcases hz with rfl|rfl
 all_goals refine And.intro qag ?_
 all_goals conv=>whnf
 repeat' first|((first|refine LookP.mk _ rfl ?_|refine HpP.force ?_);conv=>whnf)
 all_goals exact fin rfl
theorem chk212:chkFn Tryz.f212=true:=qah
def oneS(w n l:Int):Ps:=⟨w,if l=1\/l=2 then ishl .i64 1 n else 0,if l=3\/l=2 then ishl .i64 1 n else 0,0⟩
theorem zhk(w n l:Int)(hn:0<=n):PC Pr G 212 [iD w,iD n,iD l] (oneS w n l).d:=by
 refine zai pok Tryz.func212 chk212 ?_
 conv=>whnf
 repeat' first|((first|refine LookP.mk _ rfl ?_|refine ShlP.mk _ qaa ?_|refine And.intro qbi ?_|refine HpP.force ?_);conv=>whnf)|(intro t ht;cases t<;>conv=>whnf)
 all_goals refine fin ?_
 all_goals simp_all[oneS,Ps.l]
end Go.Tz
namespace Go.Tz
open Go Go.AL Go.Proofs
variable{G:Nat->Option (List D)}
theorem chk142:chkFn Tryz.f142=true:=qah
def timI(x z x' z' n0:Int):Nat->Int×Int×Int
 | 0=>(0,0,n0)
 | k+1=>(ior .i64 (timI x z x' z' n0 k).1 (oneS 0 k (prd (letterI x z k) (letterI x' z' k)).1).x,ior .i64 (timI x z x' z' n0 k).2.1 (oneS 0 k (prd (letterI x z k) (letterI x' z' k)).1).z,
   iadd .i64 (timI x z x' z' n0 k).2.2 (prd (letterI x z k) (letterI x' z' k)).2)
def timS(q r:Ps):Ps:=⟨q.w,(timI q.x q.z r.x r.z (iadd .i64 q.p r.p) q.w.toNat).1,(timI q.x q.z r.x r.z (iadd .i64 q.p r.p) q.w.toNat).2.1,(timI q.x q.z r.x r.z (iadd .i64 q.p r.p) q.w.toNat).2.2.tmod 4⟩
theorem tim_w:∀(l:List Ps) (q:Ps),(l.foldl timS q).w=q.w
 | [],_=>rfl
 | r::l,q=>tim_w l (timS q r)
theorem zvm(x z n:Int):0<=letterI x z n/\letterI x z n<=3:=by
 unfold letterI;split<;>(try split)<;>(try split)<;>omega
theorem zul{l:List Ps}{i:Nat}(h:i<l.length)(q:Ps):(l.take (i+1)).foldl timS q=timS ((l.take i).foldl timS q) l[i]:=by
 rw[zbe h,List.foldl_append];rfl
theorem znb(q:Ps)(l:List Ps)(t:Bool)(hw:0<=q.w/\q.w<=24)(hl:l.length<=1000):PC Pr G 142 [q.d,rowsD l t] (l.foldl timS q).d:=by
 refine zai pok Tryz.func142 chk142 ?_
 conv=>whnf
 skip
 refine zaq pok (fun i=>⟨[(2,.ptr 0 4 0 0),(4,.ptr 1 4 0 0),(13,.d (rowsD l t)),(14,.d (iD (l.map Ps.l).length)),(15,.d (iD i))],[(0,some (.arr 4 [((l.take i).foldl timS q).l.map AV.d])),(1,some (.arr 4 [(Ps.l ⟨0,0,0,0⟩).map AV.d]))],2⟩) (l.length) (fun _=>True) (trivial) ?_ qah ?_ ?_
 ·exact qf2
 ·intro i A_i h_i I_i N_i
  have e_i:iadd .i64 (i:Int) 1=((i+1:Nat):Int):=zah qbl
  have hpw:=tim_w (l.take i) q
  have hsn:=zul h_i q
  generalize (l.take i).foldl timS q=g at hpw hsn⊢
  conv=>whnf
  repeat' first|((first|refine LookP.mk _ qb5 ?_|refine ShlP.mk _ qaa ?_|refine And.intro qbi ?_|refine HpP.force ?_);conv=>whnf)|(intro t ht;cases t<;>conv=>whnf)
  ·exact qbw
  refine zaq pok (fun k=>⟨[(2,.ptr 0 4 0 0),(4,.ptr 1 4 0 0),(7,.d (.fn 157 [.agg [iD g.w,iD g.x,iD g.z,iD g.p,.nilf]] [])),(8,.d (.fn 157 [.agg [iD l[i].w,iD l[i].x,iD l[i].z,iD l[i].p,.nilf]] [])),(9,.ptr 3 4 0 0),(13,.d (rowsD l t)),(14,.d (iD (l.map Ps.l).length)),(15,.d (iD i)),(34,.d (iD g.w)),(35,.d (iD k))],[(0,some (.arr 4 [g.l.map AV.d])),(1,some (.arr 4 [(Ps.l ⟨0,0,0,0⟩).map AV.d])),(3,some (.arr 4 [[.d (iD g.w),.d (iD (timI g.x g.z l[i].x l[i].z (iadd .i64 g.p l[i].p) k).1),.d (iD (timI g.x g.z l[i].x l[i].z (iadd .i64 g.p l[i].p) k).2.1),.d (iD (timI g.x g.z l[i].x l[i].z (iadd .i64 g.p l[i].p) k).2.2)]]))],4⟩) (g.w.toNat) (fun _=>True) (trivial) ?_ qah ?_ ?_
  ·exact qf2
  ·intro k A_k h_k I_k N_k
   have e_k:iadd .i64 (k:Int) 1=((k+1:Nat):Int):=zah qbl
   have hk:0<=(k:Int):=qad
   have hp:=zq1 (G:=G) (zvm g.x g.z k) (zvm l[i].x l[i].z k)
   conv=>whnf
   repeat' first|((first|refine LookP.mk _ rfl ?_|refine ShlP.mk _ qaa ?_|refine And.intro qbi ?_|refine zak (zl3 g .nilf k hk) ?_|refine zak (zl3 l[i] .nilf k hk) ?_|refine zak hp ?_|refine zak (zhk _ _ _ hk) ?_|refine HpP.force ?_);conv=>whnf)|(intro t ht;cases t<;>conv=>whnf)
   ·exact qbw
   refine N_k _ ?_ ?_
   ·exact qbj
   ·exact qf4
  ·intro A_last I_last
   conv=>whnf
   repeat' first|((first|refine LookP.mk _ rfl ?_|refine ShlP.mk _ qaa ?_|refine And.intro qbi ?_|refine HpP.force ?_);conv=>whnf)|(intro t ht;cases t<;>conv=>whnf)
   ·exact qhr
   ·exact qbw
 ·exact qgk
theorem chk66:chkFn Tryz.f66=true:=qah
def mul66(q r:Ps):D:=.tup [if bothI q r=0 then(timS q r).d else(Ps.d ⟨0,0,0,0⟩),iD (bothI q r)]
theorem pck_w{q:Ps}(h:pckI q=0):1<=q.w/\q.w<=12:=by
 unfold pckI at h
 split at h
 ·exact qed
 ·exact qad
theorem both_w{q r:Ps}(h:bothI q r=0):1<=q.w/\q.w<=12:=by
 unfold bothI at h
 split at h
 ·contradiction
 ·rename_i h1;exact pck_w qcz
theorem mul66_c(q r:Ps):PC Pr G 66 [q.d,r.d] (mul66 q r):=by
 have hb:=both141 (G:=G) q r
 have hw:=both_w (q:=q) (r:=r)
 unfold mul66
 generalize bothI q r=e at hb hw⊢
 refine zai pok Tryz.func66 chk66 ?_
 conv=>whnf
 by_cases he:e=0
 ·subst he
  have hw:=hw rfl
  repeat' first|((first|refine LookP.mk _ rfl ?_|refine ShlP.mk _ qaa ?_|refine zak hb ?_|refine zfm (znb q [r] true ⟨by omega,by omega⟩ qc3) rfl ?_|refine HpP.force ?_);conv=>whnf)|(intro t ht;cases t<;>conv=>whnf)
  ·exact fin rfl
  ·exact qcx
 ·repeat' first|((first|refine LookP.mk _ rfl ?_|refine ShlP.mk _ qaa ?_|refine zak hb ?_|refine HpP.force ?_);conv=>whnf)|(intro t ht;cases t<;>conv=>whnf)
  ·exfalso;simp at ht;exact he ht
  ·rw[if_neg he];exact fin rfl
theorem zqi(q:Ps)(l:List Ps):List.take ((List.map Ps.l (q::l)).length-Int.toNat 1) (List.drop (Int.toNat 1) (List.map Ps.l (q::l)))=l.map Ps.l:=by
 show List.take ((List.map Ps.l (q::l)).length-1) (List.drop 1 (List.map Ps.l (q::l)))=_
 rw[List.map_cons,List.drop_one,List.tail_cons]
 exact List.take_of_length_le qc3
theorem chk183:chkFn Tryz.f183=true:=qah
theorem times183(q:Ps)(l:List Ps)(t:Bool)(hl:l.length<=1000)(hv:∀ i (h:i<l.length),bothI ((l.take i).foldl timS q) l[i]=0):PC Pr G 183 [rowsD (q::l) t] (l.foldl timS q).d:=by
 refine zai pok Tryz.func183 chk183 ?_
 conv=>whnf
 repeat' first|((first|refine LookP.mk _ rfl ?_|refine ShlP.mk _ qaa ?_|refine And.intro (by first|exact⟨by simp,Nat.le_refl _,zkl _⟩|assumption|exact⟨by kernel_rfl,rfl⟩|decide|omega) ?_|refine HpP.force ?_);conv=>whnf)
 refine zaq pok (fun i=>⟨[(2,.ptr 0 4 0 0),(3,.ptr 1 4 0 0),(10,.d (rowsD l t)),(11,.d (iD (l.map Ps.l).length)),(12,.d (iD i))],[(0,some (.arr 4 [(Ps.l ⟨0,0,0,0⟩).map AV.d])),(1,some (.arr 4 [((l.take i).foldl timS q).l.map AV.d]))],2⟩) (l.length) (fun _=>True) (trivial) ?_ qah ?_ ?_
 ·refine zac qac ?_ ?_ trivial
  ·repeat' first|exact trivial|refine⟨⟨by first|rfl|assumption|(show AV.d (D.sl (List.take _ _) _)=AV.d (D.sl (l.map Ps.l) t);rw[zqi];simp)|(show AV.d (D.int .i64 ((List.take _ _).length:Nat))=_;rw[zqi]),rfl⟩,?_⟩
  ·exact qab
 ·intro i A_i h_i I_i N_i
  have e_i:iadd .i64 (i:Int) 1=((i+1:Nat):Int):=zah qbl
  have hsn:=zul h_i q
  have hb:=hv i h_i
  have hm:=mul66_c (G:=G) ((l.take i).foldl timS q) l[i]
  unfold mul66 at hm
  rw[hb,if_pos rfl]at hm
  generalize (l.take i).foldl timS q=g at hsn hm⊢
  conv=>whnf
  repeat' first|((first|refine LookP.mk _ qb5 ?_|refine ShlP.mk _ qaa ?_|refine And.intro qbi ?_|refine zak hm ?_|refine HpP.force ?_);conv=>whnf)|(intro t ht;cases t<;>conv=>whnf)
  ·exact qbw
  ·exact qhr
 ·exact qgk
end Go.Tz
