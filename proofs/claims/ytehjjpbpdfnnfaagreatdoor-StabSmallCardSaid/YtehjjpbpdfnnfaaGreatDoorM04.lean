import Derived.Test.YtehjjpbpdfnnfaaGreatDoorM00
import Derived.Test.YtehjjpbpdfnnfaaGreatDoorM03
import Derived.KernelRfl
import Derived.Laws.BitsLemmas
import Derived.Test.YtehjjpbpdfnnfaaGreatDoorProg
namespace Go.AL
open Go
variable{P:Program}{G:Nat->Option (List D)}{T:Tab}{r:Option Nat}{n b:Nat}{ms:List Nat}{st:St}
theorem CC{c:Code}{k:Exit->St->Prop}(h:kw r P G n b c st ms fun e st' ms'=>ms'=ms /\ ∃ st'',Sub G b ms st' st''/\k e st''):kw r P G n b c st ms fun e st' ms'=>ms'=ms/\k e st':=by
 intro X C a hR hX;refine wpIn_mono (h X C a hR hX) ?_;rintro e a' w' ⟨st',ms',C',rfl,⟨rfl,st'',hs,hk⟩,h3,h4⟩;obtain⟨C'',e1,r1,t1⟩:=hs n C' a' h3;exact⟨st'',ms',C'',e1,⟨rfl,hk⟩,r1,h4.trans (t1 X (xu hX h4))⟩
inductive Q0 (P:Program) (G:Nat->Option (List D)) (n b:Nat) (ms:List Nat) (id:Nat) (ops:Array Oper) (st:St) (k:Exit->St->Prop):Prop
 | mk (h:∀ r,kw r P G n b (.region id ops true) st ms fun e st' ms'=>ms'=ms /\ ∃ st'',Sub G b ms st' st''/\k e st'')
noncomputable def qv(P:Program)(ID:Nat)(T:Tab)(G:Nat->Option (List D))(n b:Nat)(ms:List Nat)(c:Code):XC np :=
 @Code.rec (fun _=>XC np)
  (fun st k=>k .normal st)
  (fun id ops draw=>match draw,Nat.beq id ID with
   | true,true=>fun st k=>Q0 P G n b ms id ops st k
   | draw,_=>su np T G (Lx P G) (Ly P G) ops draw)
  (fun _ _ ihc ihd st k=>ihc st fun e st'=>pK e st' (fun st'=>ihd st' k) k)
  (fun c _ _ ihx ihy st k=>sr np G c st (ihx st k) (ihy st k))
  (fun id _ ih st k=>ih st fun e st'=>sP id e st' k)
  (fun c _ st k=>(QS P G n b ms) c st k)
  (fun _ _ _ _ _ _ _ _=>np.bad)
  (fun id st k=>k (.exit id) st)
  (fun _ ih st k=>ih st fun e st'=>Ha e st' k)
  (fun _ st k=>k .normal st)
  (fun _ _ _=>np.bad)
  (fun st k=>k .ret st)
  (fun _ _ _=>np.bad) c
theorem dQ(hp:POk P T){ID:Nat}:∀(c:Code) (st:St) (k:Exit->St->Prop),bf n c=true->qv P ID T G n b ms c st k ->
  kw r P G n b c st ms fun e st' ms'=>ms'=ms/\k e st'
 | .skip,st,k,_,h=>vR ⟨rfl,h⟩
 | .ret,st,k,_,h=>qN ⟨rfl,h⟩
 | .exit id,st,k,_,h=>vP ⟨rfl,h⟩
 | .seq c d,st,k,hc,h=>by
  simp only[bf,li]at hc;refine jx (bd (dQ hp c st _ hc.1 h) ?_);rintro e s m ⟨hm,h⟩;rw[hm];cases e with
  | normal=>exact dQ hp d s k hc.2 h
  | _=>exact⟨rfl,h⟩
 | .cond c x y,st,k,hc,h=>by
  simp only[bf,li]at hc;change sr np G c st (qv P ID T G n b ms x st k) (qv P ID T G n b ms y st k) at h;unfold sr at h;split at h
  ·rename_i hv;exact iP hv (fun _=>dQ hp x st k hc.1 h) (fun e=>by cases e)
  ·rename_i hv;exact iP hv (fun e=>by cases e) (fun _=>dQ hp y st k hc.2 h)
  ·exact h.elim
 | .block id c,st,k,hc,h=>by
  refine oM (bd (dQ hp c st _ hc h) ?_);rintro e s m ⟨hm,h⟩;rw[hm];cases e with
  | exit i =>
   simp only[sQ];simp only[sP]at h;split at h
   ·exact qd4
   ·exact qd4
  | _=>exact⟨rfl,h⟩
 | .region id ops false,st,k,hc,h=>bJ (hd:=fun p:np.W=>p) (Wj hp) mz (.region id ops false) st k hc h
 | .region id ops true,st,k,hc,h=>by
  cases q:Nat.beq id ID with
  | true =>
   change (match true,Nat.beq id ID with
    | true,true=>fun st k=>Q0 P G n b ms id ops st k
    | draw,_=>su np T G (Lx P G) (Ly P G) ops draw:XC np) st k at h
   rw[q]at h;obtain⟨h⟩:=(show Q0 P G n b ms id ops st k from h)
   exact CC (h r)
  | false =>
   change (match true,Nat.beq id ID with
    | true,true=>fun st k=>Q0 P G n b ms id ops st k
    | draw,_=>su np T G (Lx P G) (Ly P G) ops draw:XC np) st k at h
   rw[q]at h;exact bJ (hd:=fun p:np.W=>p) (Wj hp) mz (.region id ops true) st k hc h
 | .loop c,st,k,hc,h=>mz c st k hc h
 | .rangeFunc ..,st,k,_,h=>h.elim
 | .scope c,st,k,hc,h=>by
  refine sM (bd (dQ hp c st _ hc h) ?_);rintro e s m ⟨hm,h⟩;rw[hm];cases e with
  | goto l=>exact h.elim
  | _=>exact⟨rfl,h⟩
 | .label _,st,k,_,h=>sL ⟨rfl,h⟩
 | .goto _,st,k,_,h=>h.elim
 | .refuse _,st,k,_,h=>h.elim
theorem NK(hp:POk P T)(ID:Nat){c:Code}{k:Exit->St->Prop}(I:Nat->St)(N:Nat)(Inv:Nat->Prop)(h0:Inv 0)(hs:Sub G b ms st (I 0))(hc:bf n c=true)
  (round:∀(i:Nat) (A:St->Prop),i<N->Inv i->(∀ st',Inv (i+1)->Sub G b ms st' (I (i+1))->A st')->qv P ID T G n b ms c (I i) fun e st'=>pK e st' A k)
  (last:∀(A:St->Prop),Inv N->qv P ID T G n b ms c (I N) fun e st'=>pK e st' A k):P2 P G n b ms c st k:=by
 refine⟨fun r=>nJ (Q:=fun e st' ms'=>ms'=ms/\k e st') (σ:={ i:Nat // i<=N/\Inv i }) (fun s=>I s.1) (fun s=>N-s.1) ⟨0,dW _,h0⟩ hs ?_⟩;rintro⟨i,hi,hI⟩;have key:∀(A:St->Prop),(∀ st',A st'->∃ t:{ i:Nat // i<=N/\Inv i },Sub G b ms st' (I t.1)/\N-t.1<N-i)->(qv P ID T G n b ms c (I i) fun e st'=>pK e st' A k) ->
   kw r P G n b c (I i) ms (Jk (fun s' m'=>m'=ms /\ ∃ t:{ i:Nat // i<=N/\Inv i },Sub G b ms s' (I t.1)/\N-t.1<N-i) (fun e st' ms'=>ms'=ms/\k e st')):=fun A hA h=>by
  refine bd (dQ hp c (I i) _ hc h) ?_;rintro e s' m' ⟨hm,h⟩;cases e with
  | normal=>exact⟨hm,hA _ h⟩
  | _=>exact⟨hm,h⟩
 rcases wa1 i N with h|h
 ·exact key _ (fun _ h=>h) (round i (fun st'=>∃ t:{ i:Nat // i<=N/\Inv i },Sub G b ms st' (I t.1)/\N-t.1<N-i) h hI fun st' h1 h2=>⟨⟨i+1,h,h1⟩,h2,by show N-(i+1)<N-i;omega⟩)
 ·have:i=N:=by omega
  subst this;exact key (fun _=>False) (fun _ h=>h.elim) (last _ hI)
end Go.AL
namespace Go.AL
open Go
variable{P:Program}{G:Nat->Option (List D)}{T:Tab}
noncomputable def UF(P:Program)(ID:Nat)(T:Tab)(G:Nat->Option (List D))(fn:Func)(args:List AV)(H:AHeap)(nx:Nat)(k:AV->AHeap->Nat->Prop):Prop:=match fn.body with
 | some c=>match Nat.ble args.length fn.ntmps with
  | true=>dP (yl 0 args) fun e=>qv P ID T G fn.ntmps nx [] c ⟨e,H,nx⟩ fun e st=>endK np T fn.results.toList k e st []
  | false=>False
 | none=>False
theorem HH(hp:POk P T){ID:Nat}{f:FuncId}{fn:Func}{args:List AV}{H:AHeap}{nx:Nat}{k:AV->AHeap->Nat->Prop}(hf:P.funcs[f]?=some fn)(hc:aq fn=true)
  (h:UF P ID T G fn args H nx k):bq P G f args H nx k:=by
 unfold UF at h;split at h
 ·rename_i c hb;split at h
  ·rename_i hn;simp only[aq,hb,li]at hc;rw[cR]at h;refine lm hf hb (nA hn) (bd (dQ hp c _ _ hc.2 h) ?_);rintro e s m ⟨rfl,h⟩;cases e with
   | normal=>exact⟨.inl rfl,vn (hd:=fun p:np.W=>p) Gr hp.tab h⟩
   | ret=>exact⟨.inr rfl,vn (hd:=fun p:np.W=>p) Gr hp.tab h⟩
   | _=>exact h.elim
  ·exact h.elim
 ·exact h.elim
theorem NI(hp:POk P T)(ID:Nat){f:FuncId}{fn:Func}{args:List AV}{H:AHeap}{nx:Nat}{K:AV->AHeap->Nat->Prop}(hf:P.funcs[f]?=some fn)(hc:aq fn=true)
  (h:UF P ID T G fn args H nx fun v H' n=>Fin (K v H' n)):bq P G f args H nx K :=
 cu (HH hp hf hc h) fun _ _ _ h=>Qq h
theorem xi(hp:POk P T)(ID:Nat){f:FuncId}{fn:Func}{ds:List D}{d:D}(hf:P.funcs[f]?=some fn)(hc:aq fn=true)
  (h:UF P ID T G fn (ds.map .d) [] 0 fun v _ _=>Fin (v = .d d)):PC P G f ds d :=
 OX (bg hf hc) (NI hp ID hf hc h)
end Go.AL
namespace Go.Ma
def bG:List Nat->Nat->Bool
 | [],v=>v==0
 | a::l,v=>bG l v||bG l (v^^^a)
theorem bL(a b:Nat):a^^^b^^^b=a:=by rw[py,yE,zF]
theorem kM:∀ l:List Nat,bG l 0=true
 | []=>rfl
 | a::l=>by simp[bG,kM l]
theorem dK:∀(l:List Nat) (v w:Nat),bG l v=true->bG l w=true->bG l (v^^^w)=true
 | [],v,w,h1,h2=>by
  simp only[bG,beq_iff_eq]at h1 h2⊢;subst h1 h2;rfl
 | a::l,v,w,h1,h2=>by
  simp only[bG,zG]at h1 h2⊢;rcases h1 with h1|h1<;>rcases h2 with h2|h2
  ·exact .inl (dK l _ _ h1 h2)
  ·right;have:=dK l _ _ h1 h2
   rwa [<- py]at this
  ·right;have:=dK l _ _ h1 h2
   rwa [py,Hy a w,<- py]at this
  ·left;have:=dK l _ _ h1 h2;have e:v^^^a^^^(w^^^a)=v^^^w:=by
    rw[Hy w a,<- py,bL]
   rwa [e]at this
theorem bA:∀(l:List Nat) (a:Nat),a∈l->bG l a=true
 | [],a,h=>by cases h
 | b::l,a,h=>by
  simp only[bG,zG];rcases jJ.1 h with e|e
  ·subst e;right;rw[yE];exact kM l
  ·left;exact bA l a e
theorem fY:∀(l m:List Nat),(∀ a,a∈l->bG m a=true)->∀ v,bG l v=true->bG m v=true
 | [],m,_,v,h=>by
  simp only[bG,beq_iff_eq]at h;subst h;exact kM m
 | a::l,m,hm,v,h=>by
  simp only[bG,zG]at h;have ih:=fY l m (fun a ha=>hm a (eJ _ ha));rcases h with h|h
  ·exact ih v h
  ·have h1:=ih _ h;have h2:=hm a aR;have:=dK m _ _ h1 h2
   rwa [bL]at this
theorem kq{l m:List Nat}(h1:∀ a,a∈l->bG m a=true)(h2:∀ a,a∈m->bG l a=true)(v:Nat):bG l v=bG m v:=by
 have:=fY l m h1 v;have:=fY m l h2 v;cases e:bG l v<;>cases f:bG m v<;>simp_all
theorem pQ{k:Nat}:∀(l:List Nat),(∀ a,a∈l->a<2^k)->∀ v,bG l v=true->v<2^k
 | [],_,v,h=>by
  simp only[bG,beq_iff_eq]at h;subst h;exact sk k
 | a::l,hl,v,h=>by
  simp only[bG,zG]at h;have ih:=pQ l (fun a ha=>hl a (eJ _ ha));rcases h with h|h
  ·exact ih v h
  ·have:=pn (ih _ h) (hl a aR)
   rwa [bL]at this
def rk:List Nat->Nat
 | []=>0
 | a::l=>rk l+(if bG l a then 0 else 1)
theorem PB:∀ l,rk l<=l.length
 | []=>cF 0
 | a::l=>by
  have:=PB l;simp only[rk,Ln];split<;>omega
def cn:Nat->(Nat->Bool)->Nat
 | 0,f=>(f 0).toNat
 | k+1,f=>cn k f+cn k (fun v=>f (v^^^2^k))
theorem jV:∀(k:Nat) (f g:Nat->Bool),(∀ v,v<2^k->f v=g v)->cn k f=cn k g
 | 0,f,g,h=>by simp only[cn];rw[h 0 aR]
 | k+1,f,g,h=>by
  have hp:2^(k+1)=2^k+2^k:=G9;simp only[cn];rw[jV k f g fun v hv=>h v qad];rw[jV k (fun v=>f (v^^^2^k)) (fun v=>g (v^^^2^k)) fun v hv=>h _ (pn qad qad)]
theorem Ip:∀(k:Nat) (f g:Nat->Bool),(∀ v,v<2^k->(f v&&g v)=false)->cn k (fun v=>f v||g v)=cn k f+cn k g
 | 0,f,g,h=>by
  have:=h 0 aR;simp only[cn];cases e:f 0<;>cases e2:g 0<;>simp_all
 | k+1,f,g,h=>by
  have hp:2^(k+1)=2^k+2^k:=G9;simp only[cn];rw[Ip k f g fun v hv=>h v qad];rw[Ip k (fun v=>f (v^^^2^k)) (fun v=>g (v^^^2^k)) fun v hv=>h _ (pn qad qad)];omega
theorem yb{k a:Nat}(ha:a<2^(k+1))(hb:2^k<=a):a^^^2^k<2^k:=by
 have hp:2^(k+1)=2^k+2^k:=G9;have hlt:a^^^2^k<2^(k+1):=pn ha qad;have hbit:a.testBit k=true:=by
  rw[Uu];have:a / 2^k=1:=by
   have h1:1<=a / 2^k:=(Nat.le_div_iff_mul_le (sk k)).2 qad;have h2:a / 2^k<2:=(Nat.div_lt_iff_lt_mul (sk k)).2 qad;omega
  simp[this]
 refine I6 _ fun i hi=>?_;rw[gy,ll];rcases wa1 k i with q|q
 ·have h1:a.testBit i=false:=LM (uU ha (js qad q));have h2:¬ k=i:=qad;simp[h1,h2]
 ·have:i=k:=by omega
  subst this;simp[hbit]
theorem sW:∀(k:Nat) (a:Nat) (f:Nat->Bool),a<2^k->cn k (fun v=>f (v^^^a))=cn k f
 | 0,a,f,h=>by
  have:a=0:=uz;subst this;simp[cn]
 | k+1,a,f,h=>by
  simp only[cn];rcases wa1 a (2^k) with q|q
  ·rw[sW k a f q];have:=sW k a (fun v=>f (v^^^2^k)) q;have e:(fun v=>f (v^^^2^k^^^a))=fun v=>(fun v=>f (v^^^2^k)) (v^^^a):=by
    funext v;simp only[py,Hy a]
   rw[e,this]
  ·have ha:=yb h q;have h1:=sW k (a^^^2^k) (fun v=>f (v^^^2^k)) ha;have h2:=sW k (a^^^2^k) f ha;have e1:(fun v=>f (v^^^a))=fun v=>(fun v=>f (v^^^2^k)) (v^^^(a^^^2^k)):=by
    funext v;simp only[py,yE,zF]
   have e2:(fun v=>f (v^^^2^k^^^a))=fun v=>f (v^^^(a^^^2^k)):=by
    funext v;rw[py,Hy (2^k) a]
   rw[e1,e2,h1,h2,Nat.add_comm]
theorem qT{k:Nat}:∀(l:List Nat),(∀ a,a∈l->a<2^k)->cn k (bG l)=2^rk l
 | [],_=>by
  have:∀ k,cn k (bG [])=1:=by
   intro k
   induction k with
   | zero=>rfl
   | succ k ih =>
    simp only[cn,ih];have:cn k (fun v=>bG [] (v^^^2^k))=cn k (fun _=>false):=jV k _ _ fun v hv=>by
     simp only[bG,beq_eq_false_iff_ne,ne_eq];intro h;have:=congrArg (· ^^^ 2^k) h;simp only[bL,Lo]at this;omega
    rw[this];have z:∀ k,cn k (fun _=>false)=0:=by
     intro k
     induction k with
     | zero=>rfl
     | succ k ih=>simp[cn,ih]
    rw[z]
  simp[this,rk]
 | a::l,hl=>by
  have ih:=qT (k:=k) l (fun a ha=>hl a (eJ _ ha));have ha:=hl a aR;simp only[rk];cases hs:bG l a with
  | true =>
   simp only[if_true,Lq];rw[<- ih];refine jV k _ _ fun v _=>?_;simp only[bG];cases e:bG l v with
   | true=>rfl
   | false =>
    cases e2:bG l (v^^^a) with
    | false=>rfl
    | true =>
     have:=dK l _ _ e2 hs;rw[bL,e]at this;cases this
  | false =>
   have:cn k (bG (a::l))=cn k (bG l)+cn k (fun v=>bG l (v^^^a)):=by
    rw[<- Ip k (bG l) (fun v=>bG l (v^^^a)) fun v _=>?_]
    ·rfl
    ·cases e:bG l v with
     | false=>rfl
     | true =>
      cases e2:bG l (v^^^a) with
      | false=>rfl
      | true =>
       have:=dK l _ _ e e2;rw[<- py,yE,Lo,hs]at this;cases this
   rw[this,sW k a _ ha,ih];simp[Rd];omega
theorem pN{k:Nat}{l m:List Nat}(hl:∀ a,a∈l->a<2^k)(hm:∀ a,a∈m->a<2^k)(h:∀ v,bG l v=bG m v):rk l=rk m:=by
 have h1:=qT l hl;have h2:=qT m hm;have:bG l=bG m:=funext h;rw[this,h2]at h1;exact((Nat.pow_right_inj qaj).1 h1).symm
theorem jq{j:Nat}:∀(l:List Nat),(∀ a,a∈l->a.testBit j=false)->∀ v,bG l v=true->v.testBit j=false
 | [],_,v,h=>by
  simp only[bG,beq_iff_eq]at h;subst h;exact Cj j
 | a::l,hl,v,h=>by
  simp only[bG,zG]at h;have ih:=jq l (fun a ha=>hl a (eJ _ ha));rcases h with h|h
  ·exact ih v h
  ·have:=ih _ h;rw[gy,hl a aR]at this;simpa using this
def ub(l:List Nat):Prop:=rk l=l.length
instance (l:List Nat):Decidable (ub l):=inferInstanceAs (Decidable (rk l=l.length))
theorem kc{a:Nat}{l:List Nat}:ub (a::l) ↔ ub l/\bG l a=false:=by
 have:=PB l;unfold ub;simp only[rk,Ln];cases bG l a<;>simp<;>omega
end Go.Ma
namespace Go.Ma
def jo:Nat->Nat->Bool
 | 0,_=>false
 | k+1,v=>jo k v != v.testBit k
theorem xh(a b:Nat):∀ k,jo k (a^^^b)=(jo k a != jo k b)
 | 0=>rfl
 | k+1=>by
  simp only[jo,xh a b k,gy];cases jo k a<;>cases jo k b<;>cases a.testBit k<;>cases b.testBit k<;>rfl
theorem lL:∀ k,jo k 0=false
 | 0=>rfl
 | k+1=>by simp[jo,lL k]
def bt(a b:Nat):Bool:=jo 12 ((a >>> 12) &&& b)
theorem eF(a b c:Nat):bt (a^^^b) c=(bt a c != bt b c):=by
 unfold bt;rw[Nat.shiftRight_xor_distrib,Nat.and_xor_distrib_right,xh]
theorem dM(a b c:Nat):bt a (b^^^c)=(bt a b != bt a c):=by
 unfold bt;rw[Nat.and_xor_distrib_left,xh]
theorem vU(a:Nat):bt 0 a=false:=by
 unfold bt;rw[Nat.zero_shiftRight,Nat.zero_and,lL]
theorem vV(a:Nat):bt a 0=false:=by
 unfold bt;rw[Nat.and_zero,lL]
abbrev E:=Nat×Nat
def e1:E:=(0,0)
def aU(a b:E):E:=((a.1+b.1+2*(bt a.2 b.2).toNat)%4,a.2^^^b.2)
def dp(a:E):E:=((a.1+2)%4,a.2)
def bw(a b:E):Prop:=bt a.2 b.2=bt b.2 a.2
instance (a b:E):Decidable (bw a b):=inferInstanceAs (Decidable (_=_))
def tc(a:E):Prop:=a.1<4/\(a.1+(bt a.2 a.2).toNat)%2=0
theorem du{a b:E}(h1:a.1=b.1)(h2:a.2=b.2):a=b:=Prod.ext h1 h2
theorem bx(a b c:E):aU (aU a b) c=aU a (aU b c):=by
 refine du ?_ ?_
 ·simp only[aU,eF,dM];cases bt a.2 b.2<;>cases bt a.2 c.2<;>cases bt b.2 c.2<;>simp<;>omega
 ·simp[aU,py]
theorem iU(a:E)(h:a.1<4):aU a e1=a:=by
 refine du ?_ ?_
 ·simp[aU,e1,vV];omega
 ·simp[aU,e1]
theorem eP(a:E)(h:a.1<4):aU e1 a=a:=by
 refine du ?_ ?_
 ·simp[aU,e1,vU];omega
 ·simp[aU,e1]
theorem dL{a b:E}(h:bw a b):aU a b=aU b a:=by
 refine du ?_ ?_
 ·unfold bw at h;simp only[aU,h];omega
 ·simp[aU,Hy]
theorem dn{a:E}(h:tc a):aU a a=e1:=by
 refine du ?_ ?_
 ·have:=h.2;show(a.1+a.1+2*(bt a.2 a.2).toNat)%4=0;omega
 ·simp[aU,e1]
theorem Ix(a b:E):(aU a b).1<4:=Cm _ qaj
theorem RM{a b:E}(ha:tc a)(hb:tc b)(h:bw a b):tc (aU a b):=by
 refine⟨Ix a b,?_⟩;have h1:=ha.2;have h2:=hb.2;unfold bw at h;simp only[aU,eF,dM,h];cases q1:bt a.2 a.2<;>cases q2:bt b.2 b.2<;>cases q3:bt b.2 a.2<;>simp_all<;>omega
theorem bT{a b:E}(h:bw a b):bw b a:=Eq.symm h
theorem sZ(a:E):bw a a:=rfl
theorem wq(a:E):bw a e1:=by simp[bw,e1,vU,vV]
theorem qW{a b c:E}(h1:bw a b)(h2:bw a c):bw a (aU b c):=by
 unfold bw at *;simp only[aU,eF,dM,h1,h2]
theorem CO{a b c:E}(h1:bw a b)(h2:¬ bw a c):¬ bw a (aU b c):=by
 unfold bw at *;simp only[aU,eF,dM,h1]
 revert h2
 cases bt a.2 c.2<;>cases bt c.2 a.2<;>cases bt b.2 a.2<;>simp
theorem CP{a b c:E}(h1:¬ bw a b)(h2:bw a c):¬ bw a (aU b c):=by
 unfold bw at *;simp only[aU,eF,dM,h2]
 revert h1
 cases bt a.2 b.2<;>cases bt b.2 a.2<;>cases bt c.2 a.2<;>simp
theorem um{a b c:E}(h1:¬ bw a b)(h2:¬ bw a c):bw a (aU b c):=by
 unfold bw at *;simp only[aU,eF,dM]
 revert h1 h2
 cases bt a.2 b.2<;>cases bt b.2 a.2<;>cases bt c.2 a.2<;>cases bt a.2 c.2<;>simp
theorem CR{a:E}(h:a.1<4):dp (dp a)=a:=by
 refine du ?_ rfl;show((a.1+2)%4+2)%4=a.1;omega
theorem xa(a b:E):aU a (dp b)=dp (aU a b):=by
 refine du ?_ rfl;show((a.1+(b.1+2)%4+2*(bt a.2 b.2).toNat)%4)=((a.1+b.1+2*(bt a.2 b.2).toNat)%4+2)%4;omega
theorem Ag{a:E}(h:a.1<4):dp a≠a:=by
 intro e;have:(a.1+2)%4=a.1:=congrArg Prod.fst e;omega
theorem wp{a b:E}(ha:tc a)(hb:tc b)(h:a.2=b.2):a=b\/a=dp b:=by
 obtain⟨a1,a2⟩:=a;obtain⟨b1,b2⟩:=b;simp only at h;subst h;obtain⟨h1,h2⟩:=ha;obtain⟨h3,h4⟩:=hb;simp only at h1 h2 h3 h4;have:a1=b1\/a1=(b1+2)%4:=qad;rcases this with h|h
 ·left;rw[h]
 ·right;rw[h];rfl
inductive Gen (L:List E):E->Prop
 | one:Gen L e1
 | mul (a f:E) (ha:a∈L) (hf:Gen L f):Gen L (aU a f)
structure Good (L:List E):Prop where
 ok:∀ a,a∈L->tc a
 com:∀ a b,a∈L->b∈L->bw a b
variable{L M:List E}
theorem O4:tc e1:=by constructor<;>simp[e1,vU]
theorem vo(c:E)(hc:∀ a,a∈L->bw c a){g:E}(h:Gen L g):bw c g:=by
 induction h with
 | one=>exact wq c
 | mul a f ha _ ih=>exact qW (hc a ha) ih
theorem dv(hL:Good L){g:E}(h:Gen L g):tc g:=by
 induction h with
 | one=>exact O4
 | mul a f ha hf ih=>exact RM (hL.ok a ha) ih (vo a (fun b hb=>hL.com a b ha hb) hf)
theorem IO(hL:∀ a,a∈L->a.1<4){a:E}(ha:a∈L):Gen L a:=by
 have:=Gen.mul (L:=L) a e1 ha .one
 rwa [iU a (hL a ha)]at this
theorem bC(hL:Good L){a:E}(ha:a∈L):Gen L a:=IO (fun b hb=>(hL.ok b hb).1) ha
theorem Sh{g h:E}(hg:Gen L g)(hh:Gen L h)(hl:h.1<4):Gen L (aU g h):=by
 induction hg with
 | one=>rw[eP h hl];exact hh
 | mul a f ha _ ih=>rw[bx];exact .mul a _ ha ih
theorem cg(hL:Good L){g h:E}(hg:Gen L g)(hh:Gen L h):Gen L (aU g h):=Sh hg hh (dv hL hh).1
theorem lB(hL:Good L){g h:E}(hg:Gen L g)(hh:Gen L h):bw g h :=
 vo g (fun a ha=>bT (vo a (fun b hb=>hL.com a b ha hb) hg)) hh
theorem AA(hM:Good M)(h:∀ a,a∈L->Gen M a){g:E}(hg:Gen L g):Gen M g:=by
 induction hg with
 | one=>exact .one
 | mul a f ha _ ih=>exact cg hM (h a ha) ih
theorem wJ(h:∀ a,a∈L->a∈M){g:E}(hg:Gen L g):Gen M g:=by
 induction hg with
 | one=>exact .one
 | mul a f ha _ ih=>exact .mul a f (h a ha) ih
theorem vp(hM:Good M)(h:∀ a,a∈L->Gen M a):Good L :=
 ⟨fun a ha=>dv hM (h a ha),fun a b ha hb=>lB hM (h a ha) (h b hb)⟩
theorem eb{g:E}(h:Gen L g):bG (L.map (·.2)) g.2=true:=by
 induction h with
 | one=>exact kM _
 | mul a f ha _ ih=>exact dK _ _ _ (bA _ _ (bm.2 ⟨a,ha,rfl⟩)) ih
theorem ou:∀(L:List E) (v:Nat),bG (L.map (·.2)) v=true->∃ g,Gen L g/\g.2=v
 | [],v,h=>⟨e1,.one,by simp only[QF,bG,beq_iff_eq]at h;rw[h];rfl⟩
 | a::L,v,h=>by
  simp only[nB,bG,zG]at h;rcases h with h|h
  ·obtain⟨g,h1,h2⟩:=ou L v h;exact⟨g,wJ (fun b hb=>eJ _ hb) h1,h2⟩
  ·obtain⟨g,h1,h2⟩:=ou L _ h;refine⟨aU a g,.mul a g aR (wJ (fun b hb=>eJ _ hb) h1),?_⟩;show a.2^^^g.2=v;rw[h2,Hy v,<- py,yE,Lo]
theorem nT{a:E}(hL:Good (a::L)){g:E}(h:Gen (a::L) g):Gen L g \/ ∃ f,Gen L f/\g=aU a f:=by
 have ha:=hL.ok a aR;have hL2:Good L:=⟨fun b hb=>hL.ok b (eJ _ hb),fun b c hb hc=>hL.com b c (eJ _ hb) (eJ _ hc)⟩
 induction h with
 | one=>exact .inl .one
 | mul b f hb _ ih =>
  rcases jJ.1 hb with e|e
  ·subst e;rcases ih with ih|⟨k,h1,h2⟩
   ·exact .inr ⟨f,ih,rfl⟩
   ·left;rw[h2,<- bx,dn ha,eP k (dv hL2 h1).1];exact h1
  ·rcases ih with ih|⟨k,h1,h2⟩
   ·exact .inl (.mul b f e ih)
   ·right;refine⟨aU b k,.mul b k e h1,?_⟩;rw[h2,<- bx,<- bx,dL (hL.com b a hb aR)]
theorem vq{a:E}(hL:Good (a::L)):Good L:=⟨fun b hb=>hL.ok b (eJ _ hb),fun b c hb hc=>hL.com b c (eJ _ hb) (eJ _ hc)⟩
theorem rh:∀{L:List E},Good L->ub (L.map (·.2))->∀{g:E},Gen L g->g.2=0->g=e1
 | [],_,_,g,h,_=>by
  cases h with
  | one=>rfl
  | mul a f ha _=>cases ha
 | a::L,hL,hi,g,h,hz=>by
  rw[nB,kc]at hi;rcases nT hL h with q|⟨f,q,rfl⟩
  ·exact rh (vq hL) hi.1 q hz
  ·have h1:=eb q;have h2:a.2^^^f.2=0:=hz;have:f.2=a.2:=by
    have:=congrArg (fun n=>a.2^^^n) h2;simp only[<- py,yE,Lo,zF]at this;exact this
   rw[this,hi.2]at h1;cases h1
theorem nU(hL:Good L)(hi:ub (L.map (·.2))){g h:E}(hg:Gen L g)(hh:Gen L h)(e:g.2=h.2):g=h:=by
 have h1:=cg hL hg hh;have h2:=rh hL hi h1 (by show g.2^^^h.2=0;rw[e,yE]);have h3:=congrArg (fun x=>aU x h) h2;simp only[bx,dn (dv hL hh),iU g (dv hL hg).1,eP h (dv hL hh).1]at h3;exact h3
end Go.Ma
namespace Go.Ma
def pM(f p:E)(L:List E):List E:=L.map fun q=>if bw q p then q else aU q f
def dJ(p:E):List E->List E
 | []=>[]
 | q::L=>if bw q p then q::dJ p L else p::pM q p L
theorem kj(p:E):∀(L:List E),(∃ q,q∈L /\ ¬ bw q p)->∃ A f B,L=A++f::B/\(∀ a,a∈A->bw a p) /\ ¬ bw f p/\dJ p L=A++p::pM f p B
 | [],⟨q,h,_⟩=>by cases h
 | a::L,⟨q,h,hq⟩=>by
  by_cases ha:bw a p
  ·have:∃ q,q∈L /\ ¬ bw q p:=by
    rcases jJ.1 h with e|e
    ·subst e;exact absurd ha hq
    ·exact⟨q,e,hq⟩
   obtain⟨A,f,B,h1,h2,h3,h4⟩:=kj p L this;refine⟨a::A,f,B,by rw[h1];rfl,?_,h3,?_⟩
   ·intro b hb;rcases jJ.1 hb with e|e
    ·subst e;exact ha
    ·exact h2 b e
   ·simp only[dJ,if_pos ha,h4,yf]
  ·exact⟨[],a,L,rfl,(fun b hb=>by cases hb),ha,by simp only[dJ,if_neg ha,uV]⟩
theorem zp{f p b:E}{L:List E}(h:b∈pM f p L):∃ q,q∈L/\((bw q p/\b=q)\/(¬ bw q p/\b=aU q f)):=by
 obtain⟨q,hq,rfl⟩:=bm.1 h;refine⟨q,hq,?_⟩;by_cases e:bw q p
 ·exact .inl ⟨e,if_pos e⟩
 ·exact .inr ⟨e,if_neg e⟩
theorem rK{L:List E}{p:E}(hL:Good L)(hx:∃ q,q∈L /\ ¬ bw q p){b:E}(hb:b∈dJ p L):b=p\/(Gen L b/\bw p b):=by
 obtain⟨A,f,B,h1,h2,h3,h4⟩:=kj p L hx;have hf:f∈L:=by rw[h1];simp
 rw[h4]at hb;rcases ft.1 hb with q|q
 ·exact .inr ⟨bC hL (by rw[h1];simp[q]),bT (h2 b q)⟩
 rcases jJ.1 q with q|q
 ·exact .inl q
 ·obtain⟨r,hr,q|q⟩:=zp q
  ·obtain⟨q1,rfl⟩:=q;exact .inr ⟨bC hL (by rw[h1];simp[hr]),bT q1⟩
  ·obtain⟨q1,rfl⟩:=q;have hrL:r∈L:=by rw[h1];simp[hr]
   exact .inr ⟨cg hL (bC hL hrL) (bC hL hf),um (fun e=>q1 (bT e)) (fun e=>h3 (bT e))⟩
theorem lO{L:List E}{p:E}(hL:Good L)(hp:tc p)(hx:∃ q,q∈L /\ ¬ bw q p):Good (dJ p L):=by
 refine⟨fun a ha=>?_,fun a b ha hb=>?_⟩
 ·rcases rK hL hx ha with rfl|⟨h,_⟩
  ·exact hp
  ·exact dv hL h
 ·rcases rK hL hx ha with rfl|⟨h,h'⟩<;>rcases rK hL hx hb with rfl|⟨k,k'⟩
  ·exact sZ _
  ·exact k'
  ·exact bT h'
  ·exact lB hL h k
theorem lP{L:List E}{p:E}(hx:∃ q,q∈L /\ ¬ bw q p):p∈dJ p L:=by
 obtain⟨A,f,B,h1,h2,h3,h4⟩:=kj p L hx;rw[h4];simp
theorem pe{L:List E}{p:E}(hL:Good L)(hp:tc p)(hx:∃ q,q∈L /\ ¬ bw q p):∃ f,f∈L /\ ¬ bw p f /\ ∀ g,Gen L g->(bw p g->Gen (dJ p L) g)/\(¬ bw p g->Gen (dJ p L) (aU g f)):=by
 have hG:=lO hL hp hx;obtain⟨A,f,B,h1,h2,h3,h4⟩:=kj p L hx;have hf:f∈L:=by rw[h1];simp
 have h3':¬ bw p f:=fun e=>h3 (bT e);have mem:∀ e,e∈L->(bw p e->Gen (dJ p L) e)/\(¬ bw p e->Gen (dJ p L) (aU e f)):=by
  intro e he;rw[h1]at he;rcases ft.1 he with q|q
  ·exact⟨fun _=>bC hG (by rw[h4];simp[q]),fun h=>absurd (bT (h2 e q)) h⟩
  rcases jJ.1 q with q|q
  ·subst q;exact⟨fun h=>absurd h h3',fun _=>by rw[dn (hL.ok e hf)];exact .one⟩
  ·refine⟨fun h=>bC hG ?_,fun h=>bC hG ?_⟩
   ·rw[h4];refine List.mem_append_right _ (eJ _ (bm.2 ⟨e,q,if_pos (bT h)⟩))
   ·rw[h4];refine List.mem_append_right _ (eJ _ (bm.2 ⟨e,q,if_neg fun h'=>h (bT h')⟩))
 refine⟨f,hf,h3',fun g hg=>?_⟩
 induction hg with
 | one=>exact⟨fun _=>.one,fun h=>absurd (wq p) h⟩
 | mul e k he hk ih =>
  obtain⟨m1,m2⟩:=mem e he;obtain⟨i1,i2⟩:=ih;have cke:bw k f:=lB hL hk (bC hL hf);have cfe:bw f e:=hL.com f e hf he;by_cases ce:bw p e<;>by_cases ck:bw p k
  ·exact⟨fun _=>cg hG (m1 ce) (i1 ck),fun h=>absurd (qW ce ck) h⟩
  ·refine⟨fun h=>absurd h (CO ce ck),fun _=>?_⟩;rw[bx];exact cg hG (m1 ce) (i2 ck)
  ·refine⟨fun h=>absurd h (CP ce ck),fun _=>?_⟩;rw[bx,dL cke,<- bx];exact cg hG (m2 ce) (i1 ck)
  ·refine⟨fun _=>?_,fun h=>absurd (um ce ck) h⟩;have:=cg hG (m2 ce) (i2 ck);rw[dL cke,bx,<- bx f f,dn (hL.ok f hf),eP k (dv hL hk).1]at this;exact this
theorem tw{L:List E}{p:E}(hL:Good L)(hp:tc p)(hx:∃ q,q∈L /\ ¬ bw q p){g:E}(h:Gen (dJ p L) g):∃ k,Gen L k/\bw p k/\(g=k\/g=aU p k):=by
 induction h with
 | one=>exact⟨e1,.one,wq p,.inl rfl⟩
 | mul a f ha _ ih =>
  obtain⟨k,h1,h2,h3⟩:=ih;rcases rK hL hx ha with rfl|⟨q,q'⟩
  ·rcases h3 with rfl|rfl
   ·exact⟨f,h1,h2,.inr rfl⟩
   ·refine⟨k,h1,h2,.inl ?_⟩;rw[<- bx,dn hp,eP k (dv hL h1).1]
  ·refine⟨aU a k,cg hL q h1,qW q' h2,?_⟩;rcases h3 with rfl|rfl
   ·exact .inl rfl
   ·right;rw[<- bx,dL (bT q'),bx]
theorem xm(p:E):∀ L:List E,(dJ p L).length=L.length
 | []=>rfl
 | q::L=>by
  unfold dJ;split
  ·simp[xm p L]
  ·simp[pM]
def U:Nat->List Nat
 | 0=>[]
 | w+1=>2^w::2^(12+w)::U w
theorem yI{w j:Nat}(h:(w<=j/\j<12)\/12+w<=j):∀ a,a∈U w->a.testBit j=false:=by
 induction w with
 | zero=>intro a ha;cases ha
 | succ w ih =>
  intro a ha;rcases jJ.1 ha with e|ha
  ·subst e;rw[ll];simp;omega
  rcases jJ.1 ha with e|ha
  ·subst e;rw[ll];simp;omega
  ·exact ih qad a ha
theorem Fu{w:Nat}(hw:w<=12):∀ a,a∈U w->a<2^24:=by
 induction w with
 | zero=>intro a ha;cases ha
 | succ w ih =>
  intro a ha;rcases jJ.1 ha with e|ha
  ·subst e;exact Fq qaj qad
  rcases jJ.1 ha with e|ha
  ·subst e;exact Fq qaj qad
  ·exact ih qad a ha
theorem J7{w:Nat}(hw:w<=12):ub (U w):=by
 induction w with
 | zero=>rfl
 | succ w ih =>
  have h1:ub (2^(12+w)::U w):=by
   rw[kc];refine⟨ih qad,?_⟩;cases h:bG (U w) (2^(12+w)) with
   | false=>rfl
   | true =>
    have:=jq (j:=12+w) (U w) (yI (.inr (cF _))) _ h;rw[wd3]at this;cases this
  show ub (2^w::2^(12+w)::U w);rw[kc];refine⟨h1,?_⟩;cases h:bG (2^(12+w)::U w) (2^w) with
  | false=>rfl
  | true =>
   have:=jq (j:=w) (2^(12+w)::U w) (fun a ha=>by
    rcases jJ.1 ha with e|ha
    ·subst e;rw[ll];simp
    ·exact yI (.inl ⟨cF _,by omega⟩) a ha) _ h
   rw[wd3]at this;cases this
theorem UH:∀ w,(U w).length=2*w
 | 0=>rfl
 | w+1=>by simp[U,UH w];omega
abbrev sE(w v:Nat):Prop:=bG (U w) v=true
theorem wP{w:Nat}:∀(v:Nat),(∀ j,(w<=j/\j<12)\/12+w<=j->v.testBit j=false)->sE w v:=by
 induction w with
 | zero =>
  intro v h;have:v=0:=Fs fun j=>by rw[Cj];exact h j qad
  subst this;rfl
 | succ w ih =>
  intro v h;have key:∀ u:Nat,(∀ j,(w+1<=j/\j<12)\/12+(w+1)<=j->u.testBit j=false)->u.testBit w=(if w<12 then false else u.testBit w)->bG (2^(12+w)::U w) u=true:=by
   intro u hu huw;cases hb:u.testBit (12+w) with
   | false =>
    simp only[bG,zG];left;refine ih u fun j hj=>?_;by_cases e:j=w
    ·subst e;by_cases q:j<12
     ·rw[huw,if_pos q]
     ·exact hu j qad
    by_cases e2:j=12+w
    ·subst e2;exact hb
    ·exact hu j qad
   | true =>
    simp only[bG,zG];right;refine ih _ fun j hj=>?_;rw[gy,ll];by_cases e2:j=12+w
    ·subst e2;simp[hb]
    have e3:¬ 12+w=j:=fun e=>e2 e.symm;simp only[e3,decide_false,Bool.xor_false];by_cases e:j=w
    ·subst e;by_cases q:j<12
     ·rw[huw,if_pos q]
     ·exact hu j qad
    ·exact hu j qad
  show bG (2^w::2^(12+w)::U w) v=true;cases hb:v.testBit w with
  | false =>
   simp only[bG,zG]at key⊢;left;refine key v h ?_;rw[hb];simp
  | true =>
   have h2:=key (v^^^2^w) (fun j hj=>by
    rw[gy,ll,h j hj];simp;omega) (by rw[gy,wd3,hb];simp)
   rw[bG,zG];exact .inr h2
def cm(a b:Nat):Bool:=bt a b != bt b a
theorem zZ(a b c:Nat):cm a (b^^^c)=(cm a b != cm a c):=by
 unfold cm;rw[dM,eF];cases bt a b<;>cases bt a c<;>cases bt b a<;>cases bt c a<;>rfl
theorem oU(a b c:Nat):cm (a^^^b) c=(cm a c != cm b c):=by
 unfold cm;rw[dM,eF];cases bt a c<;>cases bt b c<;>cases bt c a<;>cases bt c b<;>rfl
theorem RD(a b:Nat):cm a b=cm b a:=by
 unfold cm;cases bt a b<;>cases bt b a<;>rfl
theorem O3(a:Nat):cm a 0=false:=by unfold cm;rw[vU,vV];rfl
theorem jA{a b:E}:bw a b ↔ cm a.2 b.2=false:=by
 unfold cm bw;cases bt a.2 b.2<;>cases bt b.2 a.2<;>simp
theorem vg{c:Nat}:∀(L:List Nat),(∀ a,a∈L->cm c a=false)->∀ v,bG L v=true->cm c v=false
 | [],_,v,h=>by
  simp only[bG,beq_iff_eq]at h;subst h;exact O3 c
 | a::L,hL,v,h=>by
  simp only[bG,zG]at h;have ih:=vg L (fun b hb=>hL b (eJ _ hb));rcases h with h|h
  ·exact ih v h
  ·have:=ih _ h;rw[zZ,hL a aR]at this;simpa using this
theorem rH{k i:Nat}(h:i<k):∀ u,jo k (2^i &&& u)=u.testBit i:=by
 induction k with
 | zero=>omega
 | succ k ih =>
  intro u;simp only[jo,Fo,ll];by_cases e:i=k
  ·subst e;have:∀ m,m<=i->jo m (2^i &&& u)=false:=by
    intro m
    induction m with
    | zero=>intro _;rfl
    | succ m ihm =>
     intro hm;simp only[jo,ihm qad,Fo,ll];have:¬ i=m:=qad;simp[this]
   rw[this i (cF _)];simp
  ·rw[ih qad];simp[e]
theorem Jr{k i:Nat}(h:k<=i)(u:Nat):jo k (u &&& 2^i)=false:=by
 have:∀ m,m<=k->jo m (u &&& 2^i)=false:=by
  intro m
  induction m with
  | zero=>intro _;rfl
  | succ m ihm =>
   intro hm;simp only[jo,ihm qad,Fo,ll];have:¬ i=m:=qad;simp[this]
 exact this k (cF _)
def Nj(c:Nat):Nat:=if c<12 then 2^(12+c) else 2^(c-12)
theorem Io{c:Nat}(h:c<24)(u:Nat):cm (Nj c) u=u.testBit c:=by
 unfold cm Nj bt;split
 ·rename_i hc;have e:(2^(12+c)) >>> 12=2^c:=by
   rw[LL,Nat.pow_add,Wd,Nat.mul_div_cancel _ qaj]
  rw[e,rH hc,Jr qad];simp
 ·rename_i hc;have e:(2^(c-12)) >>> 12=0:=by
   rw[LL];exact Nat.div_eq_of_lt (Fq qaj qad)
  rw[e,Nat.zero_and,lL,Nat.and_comm,rH qad,Nat.testBit_shiftRight];have:12+(c-12)=c:=qad;rw[this];simp
theorem RI{w c:Nat}(_hw:w<=12)(h:c<w\/(12<=c/\c<12+w)):sE w (Nj c):=by
 refine wP _ fun j hj=>?_;unfold Nj;split<;>rw[ll]<;>simp<;>omega
theorem apart{w:Nat}(hw:w<=12):∀(L:List Nat),(∀ a,a∈L->sE w a)->∀ a,sE w a->bG L a=false->∃ v,sE w v/\(∀ r,r∈L->cm v r=false)/\cm v a=true
 | [],_,a,ha,h=>by
  have h0:a≠0:=by simpa[bG] using h
  obtain⟨c,hc⟩:=Nat.exists_testBit_of_ne_zero h0;have hin:c<w\/(12<=c/\c<12+w):=by
   have:¬((w<=c/\c<12)\/12+w<=c):=fun q=>by
    rw[jq (U w) (yI q) a ha]at hc;cases hc
   omega
  exact⟨Nj c,RI hw hin,(fun r hr=>by cases hr),by rw[Io qad,hc]⟩
 | r::L,hL,a,ha,h=>by
  simp only[bG,wdt]at h;have hr:=hL r aR;have ih:=apart hw L (fun b hb=>hL b (eJ _ hb));obtain⟨v,v1,v2,v3⟩:=ih a ha h.1;obtain⟨u,u1,u2,u3⟩:=ih _ (dK _ _ _ ha hr) h.2;cases e1:cm v r with
  | false =>
   refine⟨v,v1,fun b hb=>?_,v3⟩;rcases jJ.1 hb with e|e
   ·subst e;exact e1
   ·exact v2 b e
  | true =>
   cases e2:cm u r with
   | false =>
    refine⟨u,u1,fun b hb=>?_,by rw[zZ,e2]at u3;simpa using u3⟩;rcases jJ.1 hb with e|e
    ·subst e;exact e2
    ·exact u2 b e
   | true =>
    refine⟨v^^^u,dK _ _ _ v1 u1,fun b hb=>?_,?_⟩
    ·rw[oU];rcases jJ.1 hb with e|e
     ·subst e;rw[e1,e2];rfl
     ·rw[v2 b e,u2 b e];rfl
    ·rw[zZ,e2]at u3;rw[oU,v3]
     revert u3
     cases cm u a<;>simp
def fo(L:List Nat)(v:Nat):Bool:=L.all fun r=>!cm v r
theorem lM{L:List Nat}{v:Nat}:fo L v=true ↔ ∀ r,r∈L->cm v r=false:=by
 simp[fo]
theorem Iq{w K:Nat}(hw:w<=12)(hK:∀ a,a∈U w->a<2^K):∀(L:List Nat),(∀ a,a∈L->sE w a)->cn K (fun v=>bG (U w) v&&fo L v)*2^rk L=2^(2*w)
 | [],_=>by
  have:=qT (U w) hK;rw[J7 hw,UH]at this;simp only[rk,Nat.pow_zero,UA];rw[<- this];exact jV _ _ _ fun v _=>by simp[fo]
 | r::L,hL=>by
  have ih:=Iq hw hK L (fun b hb=>hL b (eJ _ hb));have hr:=hL r aR;simp only[rk];cases hs:bG L r with
  | true =>
   simp only[if_true,Lq];rw[<- ih];congr 1;refine jV _ _ _ fun v _=>?_;congr 1;rw[tV,lM,lM];refine⟨fun h b hb=>h b (eJ _ hb),fun h b hb=>?_⟩;rcases jJ.1 hb with e|e
   ·subst e;exact vg L h b hs
   ·exact h b e
  | false =>
   obtain⟨u,u1,u2,u3⟩:=apart hw L (fun b hb=>hL b (eJ _ hb)) r hr hs;have split:cn K (fun v=>bG (U w) v&&fo L v)=cn K (fun v=>bG (U w) v&&fo (r::L) v)+cn K (fun v=>(fun x=>bG (U w) x&&fo (r::L) x) (v^^^u)):=by
    rw[<- Ip]
    ·refine jV _ _ _ fun v _=>?_;have e1:bG (U w) (v^^^u)=bG (U w) v:=by
      rw[tV];refine⟨fun h=>?_,fun h=>dK _ _ _ h u1⟩;have:=dK _ _ _ h u1
      rwa [bL]at this
     have e2:fo L (v^^^u)=fo L v:=by
      rw[tV,lM,lM];refine⟨fun h b hb=>?_,fun h b hb=>?_⟩
      ·have:=h b hb;rw[oU,u2 b hb]at this;simpa using this
      ·rw[oU,u2 b hb,h b hb];rfl
     have e3:fo (r::L) v=(!cm v r&&fo L v):=rfl;have e4:fo (r::L) (v^^^u)=(cm v r&&fo L v):=by
      show(!cm (v^^^u) r&&fo L (v^^^u))=_;rw[e2,oU,u3];simp
     simp only[e1,e3,e4];cases bG (U w) v<;>cases cm v r<;>cases fo L v<;>rfl
    ·intro v _;have e3:fo (r::L) v=(!cm v r&&fo L v):=rfl;have e4:fo (r::L) (v^^^u)=(!cm (v^^^u) r&&fo L (v^^^u)):=rfl;simp only[e3,e4,oU,u3];cases cm v r<;>simp
   rw[sW K u (fun x=>bG (U w) x&&fo (r::L) x) (pQ _ hK _ u1)]at split;rw[split]at ih;rw[<- ih];simp only[QZ,if_false,Rd];have:∀ a b:Nat,a*(b*2)=(a+a)*b:=fun a b=>by rw[Wd b 2,<- Nat.mul_assoc,Nat.mul_two]
   exact this _ _
theorem sU:∀(k:Nat) (f g:Nat->Bool),(∀ v,v<2^k->f v=true->g v=true)->cn k f=cn k g->∀ v,v<2^k->g v=true->f v=true
 | 0,f,g,h,e,v,hv,hg=>by
  have:v=0:=by simpa using hv
  subst this;simp only[cn]at e;rw[hg]at e
  revert e;cases f 0<;>simp
 | k+1,f,g,h,e,v,hv,hg=>by
  have hp:2^(k+1)=2^k+2^k:=G9;have mono:∀(k:Nat) (f g:Nat->Bool),(∀ v,v<2^k->f v=true->g v=true)->cn k f<=cn k g:=by
   intro k
   induction k with
   | zero =>
    intro f g h;have:=h 0 aR;simp only[cn];cases e1:f 0<;>cases e2:g 0<;>simp_all
   | succ k ih =>
    intro f g h;have hp:2^(k+1)=2^k+2^k:=G9;simp only[cn];have h1:=ih f g fun v hv=>h v qad;have h2:=ih (fun v=>f (v^^^2^k)) (fun v=>g (v^^^2^k)) fun v hv=>h _ (pn qad qad);omega
  have hx:∀ v,v<2^k->v^^^2^k<2^(k+1):=fun v hv=>pn qad qad;have m1:=mono k f g fun v hv=>h v qad;have m2:=mono k (fun v=>f (v^^^2^k)) (fun v=>g (v^^^2^k)) fun v hv=>h _ (hx v hv);simp only[cn]at e;rcases wa1 v (2^k) with q|q
  ·exact sU k f g (fun v hv=>h v qad) qad v q hg
  ·have:=sU k (fun v=>f (v^^^2^k)) (fun v=>g (v^^^2^k)) (fun v hv=>h _ (hx v hv)) qad (v^^^2^k) (yb hv q) (by simpa only[bL] using hg);simpa only[bL] using this
theorem maxi{w:Nat}(hw:w<=12){L:List Nat}(hin:∀ a,a∈L->sE w a)(hi:ub L)(hl:L.length=w)(hc:∀ a b,a∈L->b∈L->cm a b=false){v:Nat}(hv:sE w v)(h:∀ a,a∈L->cm v a=false):bG L v=true:=by
 obtain⟨K,hK⟩:∃ K,∀ a,a∈U w->a<2^K:=⟨24,Fu hw⟩
 have hlt:∀ a,a∈L->a<2^K:=fun a ha=>pQ _ hK _ (hin a ha);have h1:=Iq hw hK L hin;have h2:=qT L hlt;rw[hi,hl]at h1 h2;have h3:cn K (fun v=>bG (U w) v&&fo L v)=2^w:=by
  have:2^(2*w)=2^w*2^w:=by rw[<- Nat.pow_add];congr 1;omega
  rw[this]at h1;exact Nat.eq_of_mul_eq_mul_right (sk w) h1
 refine sU K (bG L) (fun v=>bG (U w) v&&fo L v) (fun u _ hu=>?_) (by rw[h2,h3]) v (pQ _ hK _ hv) ?_
 ·rw[li];refine⟨fY L (U w) hin u hu,lM.2 fun r hr=>?_⟩;rw[RD];exact vg L (fun a ha=>hc r a hr ha) u hu
 ·show(bG (U w) v&&fo L v)=true;rw[hv,lM.2 h];rfl
end Go.Ma
namespace Go.Ma
open Classical
structure Sta (w:Nat) (L:List E):Prop where
 good:Good L
 ind:ub (L.map (·.2))
 len:L.length=w
 inv:∀ a,a∈L->sE w a.2
theorem Ue{w:Nat}(hw:w<=12){L:List E}(h:Sta w L){p:E}(hp:sE w p.2)(hc:∀ q,q∈L->bw q p):bG (L.map (·.2)) p.2=true:=by
 refine maxi (L:=L.map (·.2)) hw ?_ h.ind (by simp[h.len]) ?_ hp ?_
 ·intro a ha;obtain⟨q,hq,rfl⟩:=bm.1 ha;exact h.inv q hq
 ·intro a b ha hb;obtain⟨q,hq,rfl⟩:=bm.1 ha;obtain⟨r,hr,rfl⟩:=bm.1 hb;exact jA.1 (h.good.com q r hq hr)
 ·intro a ha;obtain⟨q,hq,rfl⟩:=bm.1 ha;exact jA.1 (bT (hc q hq))
theorem jf{w:Nat}(hw:w<=12){L:List E}(h:Sta w L){p:E}(hp:sE w p.2)(hok:tc p)(h1:¬ Gen L p)(h2:¬ Gen L (dp p)):∃ q,q∈L /\ ¬ bw q p:=by
 refine Fp fun hn=>?_;have hc:∀ q,q∈L->bw q p:=fun q hq=>Fp fun e=>hn ⟨q,hq,e⟩;obtain⟨g,hg,e⟩:=ou L _ (Ue hw h hp hc);rcases wp (dv h.good hg) hok e with q|q
 ·subst q;exact h1 hg
 ·subst q;exact h2 hg
theorem OA{L:List E}(hL:Good L){p:E}(hok:tc p)(h1:¬ Gen L p)(h2:¬ Gen L (dp p)):bG (L.map (·.2)) p.2=false:=by
 cases e:bG (L.map (·.2)) p.2 with
 | false=>rfl
 | true =>
  obtain⟨g,hg,e⟩:=ou L _ e;rcases wp (dv hL hg) hok e with q|q
  ·subst q;exact absurd hg h1
  ·subst q;exact absurd hg h2
theorem GW(a:Nat)(l:List Nat):rk (a::l)<=rk l+1:=by
 simp only[rk];split<;>omega
theorem Eb{L:List E}{p:E}(hx:∃ q,q∈L /\ ¬ bw q p):∃ f,f∈L /\ ¬ bw f p/\(∀ b,b∈dJ p L->b=p\/b∈L \/ ∃ q,q∈L/\b=aU q f)/\(∀ q,q∈L->bG (f.2::(dJ p L).map (·.2)) q.2=true):=by
 obtain⟨A,f,B,h1,h2,h3,h4⟩:=kj p L hx;have hf:f∈L:=by rw[h1];simp
 refine⟨f,hf,h3,fun b hb=>?_,fun q hq=>?_⟩
 ·rw[h4]at hb;rcases ft.1 hb with q|q
  ·exact .inr (.inl (by rw[h1];simp[q]))
  rcases jJ.1 q with q|q
  ·exact .inl q
  ·obtain⟨r,hr,q|q⟩:=zp q
   ·exact .inr (.inl (by rw[q.2,h1];simp[hr]))
   ·exact .inr (.inr ⟨r,by rw[h1];simp[hr],q.2⟩)
 ·rw[h1]at hq;rw[h4];rcases ft.1 hq with e|e
  ·exact bA _ _ (by simp;right;left;exact⟨q.1,e⟩)
  rcases jJ.1 e with e|e
  ·subst e;exact bA _ _ aR
  ·by_cases c:bw q p
   ·refine bA _ _ ?_;have:q∈pM f p B:=bm.2 ⟨q,e,if_pos c⟩;refine eJ _ (bm.2 ⟨q,?_,rfl⟩);simp[this]
   ·have m1:bG (f.2::(A++p::pM f p B).map (·.2)) (aU q f).2=true:=by
     refine bA _ _ ?_;have:aU q f∈pM f p B:=bm.2 ⟨q,e,if_neg c⟩;refine eJ _ (bm.2 ⟨aU q f,?_,rfl⟩);simp[this]
    have m2:bG (f.2::(A++p::pM f p B).map (·.2)) f.2=true:=bA _ _ aR;have:=dK _ _ _ m1 m2;have e:(aU q f).2^^^f.2=q.2:=bL _ _
    rwa [e]at this
theorem og{w:Nat}(hw:w<=12){L:List E}(h:Sta w L){p:E}(hp:sE w p.2)(hok:tc p)(h1:¬ Gen L p)(h2:¬ Gen L (dp p)):Sta w (dJ p L):=by
 have hx:=jf hw h hp hok h1 h2;obtain⟨f,hf,hfp,hm,hs⟩:=Eb hx;have hV:∀ b,b∈dJ p L->sE w b.2:=by
  intro b hb;rcases hm b hb with rfl|e|⟨q,hq,rfl⟩
  ·exact hp
  ·exact h.inv b e
  ·exact dK _ _ _ (h.inv q hq) (h.inv f hf)
 refine⟨lO h.good hok hx,?_,by rw[xm,h.len],hV⟩;have hlt:∀ v,sE w v->v<2^24:=fun v hv=>pQ _ (Fu hw) _ hv;have hns:=OA h.good hok h1 h2;have hr:rk (p.2::L.map (·.2))=w+1:=by
  have:ub (p.2::L.map (·.2)):=kc.2 ⟨h.ind,hns⟩;unfold ub at this;rw[this];simp[h.len]
 have he:rk (p.2::L.map (·.2))=rk (f.2::(dJ p L).map (·.2)):=by
  refine pN (k:=24) ?_ ?_ (kq ?_ ?_)
  ·intro a ha;rcases jJ.1 ha with e|e
   ·subst e;exact hlt _ hp
   ·obtain⟨q,hq,rfl⟩:=bm.1 e;exact hlt _ (h.inv q hq)
  ·intro a ha;rcases jJ.1 ha with e|e
   ·subst e;exact hlt _ (h.inv f hf)
   ·exact qhm
  ·intro a ha;rcases jJ.1 ha with e|e
   ·subst e;exact bA _ _ (eJ _ (bm.2 ⟨p,lP hx,rfl⟩))
   ·obtain⟨q,hq,rfl⟩:=bm.1 e;exact hs q hq
  ·intro a ha;have mL:∀ q,q∈L->bG (p.2::L.map (·.2)) q.2=true:=fun q hq=>bA _ _ (eJ _ (bm.2 ⟨q,hq,rfl⟩));rcases jJ.1 ha with e|e
   ·subst e;exact mL f hf
   ·obtain⟨q,hq,rfl⟩:=bm.1 e;rcases hm q hq with rfl|e|⟨r,hr,rfl⟩
    ·exact bA _ _ aR
    ·exact mL q e
    ·exact dK _ _ _ (mL r hr) (mL f hf)
 rw[hr]at he;have h3:=GW f.2 ((dJ p L).map (·.2));have h4:=PB ((dJ p L).map (·.2));unfold ub;simp only[ef,xm,h.len]at h4⊢;omega
noncomputable def oc:List E->List E->Int->Int
 | _,[],n=>n
 | L,p::P,n=>if Gen L p then oc L P n else if Gen L (dp p) then -1 else oc (dJ p L) P (n+1)
theorem sd{L M:List Nat}{v:Nat}(h:bG M v=true):bG (L++M) v=true:=fY M (L++M) (fun a ha=>bA _ _ qha) v h
theorem Si{g:E}(h:Gen [] g):g=e1:=by
 cases h with
 | one=>rfl
 | mul a f ha _=>cases ha
theorem rG{w:Nat}(hw:w<=12):∀(P L:List E) (n:Int),Sta w L->Good P->(∀ p,p∈P->sE w p.2)->0<=n ->
  oc L P n=if ∃ g,Gen L g/\Gen P (dp g) then -1 else n+((rk (P.map (·.2)++L.map (·.2)):Nat):Int)-w
 | [],L,n,hL,_,_,_=>by
  have hn:¬ ∃ g,Gen L g/\Gen [] (dp g):=by
   rintro⟨g,h1,h2⟩;have he:dp g=e1:=Si h2;have h3:g.2=0:=congrArg Prod.snd he;have h4:=rh hL.good hL.ind h1 h3;subst h4;exact absurd (congrArg Prod.fst he) qaj
  rw[if_neg hn];have:=hL.ind;unfold ub at this;simp only[QF,uV,this,ef,hL.len,oc];omega
 | p::P,L,n,hL,hP,hV,h0=>by
  have hP2:=vq hP;have hpok:=hP.ok p aR;have hpc:∀ g,Gen P g->bw p g:=fun g hg=>vo p (fun a ha=>hP.com p a aR (eJ _ ha)) hg;have hpg:Gen (p::P) p:=bC hP aR;have up:∀ g,Gen P g->Gen (p::P) g:=fun g hg=>wJ (fun a ha=>eJ _ ha) hg;have hV2:∀ q,q∈P->sE w q.2:=fun q hq=>hV q (eJ _ hq);have hpV:=hV p aR;unfold oc;by_cases c1:Gen L p
  ·rw[if_pos c1,rG hw P L n hL hP2 hV2 h0];have hiff:(∃ g,Gen L g/\Gen P (dp g)) ↔ ∃ g,Gen L g/\Gen (p::P) (dp g):=by
    refine⟨fun⟨g,h1,h2⟩=>⟨g,h1,up _ h2⟩,fun⟨g,h1,h2⟩=>?_⟩;rcases nT hP h2 with q|⟨f,hf,e⟩
    ·exact⟨g,h1,q⟩
    ·refine⟨aU p g,cg hL.good c1 h1,?_⟩;have:dp (aU p g)=f:=by
      rw[<- xa,e,<- bx,dn hpok,eP f (dv hP2 hf).1]
     rw[this];exact hf
   have hrk:rk ((p::P).map (·.2)++L.map (·.2))=rk (P.map (·.2)++L.map (·.2)):=by
    simp only[nB,yf,rk];rw[if_pos (sd (eb c1))];rfl
   rw[hrk];by_cases q:∃ g,Gen L g/\Gen P (dp g)
   ·rw[if_pos q,if_pos (hiff.1 q)]
   ·rw[if_neg q,if_neg fun h=>q (hiff.2 h)]
  rw[if_neg c1];by_cases c2:Gen L (dp p)
  ·rw[if_pos c2,if_pos ⟨dp p,c2,by rw[CR hpok.1];exact hpg⟩]
  rw[if_neg c2];have hx:=jf hw hL hpV hpok c1 c2;have hL':=og hw hL hpV hpok c1 c2;rw[rG hw P (dJ p L) (n+1) hL' hP2 hV2 qad];obtain⟨f,hf,hfp,hkeep⟩:=pe hL.good hpok hx;have hpL':Gen (dJ p L) p:=bC hL'.good (lP hx);have hiff:(∃ g,Gen (dJ p L) g/\Gen P (dp g)) ↔ ∃ g,Gen L g/\Gen (p::P) (dp g):=by
   constructor
   ·rintro⟨g,h1,h2⟩;obtain⟨k,k1,k2,k3⟩:=tw hL.good hpok hx h1;rcases k3 with rfl|rfl
    ·exact⟨g,k1,up _ h2⟩
    ·refine⟨k,k1,?_⟩;have:=Gen.mul (L:=p::P) p _ aR (up _ h2);rw[xa,<- bx,dn hpok,eP k (dv hL.good k1).1]at this;exact this
   ·rintro⟨g,h1,h2⟩;have hcg:bw p g:=by
     have:bw p (dp g):=by
      rcases nT hP h2 with q|⟨f',hf',e⟩
      ·exact hpc _ q
      ·rw[e];exact qW (sZ p) (hpc _ hf')
     exact this
    have hg':=(hkeep g h1).1 hcg;rcases nT hP h2 with q|⟨f',hf',e⟩
    ·exact⟨g,hg',q⟩
    ·refine⟨aU p g,cg hL'.good hpL' hg',?_⟩;have:dp (aU p g)=f':=by
      rw[<- xa,e,<- bx,dn hpok,eP f' (dv hP2 hf').1]
     rw[this];exact hf'
  have hrk:rk ((p::P).map (·.2)++L.map (·.2))=rk (P.map (·.2)++(dJ p L).map (·.2))+1:=by
   obtain⟨f,hf,hfp,hm,hs⟩:=Eb hx;have hlt:∀ v,sE w v->v<2^24:=fun v hv=>pQ _ (Fu hw) _ hv;have e1:rk ((p::P).map (·.2)++L.map (·.2))=rk (f.2::(P.map (·.2)++(dJ p L).map (·.2))):=by
    refine pN (k:=24) ?_ ?_ (kq ?_ ?_)
    ·intro a ha;rcases ft.1 ha with e|e
     ·exact qhm
     ·obtain⟨q,hq,rfl⟩:=bm.1 e;exact hlt _ (hL.inv q hq)
    ·intro a ha;rcases jJ.1 ha with e|e
     ·subst e;exact hlt _ (hL.inv f hf)
     rcases ft.1 e with e|e
     ·obtain⟨q,hq,rfl⟩:=bm.1 e;exact hlt _ (hV2 q hq)
     ·obtain⟨q,hq,rfl⟩:=bm.1 e;exact hlt _ (hL'.inv q hq)
    ·intro a ha;have up2:∀ v,bG (f.2::(dJ p L).map (·.2)) v=true->bG (f.2::(P.map (·.2)++(dJ p L).map (·.2))) v=true:=fun v hv =>
      fY _ _ (fun b hb=>bA _ _ (by
       rcases jJ.1 hb with e|e
       ·subst e;simp
       ·simp only[jJ,ft];exact .inr (.inr e))) v hv
     rcases ft.1 ha with e|e
     ·obtain⟨q,hq,rfl⟩:=bm.1 e;rcases jJ.1 hq with e|e
      ·subst e;exact up2 _ (bA _ _ (eJ _ (bm.2 ⟨q,lP hx,rfl⟩)))
      ·exact bA _ _ (eJ _ (List.mem_append_left _ (bm.2 ⟨q,e,rfl⟩)))
     ·obtain⟨q,hq,rfl⟩:=bm.1 e;exact up2 _ (hs q hq)
    ·intro a ha;have mL:∀ q,q∈L->bG ((p::P).map (·.2)++L.map (·.2)) q.2=true:=fun q hq=>bA _ _ (List.mem_append_right _ (bm.2 ⟨q,hq,rfl⟩));have mP:∀ q,q∈p::P->bG ((p::P).map (·.2)++L.map (·.2)) q.2=true:=fun q hq=>bA _ _ (List.mem_append_left _ (bm.2 ⟨q,hq,rfl⟩));rcases jJ.1 ha with e|e
     ·subst e;exact mL f hf
     rcases ft.1 e with e|e
     ·obtain⟨q,hq,rfl⟩:=bm.1 e;exact mP q (eJ _ hq)
     ·obtain⟨q,hq,rfl⟩:=bm.1 e;rcases hm q hq with rfl|e|⟨r,hr,rfl⟩
      ·exact mP q aR
      ·exact mL q e
      ·exact dK _ _ _ (mL r hr) (mL f hf)
   rw[e1];have hns:bG (P.map (·.2)++(dJ p L).map (·.2)) f.2=false:=by
    cases e:bG (P.map (·.2)++(dJ p L).map (·.2)) f.2 with
    | false=>rfl
    | true =>
     have:=vg (c:=p.2) _ (fun a ha=>by
      rcases ft.1 ha with e|e
      ·obtain⟨q,hq,rfl⟩:=bm.1 e;exact jA.1 (hP.com p q aR (eJ _ hq))
      ·obtain⟨q,hq,rfl⟩:=bm.1 e;exact jA.1 (lB hL'.good hpL' (bC hL'.good hq))) _ e
     exact absurd (bT (jA.2 this)) hfp
   simp only[rk,hns,QZ,if_false]
  rw[hrk];by_cases q:∃ g,Gen (dJ p L) g/\Gen P (dp g)
  ·rw[if_pos q,if_pos (hiff.1 q)]
  ·rw[if_neg q,if_neg fun h=>q (hiff.2 h)]
   push_cast
   omega
theorem ZP{w:Nat}(hw:w<=12){L L' P P':List E}(hL:Sta w L)(hL':Sta w L')(hP:Sta w P)(hP':Sta w P')(h1:∀ g,Gen L g ↔ Gen L' g)(h2:∀ g,Gen P g ↔ Gen P' g):oc L P 0=oc L' P' 0:=by
 rw[rG hw P L 0 hL hP.good hP.inv qad,rG hw P' L' 0 hL' hP'.good hP'.inv qad];have hlt:∀ v,sE w v->v<2^24:=fun v hv=>pQ _ (Fu hw) _ hv;have low:∀{A B C D:List E},Sta w A->Sta w C->(∀ g,Gen A g->Gen B g)->(∀ g,Gen C g->Gen D g)->∀ a,a∈A.map (·.2)++C.map (·.2)->bG (B.map (·.2)++D.map (·.2)) a=true:=by
  intro A B C D hA hC hAB hCD a ha;rcases ft.1 ha with e|e
  ·obtain⟨q,hq,rfl⟩:=bm.1 e;have:=eb (hAB q (bC hA.good hq));exact fY (B.map (·.2)) _ (fun a ha=>bA _ _ (List.mem_append_left _ ha)) _ this
  ·obtain⟨q,hq,rfl⟩:=bm.1 e;exact sd (eb (hCD q (bC hC.good hq)))
 have hrk:rk (P.map (·.2)++L.map (·.2))=rk (P'.map (·.2)++L'.map (·.2)):=by
  have Fz:∀{A B:List E},Sta w A->Sta w B->∀ a,a∈A.map (·.2)++B.map (·.2)->a<2^24:=by
   intro A B hA hB a ha;rcases ft.1 ha with e|e
   ·obtain⟨q,hq,rfl⟩:=bm.1 e;exact hlt _ (hA.inv q hq)
   ·obtain⟨q,hq,rfl⟩:=bm.1 e;exact hlt _ (hB.inv q hq)
  exact pN (k:=24) (Fz hP hL) (Fz hP' hL') (kq (low hP hL (fun g=>(h2 g).1) fun g=>(h1 g).1) (low hP' hL' (fun g=>(h2 g).2) fun g=>(h1 g).2))
 rw[hrk];have hiff:(∃ g,Gen L g/\Gen P (dp g)) ↔ ∃ g,Gen L' g/\Gen P' (dp g):=exists_congr fun g=>and_congr (h1 g) (h2 _);by_cases q:∃ g,Gen L g/\Gen P (dp g)
 ·rw[if_pos q,if_pos (hiff.1 q)]
 ·rw[if_neg q,if_neg fun h=>q (hiff.2 h)]
end Go.Ma
namespace Go.Ma
def xr(v:Nat->Nat)(m:Nat->Bool):Nat->Nat
 | 0=>0
 | n+1=>if m n then xr v m n^^^v n else xr v m n
def dH(v:Nat->Nat):Nat->List Nat
 | 0=>[]
 | n+1=>v n::dH v n
theorem cQ{v:Nat->Nat}{a:Nat}:∀{n:Nat},a∈dH v n ↔ ∃ j,j<n/\a=v j
 | 0=>by simp[dH]
 | n+1=>by
  simp only[dH,jJ,cQ (n:=n)];constructor
  ·rintro(rfl|⟨j,h1,h2⟩)
   ·exact⟨n,by omega,rfl⟩
   ·exact⟨j,by omega,h2⟩
  ·rintro⟨j,h1,h2⟩;by_cases e:j=n
   ·subst e;exact .inl h2
   ·exact .inr ⟨j,by omega,h2⟩
theorem oI{v v':Nat->Nat}{m m':Nat->Bool}:∀{n:Nat},(∀ j,j<n->v j=v' j)->(∀ j,j<n->m j=m' j)->xr v m n=xr v' m' n
 | 0,_,_=>rfl
 | n+1,h1,h2=>by
  simp only[xr];rw[oI (fun j hj=>h1 j qad) (fun j hj=>h2 j qad),h1 n qad,h2 n qad]
theorem yc(v:Nat->Nat)(m m':Nat->Bool):∀ n,xr v (fun j=>m j != m' j) n=xr v m n^^^xr v m' n
 | 0=>(yE 0).symm
 | n+1=>by
  simp only[xr,yc v m m' n];have e1:∀ a b c:Nat,a^^^b^^^c=a^^^c^^^b:=fun a b c=>by rw[py,Hy b,<- py]
  cases m n<;>cases m' n<;>simp
  ·rw[py]
  ·rw[e1]
  ·rw[e1,<- py,bL]
theorem ss{v:Nat->Nat}{m:Nat->Bool}:∀{n:Nat},(∀ j,j<n->m j=false)->xr v m n=0
 | 0,_=>rfl
 | n+1,h=>by simp only[xr];rw[h n qad,ss fun j hj=>h j qad];rfl
theorem Cc{v:Nat->Nat}{i:Nat}:∀{n:Nat},i<n->xr v (fun j=>j==i) n=v i
 | 0,h=>by omega
 | n+1,h=>by
  simp only[xr];by_cases e:n=i
  ·subst e;rw[ss fun j hj=>by simp;omega];simp
  ·rw[Cc qad];simp[e]
theorem Cd{v:Nat->Nat}{m:Nat->Bool}:∀ n,bG (dH v n) (xr v m n)=true
 | 0=>rfl
 | n+1=>by
  simp only[xr,dH,bG,zG];split
  ·right;rw[bL];exact Cd n
  ·left;exact Cd n
theorem sf{v:Nat->Nat}{u:Nat}:∀{n:Nat},bG (dH v n) u=true->∃ m,xr v m n=u
 | 0,h=>⟨fun _=>false,by simp only[dH,bG,beq_iff_eq]at h;rw[h];rfl⟩
 | n+1,h=>by
  simp only[dH,bG,zG]at h;rcases h with h|h
  ·obtain⟨m,hm⟩:=sf h;refine⟨fun j=>if j=n then false else m j,?_⟩;simp only[xr,if_true,QZ,if_false];rw[<- hm];exact oI (fun _ _=>rfl) fun j hj=>by rw[if_neg qad]
  ·obtain⟨m,hm⟩:=sf h;refine⟨fun j=>if j=n then true else m j,?_⟩;simp only[xr,if_true];rw[oI (m':=m) (fun _ _=>rfl) fun j hj=>by rw[if_neg qad],hm,bL]
structure Piv (n:Nat) (r p:Nat->Nat) (act:Nat->Bool):Prop where
 own:∀ i,i<n->act i=true->(r i).testBit (p i)=true
 other:∀ i j,i<n->j<n->i≠j->act j=true->(r i).testBit (p j)=false
 zero:∀ i,i<n->act i=false->r i=0
def cnt(act:Nat->Bool):Nat->Nat
 | 0=>0
 | n+1=>cnt act n+(act n).toNat
theorem cnt_le(act:Nat->Bool):∀ n,cnt act n<=n
 | 0=>cF _
 | n+1=>by have:=cnt_le act n;have:(act n).toNat<=1:=Bool.toNat_le _;simp only[cnt];omega
theorem Aa{act:Nat->Bool}:∀{n:Nat},cnt act n=n ↔ ∀ i,i<n->act i=true
 | 0=>by simp[cnt]
 | n+1=>by
  have h1:=cnt_le act n;have h2:=Aa (act:=act) (n:=n);have h3:(act n).toNat<=1:=Bool.toNat_le _;simp only[cnt];constructor
  ·intro h i hi;have e:cnt act n=n:=qad;by_cases q:i=n
   ·subst q;have:(act i).toNat=1:=qad
    revert this;cases act i<;>simp
   ·exact h2.1 e i qad
  ·intro h;rw[h2.2 fun i hi=>h i qad,h n qad];rfl
theorem GY{n:Nat}{r p:Nat->Nat}{act:Nat->Bool}(h:Piv n r p act):rk (dH r n)=cnt act n:=by
 induction n with
 | zero=>rfl
 | succ n ih =>
  have ih:=ih ⟨fun i hi=>h.own i qad,fun i j hi hj=>h.other i j qad qad,fun i hi=>h.zero i qad⟩;simp only[dH,rk,cnt,ih];cases ha:act n with
  | false=>rw[h.zero n qad ha,kM];rfl
  | true =>
   have:bG (dH r n) (r n)=false:=by
    cases e:bG (dH r n) (r n) with
    | false=>rfl
    | true =>
     have:=jq (j:=p n) (dH r n) (fun a ha'=>by
      obtain⟨j,hj,rfl⟩:=cQ.1 ha';exact h.other j n qad qad qad ha) _ e
     rw[h.own n qad ha]at this;cases this
   rw[this];rfl
def zy(r p:Nat->Nat)(act:Nat->Bool)(u:Nat):Nat->Nat
 | 0=>u
 | n+1=>if act n&&(zy r p act u n).testBit (p n) then zy r p act u n^^^r n else zy r p act u n
theorem JM{N:Nat}{r p:Nat->Nat}{act:Nat->Bool}(h:Piv N r p act)(u:Nat):∀{n:Nat},n<=N->∀ i,n<=i->i<N->act i=true->(zy r p act u n).testBit (p i)=u.testBit (p i)
 | 0,_,_,_,_,_=>rfl
 | n+1,hn,i,h1,h2,h3=>by
  have ih:=JM h u (n:=n) qad i qad h2 h3;simp only[zy];split
  ·rw[gy,ih,h.other n i qad h2 qad h3,Bool.xor_false]
  ·exact ih
theorem PR{N:Nat}{r p:Nat->Nat}{act:Nat->Bool}(h:Piv N r p act)(u:Nat):∀{n:Nat},n<=N->zy r p act u n=u^^^xr r (fun i=>act i&&u.testBit (p i)) n
 | 0,_=>by simp[zy,xr]
 | n+1,hn=>by
  have ih:=PR h u (n:=n) qad;have hb:(act n&&(zy r p act u n).testBit (p n))=(act n&&u.testBit (p n)):=by
   cases ha:act n with
   | false=>rfl
   | true=>rw[JM h u qad n (cF _) qad ha]
  simp only[zy,hb,xr];split
  ·rw[ih,py]
  ·exact ih
theorem HK{N:Nat}{r p:Nat->Nat}{act m:Nat->Bool}(h:Piv N r p act):∀{n:Nat},n<=N->∀ i,i<N->act i=true->(xr r m n).testBit (p i)=(decide (i<n)&&m i)
 | 0,_,i,_,_=>by simp[xr]
 | n+1,hn,i,hi,ha=>by
  have ih:=HK (m:=m) h (n:=n) qad i hi ha;simp only[xr];by_cases e:i=n
  ·subst e;have e1:decide (i<i+1)=true:=aR;have e2:decide (i<i)=false:=aR;split
   ·rename_i hm;rw[gy,ih,h.own i hi ha,hm,e1,e2];rfl
   ·rename_i hm;rw[ih,e1,e2];simp only[Bool.not_eq_true]at hm;rw[hm];rfl
  ·have e1:decide (i<n+1)=decide (i<n):=by simp;omega
   rw[e1];split
   ·rw[gy,ih,h.other n i qad hi qad ha,Bool.xor_false]
   ·exact ih
theorem Ew{N:Nat}{r p:Nat->Nat}{act:Nat->Bool}(h:Piv N r p act)(u:Nat):zy r p act u N=0 ↔ bG (dH r N) u=true:=by
 rw[PR h u (cF _)];constructor
 ·intro e;have:u=xr r (fun i=>act i&&u.testBit (p i)) N:=by
   have:=congrArg (· ^^^ xr r (fun i=>act i&&u.testBit (p i)) N) e;simpa only[bL,Lo] using this
  rw[this];exact Cd N
 ·intro e;obtain⟨m,rfl⟩:=sf e;have:xr r (fun i=>act i&&(xr r m N).testBit (p i)) N=xr r m N:=by
   have key:∀ n,n<=N->xr r (fun i=>act i&&(xr r m N).testBit (p i)) n=xr r m n:=by
    intro n
    induction n with
    | zero=>intro _;rfl
    | succ n ih =>
     intro hn;have ih:=ih qad;simp only[xr];rw[ih];by_cases ha:act n=true
     ·have h1:=HK (m:=m) h (cF _) n qad ha;have h2:decide (n<N)=true:=fF;simp only[h1,h2,ha,Bool.true_and]
     ·rw[h.zero n qad LG];simp only[zF,ite_self]
   exact key N (cF _)
  rw[this,yE]
end Go.Ma
namespace Go.Ma
def pos(c:Nat):Nat:=if c%2=0 then c / 2 else 12+c / 2
def cb(v c:Nat):Bool:=v.testBit (pos c)
theorem FC(a b c:Nat):cb (a^^^b) c=(cb a c != cb b c):=by
 unfold cb;rw[gy]
structure RR (n c a:Nat) (R pc:Nat->Nat):Prop where
 an:a<=n
 lt:∀ j,j<a->pc j<c
 mono:∀ i j,i<j->j<a->pc i<pc j
 own:∀ j,j<a->cb (R j) (pc j)=true
 other:∀ i j,i<n->j<a->i≠j->cb (R i) (pc j)=false
 lead:∀ j d,j<a->d<pc j->cb (R j) d=false
 zero:∀ j d,a<=j->j<n->d<c->cb (R j) d=false
theorem TY(n:Nat)(R:Nat->Nat):RR n 0 0 R fun _=>0 :=
 ⟨dW _,by omega,by omega,by omega,by omega,by omega,by omega⟩
theorem TV{n c a:Nat}{R pc:Nat->Nat}(h:RR n c a R pc)(hz:∀ j,a<=j->j<n->cb (R j) c=false):RR n (c+1) a R pc :=
 ⟨h.an,fun j hj=>by have:=h.lt j hj;omega,h.mono,h.own,h.other,h.lead,fun j d h1 h2 h3=>by
  by_cases e:d=c
  ·subst e;exact hz j h1 h2
  ·exact h.zero j d h1 h2 qad⟩
def yx{α:Type}(f:Nat->α)(a b:Nat):Nat->α:=fun j=>if j=a then f b else if j=b then f a else f j
def QQ(R:Nat->Nat)(a c:Nat):Nat->Nat:=fun j=>if j≠a/\cb (R j) c=true then R j^^^R a else R j
theorem BC{α:Type}{f:Nat->α}{a b n j:Nat}(ha:a<n)(hb:b<n)(hj:j<n):∃ i,i<n/\yx f a b j=f i/\(a<=b->a<=j->a<=i)/\(j<a->j<b->i=j):=by
 unfold yx;split
 ·exact⟨b,hb,rfl,fun h _=>h,by omega⟩
 ·split
  ·exact⟨a,ha,rfl,fun _ _=>cF _,by omega⟩
  ·exact⟨j,hj,rfl,fun _ h=>h,fun _ _=>rfl⟩
theorem TW{n c a f:Nat}{R pc:Nat->Nat}(h:RR n c a R pc)(h1:a<=f)(h2:f<n):RR n c a (yx R a f) pc:=by
 have low:∀ j,j<a->yx R a f j=R j:=fun j hj=>by
  unfold yx;rw[if_neg qad,if_neg qad]
 refine⟨h.an,h.lt,h.mono,fun j hj=>by rw[low j hj];exact h.own j hj,fun i j hi hj hij=>?_,fun j d hj hd=>by rw[low j hj];exact h.lead j d hj hd,fun j d q1 q2 q3=>?_⟩
 ·obtain⟨k,k1,k2,k3,k4⟩:=BC (f:=R) (show a<n by omega) h2 hi;rw[k2];refine h.other k j k1 hj fun e=>?_;subst e;by_cases q:a<=i
  ·have:=k3 h1 q;omega
  ·have:=k4 qad qad;omega
 ·obtain⟨k,k1,k2,k3,k4⟩:=BC (f:=R) (show a<n by omega) h2 q2;rw[k2];exact h.zero k d (k3 h1 q1) k1 q3
theorem C5{n c a:Nat}{R pc:Nat->Nat}(h:RR n c a R pc)(han:a<n)(hb:cb (R a) c=true):RR n (c+1) (a+1) (QQ R a c) fun j=>if j=a then c else pc j:=by
 have hpa:∀ d,d<c->cb (R a) d=false:=fun d hd=>h.zero a d (cF _) han hd;have same:∀ j d,d<c->cb (QQ R a c j) d=cb (R j) d:=fun j d hd=>by
  unfold QQ;split
  ·rw[FC,hpa d hd];simp
  ·rfl
 have ata:QQ R a c a=R a:=by unfold QQ;rw[if_neg aR]
 have atc:∀ j,j≠a->cb (QQ R a c j) c=false:=fun j hj=>by
  unfold QQ;split
  ·rename_i q;rw[FC,hb,q.2];rfl
  ·rename_i q;cases e:cb (R j) c with
   | false=>rfl
   | true=>exact absurd ⟨hj,e⟩ q
 refine⟨han,fun j hj=>?_,fun i j hij hj=>?_,fun j hj=>?_,fun i j hi hj hij=>?_,fun j d hj hd=>?_,fun j d q1 q2 q3=>?_⟩
 ·split
  ·exact qad
  ·have:=h.lt j qad;omega
 ·rw[if_neg qad];split
  ·exact h.lt i qad
  ·exact h.mono i j hij qad
 ·split
  ·rename_i e;rw[e,ata];exact hb
  ·rw[same j _ (h.lt j qad)];exact h.own j qad
 ·split
  ·rename_i e;exact atc i qad
  ·rw[same i _ (h.lt j qad)];exact h.other i j hi qad hij
 ·try dsimp only at hd
  split at hd
  ·rename_i e;rw[e,ata];exact hpa d hd
  ·have:=h.lt j qad;rw[same j d qad];exact h.lead j d qad hd
 ·by_cases e:d=c
  ·subst e;exact atc j qad
  ·rw[same j d qad];exact h.zero j d qad q2 qad
theorem C6{n c a:Nat}{R pc:Nat->Nat}(h:RR n c a R pc)(hz:∀ j,j<n->(∀ d,d<c->cb (R j) d=false)->R j=0):Piv n R (fun i=>pos (pc i)) fun i=>decide (i<a) :=
 ⟨fun i _ ha=>h.own i LG,fun i j hi hj hij ha=>h.other i j hi LG hij,fun i hi ha=>hz i hi fun d hd=>h.zero i d LG hi hd⟩
theorem ZS{w j:Nat}(hw:w<=12)(h:j<w\/(12<=j/\j<12+w)):∃ c,c<2*w/\pos c=j:=by
 rcases h with h|h
 ·exact⟨2*j,by omega,by unfold pos;rw[if_pos qad];omega⟩
 ·exact⟨2*(j-12)+1,by omega,by unfold pos;rw[if_neg qad];omega⟩
theorem Ia{w v:Nat}(hw:w<=12)(hv:sE w v)(h:∀ d,d<2*w->cb v d=false):v=0:=by
 refine Fs fun j=>?_;rw[Cj];by_cases e:j<w\/(12<=j/\j<12+w)
 ·obtain⟨c,h1,h2⟩:=ZS hw e;rw[<- h2];exact h c h1
 ·exact jq (U w) (yI qad) v hv
end Go.Ma
namespace Go.Ma
def cd(t:Bool)(m:Nat):Nat:=match t with
 | true=>m
 | false=>0
theorem nN(s t:Bool)(m:Nat):cd (s != t) m=cd s m^^^cd t m:=by
 cases s<;>cases t<;>simp[cd]
theorem lw{i:Nat}(h:i<12)(v:Nat):bt (2^i) v=false:=by
 unfold bt;have e:(2^i) >>> 12=0:=by
  rw[LL];exact Nat.div_eq_of_lt (Fq qaj qad)
 rw[e,Nat.zero_and,lL]
theorem nM{i:Nat}(h:i<12)(v:Nat):bt (2^(12+i)) v=v.testBit i:=by
 unfold bt;have e:(2^(12+i)) >>> 12=2^i:=by
  rw[LL,Nat.pow_add,Wd,Nat.mul_div_cancel _ qaj]
 rw[e,rH h]
theorem kP{i:Nat}(h:i<12)(v:Nat):bt v (2^i)=v.testBit (12+i):=by
 unfold bt;rw[Nat.and_comm,rH h,Nat.testBit_shiftRight]
theorem kO{i:Nat}(v:Nat):bt v (2^(12+i))=false:=by
 unfold bt;exact Jr qad _
theorem sS(t:Bool)(m v:Nat):bt (cd t m) v=(t&&bt m v):=by
 cases t<;>simp[cd,vU]
theorem nL(t:Bool)(m v:Nat):bt v (cd t m)=(t&&bt v m):=by
 cases t<;>simp[cd,vV]
theorem ju(t:Bool)(m j:Nat):(cd t m).testBit j=(t&&m.testBit j):=by
 cases t<;>simp[cd]
def gL(k a b v:Nat):Nat:=match k with
 | 4=>v^^^cd (v.testBit a != v.testBit (12+a)) (2^a^^^2^(12+a))
 | 5=>v^^^cd (v.testBit a) (2^(12+a))
 | 6=>v^^^cd (v.testBit a) (2^(12+a))
 | 9=>v^^^(cd (v.testBit a) (2^b)^^^cd (v.testBit (12+b)) (2^(12+a)))
 | 10=>v^^^(cd (v.testBit a) (2^(12+b))^^^cd (v.testBit b) (2^(12+a)))
 | 11=>v^^^(cd (v.testBit a != v.testBit b) (2^a^^^2^b)^^^cd (v.testBit (12+a) != v.testBit (12+b)) (2^(12+a)^^^2^(12+b)))
 | _=>v
def gQ(k a b v:Nat):Nat:=match k with
 | 1=>2*(v.testBit (12+a)).toNat
 | 2=>2*(v.testBit a != v.testBit (12+a)).toNat
 | 3=>2*(v.testBit a).toNat
 | 4=>2*(v.testBit a&&v.testBit (12+a)).toNat
 | 5=>(v.testBit a).toNat
 | 6=>3*(v.testBit a).toNat
 | 10=>2*(v.testBit a&&v.testBit b).toNat
 | _=>0
def gE(k a b:Nat)(e:E):E:=((e.1+gQ k a b e.2)%4,gL k a b e.2)
def wI(k a b:Nat):Prop:=(1<=k/\k<=6/\a<12)\/(9<=k/\k<=11/\a<12/\b<12/\a≠b)
theorem jl{k a b:Nat}(h:wI k a b)(e f:E):gE k a b (aU e f)=aU (gE k a b e) (gE k a b f):=by
 obtain⟨s,v⟩:=e;obtain⟨t,u⟩:=f;rcases h with⟨h1,h2,ha⟩|⟨h1,h2,ha,hb,hab⟩
 ·have hk:k=1\/k=2\/k=3\/k=4\/k=5\/k=6:=by omega
  rcases hk with rfl|rfl|rfl|rfl|rfl|rfl
  ·refine du ?_ rfl;simp only[gE,gQ,gL,aU,gy];cases v.testBit (12+a)<;>cases u.testBit (12+a)<;>simp<;>omega
  ·refine du ?_ rfl;simp only[gE,gQ,gL,aU,gy];cases v.testBit (12+a)<;>cases u.testBit (12+a)<;>cases v.testBit a<;>cases u.testBit a<;>simp<;>omega
  ·refine du ?_ rfl;simp only[gE,gQ,gL,aU,gy];cases v.testBit a<;>cases u.testBit a<;>simp<;>omega
  ·refine du ?_ ?_
   ·have hq1:decide (12+a=a)=false:=decide_eq_false qad;have hq2:decide (a=12+a)=false:=decide_eq_false qad;simp only[gE,gQ,gL,aU,gy,eF,dM,sS,nL,lw ha,nM ha,kP ha,kO,ll,ju,hq1,hq2];cases v.testBit (12+a)<;>cases u.testBit (12+a)<;>cases v.testBit a<;>cases u.testBit a<;>cases bt v u<;>simp<;>omega
   ·simp only[gE,gL,aU,gy];rw[show((v.testBit a != u.testBit a) != (v.testBit (12+a) != u.testBit (12+a)))=((v.testBit a != v.testBit (12+a)) != (u.testBit a != u.testBit (12+a))) by
     cases v.testBit (12+a)<;>cases u.testBit (12+a)<;>cases v.testBit a<;>cases u.testBit a<;>rfl,nN]
    ac_rfl
  ·exact qig
  ·exact qig
 ·have hk:k=9\/k=10\/k=11:=by omega
  have hba:¬ b=a:=fun e=>hab e.symm;have hd1:decide (b=a)=false:=decide_eq_false hba;have hd2:decide (a=b)=false:=decide_eq_false hab;have q1:decide (a=12+b)=false:=decide_eq_false qad;have q2:decide (b=12+a)=false:=decide_eq_false qad;have q3:decide (a=12+a)=false:=decide_eq_false qad;have q4:decide (b=12+b)=false:=decide_eq_false qad;have q5:decide (12+a=b)=false:=decide_eq_false qad;have q6:decide (12+b=a)=false:=decide_eq_false qad;have q7:decide (12+a=a)=false:=decide_eq_false qad;have q8:decide (12+b=b)=false:=decide_eq_false qad;have q9:decide (12+a=12+b)=false:=decide_eq_false qad;have q0:decide (12+b=12+a)=false:=decide_eq_false qad;rcases hk with rfl|rfl|rfl
  ·refine du ?_ ?_
   ·simp only[gE,gQ,gL,aU,gy,eF,dM,sS,nL,lw ha,nM ha,kP ha,lw hb,nM hb,kP hb,kO,ll,ju,hd1,hd2,q1,q2,q3,q4,q5,q6,q7,q8,q9,q0];cases v.testBit (12+b)<;>cases u.testBit a<;>cases bt v u<;>simp<;>omega
   ·simp only[gE,gL,aU,gy,nN]
    ac_rfl
  ·refine du ?_ ?_
   ·simp only[gE,gQ,gL,aU,gy,eF,dM,sS,nL,lw ha,nM ha,kP ha,lw hb,nM hb,kP hb,kO,ll,ju,hd1,hd2,q1,q2,q3,q4,q5,q6,q7,q8,q9,q0];cases v.testBit a<;>cases u.testBit a<;>cases v.testBit b<;>cases u.testBit b<;>cases bt v u<;>simp<;>omega
   ·simp only[gE,gL,aU,gy,nN]
    ac_rfl
  ·refine du ?_ ?_
   ·simp only[gE,gQ,gL,aU,gy,eF,dM,sS,nL,lw ha,nM ha,kP ha,lw hb,nM hb,kP hb,kO,ll,ju,hd1,hd2,q1,q2,q3,q4,q5,q6,q7,q8,q9,q0];cases v.testBit (12+a)<;>cases v.testBit (12+b)<;>cases u.testBit a<;>cases u.testBit b<;>cases bt v u<;>simp<;>omega
   ·simp only[gE,gL,aU,gy];rw[show((v.testBit a != u.testBit a) != (v.testBit b != u.testBit b))=((v.testBit a != v.testBit b) != (u.testBit a != u.testBit b)) by
     cases v.testBit b<;>cases u.testBit b<;>cases v.testBit a<;>cases u.testBit a<;>rfl,
     show((v.testBit (12+a) != u.testBit (12+a)) != (v.testBit (12+b) != u.testBit (12+b)))=((v.testBit (12+a) != v.testBit (12+b)) != (u.testBit (12+a) != u.testBit (12+b))) by
     cases v.testBit (12+b)<;>cases u.testBit (12+b)<;>cases v.testBit (12+a)<;>cases u.testBit (12+a)<;>rfl,nN (v.testBit a != v.testBit b),nN (v.testBit (12+a) != v.testBit (12+b))]
    ac_rfl
theorem wH(k a b:Nat)(e:E):(gE k a b e).1<4:=Cm _ qaj
def eL(n:Nat)(x z:Bool):E:=((x&&z).toNat,cd x (2^n)^^^cd z (2^(12+n)))
theorem RK{n:Nat}(x z:Bool)(j:Nat)(hj:j<12):(eL n x z).2.testBit j=(x&&decide (n=j)):=by
 simp only[eL,gy,ju,ll];rw[show decide (12+n=j)=false from decide_eq_false qad];simp
theorem RL{n:Nat}(x z:Bool)(j:Nat)(hn:n<12):(eL n x z).2.testBit (12+j)=(z&&decide (n=j)):=by
 simp only[eL,gy,ju,ll];rw[show decide (n=12+j)=false from decide_eq_false qad,show decide (12+n=12+j)=decide (n=j) from decide_eq_decide.2 qad];simp
theorem Ax{k a b:Nat}(h:wI k a b){e:E}(hlt:e.1<4)(ex:e.2.testBit a=false)(ez:e.2.testBit (12+a)=false)(hb:9<=k->e.2.testBit b=false/\e.2.testBit (12+b)=false):gE k a b e=e:=by
 obtain⟨s,v⟩:=e;dsimp only at hlt ex ez hb;rcases h with⟨h1,h2,ha⟩|⟨h1,h2,ha,hb',hab⟩
 ·have hk:k=1\/k=2\/k=3\/k=4\/k=5\/k=6:=by omega
  rcases hk with rfl|rfl|rfl|rfl|rfl|rfl<;>simp[gE,gQ,gL,ex,ez,cd]<;>omega
 ·obtain⟨fx,fz⟩:=hb h1;have hk:k=9\/k=10\/k=11:=qad;rcases hk with rfl|rfl|rfl<;>simp[gE,gQ,gL,ex,ez,fx,fz,cd]<;>omega
theorem CN(n:Nat)(x z:Bool):(eL n x z).1<4:=by
 show(x&&z).toNat<4;cases x<;>cases z<;>decide
theorem NQ{k a b n:Nat}(h:wI k a b)(hn:n<12)(hna:n≠a)(hnb:9<=k->n≠b)(x z:Bool):gE k a b (eL n x z)=eL n x z:=by
 have hak:a<12/\(9<=k->b<12):=by unfold wI at h;omega
 refine Ax h (CN n x z) ?_ ?_ fun hk=>⟨?_,?_⟩
 ·rw[RK _ _ _ hak.1,decide_eq_false hna,Uw]
 ·rw[RL _ _ _ hn,decide_eq_false hna,Uw]
 ·rw[RK _ _ _ (hak.2 hk),decide_eq_false (hnb hk),Uw]
 ·rw[RL _ _ _ hn,decide_eq_false (hnb hk),Uw]
def Ak(k:Nat)(e:E):E:=((e.1+k)%4,e.2)
theorem Jj(k:Nat)(e f:E):aU e (Ak k f)=Ak k (aU e f):=by
 refine du ?_ rfl;simp only[aU,Ak];omega
theorem esh_4{k:Nat}(h:k%4=0){e:E}(he:e.1<4):Ak k e=e:=by
 refine du ?_ rfl;simp only[Ak];omega
theorem NN(k a b j:Nat)(e:E):gE k a b (Ak j e)=Ak j (gE k a b e):=by
 refine du ?_ rfl;simp only[gE,Ak];omega
theorem Nm{n:Nat}(hn:n<12)(x z:Bool):eL n x z=Ak (x&&z).toNat (aU (eL n x false) (eL n false z)):=by
 refine du ?_ ?_
 ·simp only[eL,Ak,aU];cases x<;>cases z<;>simp[cd,vU,vV,lw hn]
 ·simp[eL,Ak,aU,cd]
theorem E8(p q:Nat):p^^^(p^^^q)=q:=qg0
theorem xorr(p q:Nat):p^^^(q^^^p)=q:=by rw[Hy q p,E8]
def VO(k:Nat)(x z:Bool):Nat×Bool×Bool:=match k with
 | 1=>(2*z.toNat,x,z)
 | 2=>(2*(x != z).toNat,x,z)
 | 3=>(2*x.toNat,x,z)
 | 4=>(2*(x&&z).toNat,z,x)
 | 5=>(2*(x&&z).toNat,x,z != x)
 | _=>(2*(x && !z).toNat,x,z != x)
theorem Ay{k a:Nat}(h1:1<=k)(h2:k<=6)(ha:a<12)(b:Nat)(x z:Bool):gE k a b (eL a x z)=Ak (VO k x z).1 (eL a (VO k x z).2.1 (VO k x z).2.2):=by
 have ex:(eL a x z).2.testBit a=x:=by rw[RK x z a ha];simp
 have ez:(eL a x z).2.testBit (12+a)=z:=by rw[RL x z a ha];simp
 have hk:k=1\/k=2\/k=3\/k=4\/k=5\/k=6:=qad;refine du ?_ ?_
 ·rcases hk with rfl|rfl|rfl|rfl|rfl|rfl<;>simp only[gE,gQ,ex,ez,Ak,VO]<;>simp only[eL]<;>cases x<;>cases z<;>rfl
 ·rcases hk with rfl|rfl|rfl|rfl|rfl|rfl<;>simp only[gE,gL,ex,ez,Ak,VO]<;>cases x<;>cases z<;>simp[eL,cd,py,E8,xorr]
section
variable{a b:Nat}
theorem eX(n:Nat):eL n true false=(0,2^n):=by simp[eL,cd]
theorem eZ(n:Nat):eL n false true=(0,2^(12+n)):=by simp[eL,cd]
theorem IL(ha:a<12)(hb:b<12)(hab:a≠b) :
  gE 9 a b (eL a true false)=aU (eL a true false) (eL b true false)/\gE 9 a b (eL a false true)=eL a false true ∧
  gE 9 a b (eL b true false)=eL b true false/\gE 9 a b (eL b false true)=aU (eL a false true) (eL b false true) ∧
  gE 10 a b (eL a true false)=aU (eL a true false) (eL b false true)/\gE 10 a b (eL a false true)=eL a false true ∧
  gE 10 a b (eL b true false)=aU (eL b true false) (eL a false true)/\gE 10 a b (eL b false true)=eL b false true ∧
  gE 11 a b (eL a true false)=eL b true false/\gE 11 a b (eL a false true)=eL b false true ∧
  gE 11 a b (eL b true false)=eL a true false/\gE 11 a b (eL b false true)=eL a false true:=by
 have hba:¬ b=a:=fun e=>hab e.symm;have q1:decide (a=12+b)=false:=decide_eq_false qad;have q2:decide (b=12+a)=false:=decide_eq_false qad;have q3:decide (a=12+a)=false:=decide_eq_false qad;have q4:decide (b=12+b)=false:=decide_eq_false qad;have q5:decide (12+a=b)=false:=decide_eq_false qad;have q6:decide (12+b=a)=false:=decide_eq_false qad;have q7:decide (12+a=a)=false:=decide_eq_false qad;have q8:decide (12+b=b)=false:=decide_eq_false qad;have q9:decide (12+a=12+b)=false:=decide_eq_false qad;have q0:decide (12+b=12+a)=false:=decide_eq_false qad;have d1:decide (a=b)=false:=decide_eq_false hab;have d2:decide (b=a)=false:=decide_eq_false hba;refine⟨?_,?_,?_,?_,?_,?_,?_,?_,?_,?_,?_,?_⟩;all_goals
  refine du ?_ ?_
  ·simp only[gE,gQ,aU,eX,eZ,lw ha,lw hb,kO,ll,q1,q2,q3,q4,q5,q6,q7,q8,q9,q0,d1,d2]
   try simp
  ·simp only[gE,gL,aU,eX,eZ,ll,q1,q2,q3,q4,q5,q6,q7,q8,q9,q0,d1,d2]
   try simp[cd,E8,xorr]
   try exact Hy _ _
end
def gp(a:Nat)(e:E):E:=((e.1+3*(e.2.testBit a&&e.2.testBit (12+a)).toNat)%4,e.2^^^(cd (e.2.testBit a) (2^a)^^^cd (e.2.testBit (12+a)) (2^(12+a))))
theorem qV{a:Nat}(ha:a<12){e:E}(h:e.1<4):aU (gp a e) (eL a (e.2.testBit a) (e.2.testBit (12+a)))=e:=by
 obtain⟨s,v⟩:=e;have q1:decide (12+a=a)=false:=decide_eq_false qad;have q2:decide (a=12+a)=false:=decide_eq_false qad;dsimp only at h⊢;refine du ?_ ?_
 ·simp only[gp,aU,eL,dM,nL,kP ha,kO,ll,gy,ju,q1,q2];cases v.testBit a<;>cases v.testBit (12+a)<;>simp<;>omega
 ·simp only[gp,aU,eL];rw[py,yE,zF]
theorem FL{a:Nat}(e:E):(gp a e).2.testBit a=false:=by
 have q1:decide (12+a=a)=false:=decide_eq_false qad;simp only[gp,gy,ju,ll,q1];cases e.2.testBit a<;>simp
theorem Ae{a:Nat}(ha:a<12)(e:E):(gp a e).2.testBit (12+a)=false:=by
 have q1:decide (a=12+a)=false:=decide_eq_false qad;simp only[gp,gy,ju,ll,q1];cases e.2.testBit (12+a)<;>simp
theorem Af{a j:Nat}(h1:j≠a)(h2:j≠12+a)(e:E):(gp a e).2.testBit j=e.2.testBit j:=by
 have q1:decide (a=j)=false:=decide_eq_false qad;have q2:decide (12+a=j)=false:=decide_eq_false qad;simp only[gp,gy,ju,ll,q1,q2];simp
theorem qU(a:Nat)(e:E):(gp a e).1<4:=Cm _ qaj
theorem Sc{k a b:Nat}(h1:1<=k)(h2:k<=6)(ha:a<12){e:E}(h:e.1<4):gE k a b e=Ak (VO k (e.2.testBit a) (e.2.testBit (12+a))).1 (aU (gp a e) (eL a (VO k (e.2.testBit a) (e.2.testBit (12+a))).2.1 (VO k (e.2.testBit a) (e.2.testBit (12+a))).2.2)):=by
 have hg:wI k a b:=.inl ⟨h1,h2,ha⟩;have e0:=qV ha h;generalize e.2.testBit a=x at *;generalize e.2.testBit (12+a)=z at *;rw[<- Jj,<- Ay h1 h2 ha b];conv=>lhs;rw[<- e0]
 rw[jl hg,Ax hg (qU a e) (FL e) (Ae ha e) (fun hk=>by omega)]
theorem Sd{k a b:Nat}(h1:9<=k)(h2:k<=11)(ha:a<12)(hb:b<12)(hab:a≠b){e:E}(h:e.1<4) :
  gE k a b e=aU (aU (gp b (gp a e)) (gE k a b (eL a (e.2.testBit a) (e.2.testBit (12+a))))) (gE k a b (eL b (e.2.testBit b) (e.2.testBit (12+b)))):=by
 have hg:wI k a b:=.inr ⟨h1,h2,ha,hb,hab⟩;have e0:=qV ha h;have e1:=qV hb (qU a e);rw[Af qad qad,Af qad qad]at e1;have hc:bw (eL a (e.2.testBit a) (e.2.testBit (12+a))) (eL b (e.2.testBit b) (e.2.testBit (12+b))):=by
  have d1:decide (a=b)=false:=decide_eq_false hab;have d2:decide (b=a)=false:=decide_eq_false fun e=>hab e.symm;unfold bw;generalize e.2.testBit a=x;generalize e.2.testBit (12+a)=z;generalize e.2.testBit b=x';generalize e.2.testBit (12+b)=z';have q1:decide (12+a=b)=false:=decide_eq_false qad;have q2:decide (12+b=a)=false:=decide_eq_false qad;have q3:decide (a=12+b)=false:=decide_eq_false qad;have q4:decide (b=12+a)=false:=decide_eq_false qad;simp only[eL,eF,dM,sS,nL,lw ha,nM ha,lw hb,nM hb,kO,ll,d1,d2,q1,q2,q3,q4];simp
 have e2:aU (aU (gp b (gp a e)) (eL a (e.2.testBit a) (e.2.testBit (12+a)))) (eL b (e.2.testBit b) (e.2.testBit (12+b)))=e:=by
  rw[bx,dL hc,<- bx,e1,e0]
 conv=>lhs;rw[<- e2]
 rw[jl hg,jl hg];rw[Ax hg (qU b _) (by rw[Af qad qad];exact FL e) (by rw[Af qad qad];exact Ae ha e) (fun _=>⟨FL _,Ae hb _⟩)]
end Go.Ma
namespace Go.Ma
theorem NR{k a b:Nat}(h:wI k a b)(u v:Nat):gL k a b (u^^^v)=gL k a b u^^^gL k a b v:=by
 have:=congrArg Prod.snd (jl h (0,u) (0,v));exact this
theorem IM{k a b:Nat}(h:wI k a b):gL k a b 0=0:=by
 have:=NR h 0 0;rw[yE,yE]at this;exact this
theorem FR{k a b:Nat}(h:wI k a b):gE k a b e1=e1:=by
 refine du ?_ (IM h);rcases h with⟨h1,h2,_⟩|⟨h1,h2,_⟩
 ·have hk:k=1\/k=2\/k=3\/k=4\/k=5\/k=6:=by omega
  rcases hk with rfl|rfl|rfl|rfl|rfl|rfl<;>simp[gE,gQ,e1]
 ·have hk:k=9\/k=10\/k=11:=by omega
  rcases hk with rfl|rfl|rfl<;>simp[gE,gQ,e1]
theorem Km(e f:E):bw e f ↔ aU e f=aU f e:=by
 refine⟨dL,fun h=>?_⟩;have h2:=congrArg Prod.fst h;simp only[aU]at h2;unfold bw;cases e1:bt e.2 f.2<;>cases e2:bt f.2 e.2<;>rw[e1,e2]at h2<;>simp at h2⊢<;>omega
theorem Yu(k a b:Nat)(e:E):gE k a b (dp e)=dp (gE k a b e):=by
 refine du ?_ rfl;simp only[gE,dp];omega
theorem Np{e f:E}(h:¬ bw e f):aU e f=dp (aU f e):=by
 refine du ?_ (by simp[aU,dp,Hy]);unfold bw at h;simp only[aU,dp];cases e1:bt e.2 f.2<;>cases e2:bt f.2 e.2<;>rw[e1,e2]at h<;>simp at h⊢<;>omega
theorem NM{k a b:Nat}(h:wI k a b)(e f:E):bw (gE k a b e) (gE k a b f) ↔ bw e f:=by
 constructor
 ·intro q;refine Fp fun n=>?_;have h1:=congrArg (gE k a b) (Np n);rw[Yu,jl h,jl h,dL q]at h1;exact Ag (Ix _ _) h1.symm
 ·intro q;rw[Km,<- jl h,<- jl h,dL q]
theorem gL_cm{k a b:Nat}(h:wI k a b)(u v:Nat):cm (gL k a b u) (gL k a b v)=cm u v:=by
 have:=NM h (0,u) (0,v);rw[jA,jA]at this;have e:cm (gL k a b u) (gL k a b v)=false ↔ cm u v=false:=this;cases q:cm u v<;>rw[q]at e<;>simp at e<;>exact e
theorem Yw{k a b:Nat}(h:wI k a b){u:Nat}(hu:u<2^24)(e:gL k a b u=0):u=0:=by
 refine Fs fun j=>?_;rw[Cj];rcases wa1 j 24 with hj|hj
 ·rw[<- Io hj,<- gL_cm h,e,O3]
 ·exact LM (uU hu (js qaj hj))
theorem VK{k a b:Nat}(h:wI k a b):∀(l:List Nat),(∀ c,c∈l->c<2^24)->∀ v,v<2^24->bG (l.map (gL k a b)) (gL k a b v)=bG l v
 | [],_,v,hv=>by
  show(gL k a b v==0)=(v==0);rw[tV];simp only[beq_iff_eq];exact⟨Yw h hv,fun e=>by rw[e,IM h]⟩
 | c::l,hl,v,hv=>by
  have ih:=VK h l (fun d hd=>hl d (eJ _ hd));simp only[nB,bG];rw[<- NR h,ih v hv,ih _ (pn hv (hl c aR))]
theorem VH{k a b:Nat}(h:wI k a b):∀(l:List Nat),(∀ c,c∈l->c<2^24)->rk (l.map (gL k a b))=rk l
 | [],_=>rfl
 | c::l,hl=>by
  have hl':=fun d hd=>hl d (eJ c hd);simp only[nB,rk];rw[VH h l hl',VK h l hl' c (hl c aR)]
theorem gE_ok{k a b:Nat}(h:wI k a b){e:E}(he:tc e):tc (gE k a b e):=by
 have h1:=jl h e e;rw[dn he,FR h]at h1;have h2:=congrArg Prod.fst h1;refine⟨wH _ _ _ _,?_⟩;have h3:0=((gE k a b e).1+(gE k a b e).1+2*(bt (gE k a b e).2 (gE k a b e).2).toNat)%4:=h2;omega
theorem Az{k a b w:Nat}(h:wI k a b)(ha:a<w)(hb:9<=k->b<w){v:Nat}{j:Nat}(hj:(w<=j/\j<12)\/12+w<=j)(hv:v.testBit j=false):(gL k a b v).testBit j=false:=by
 have q1:decide (a=j)=false:=decide_eq_false qad;have q2:decide (12+a=j)=false:=decide_eq_false qad;rcases h with⟨h1,h2,_⟩|⟨h1,h2,_⟩
 ·have hk:k=1\/k=2\/k=3\/k=4\/k=5\/k=6:=by omega
  rcases hk with rfl|rfl|rfl|rfl|rfl|rfl<;>simp only[gL,gy,ju,ll,hv,q1,q2]<;>simp
 ·have hb:=hb h1;have q3:decide (b=j)=false:=decide_eq_false qad;have q4:decide (12+b=j)=false:=decide_eq_false qad;have hk:k=9\/k=10\/k=11:=qad;rcases hk with rfl|rfl|rfl<;>simp only[gL,gy,ju,ll,hv,q1,q2,q3,q4]<;>simp
theorem Yt{k a b w:Nat}(h:wI k a b)(ha:a<w)(hb:9<=k->b<w){v:Nat}(hv:sE w v):sE w (gL k a b v) :=
 wP _ fun j hj=>Az h ha hb hj (jq _ (yI hj) v hv)
theorem Yv{k a b w:Nat}(hw:w<=12)(h:wI k a b)(ha:a<w)(hb:9<=k->b<w){L:List E}(hs:Sta w L):Sta w (L.map (gE k a b)):=by
 refine⟨⟨?_,?_⟩,?_,by rw[ef,hs.len],?_⟩
 ·intro x hx;obtain⟨e,he,rfl⟩:=bm.1 hx;exact gE_ok h (hs.good.ok e he)
 ·intro x y hx hy;obtain⟨e,he,rfl⟩:=bm.1 hx;obtain⟨f,hf,rfl⟩:=bm.1 hy;exact(NM h e f).2 (hs.good.com e f he hf)
 ·have e:(L.map (gE k a b)).map (·.2)=(L.map (·.2)).map (gL k a b):=by
   rw[pU,pU];rfl
  have hi:=hs.ind;unfold ub at hi⊢;have hlt:∀ c,c∈L.map (·.2)->c<2^24:=fun c hc=>by
   obtain⟨f,hf,rfl⟩:=bm.1 hc;exact pQ _ (Fu hw) _ (hs.inv f hf)
  rw[e,VH h _ hlt,hi,ef,ef,ef]
 ·intro x hx;obtain⟨e,he,rfl⟩:=bm.1 hx;exact Yt h ha hb (hs.inv e he)
end Go.Ma
namespace Go.Ma
variable{n c:Nat}{R R' pc pc':Nat->Nat}
theorem TT(h:RR n c n R pc):Piv n R (fun i=>pos (pc i)) fun i=>decide (i<n) :=
 ⟨fun i _ ha=>h.own i LG,fun i j hi hj hij ha=>h.other i j hi LG hij,fun i hi ha=>absurd hi LG⟩
theorem PI(h:RR n c n R pc)(m:Nat->Bool){i:Nat}(hi:i<n):cb (xr R m n) (pc i)=m i:=by
 have:=HK (m:=m) (TT h) (cF n) i hi B3;unfold cb;rw[this,decide_eq_true hi,Bool.true_and]
theorem Mp{v:Nat->Nat}{m:Nat->Bool}{d:Nat}:∀{k:Nat},(∀ i,i<k->m i=true->cb (v i) d=false)->cb (xr v m k) d=false
 | 0,_=>by unfold cb xr;exact Cj _
 | k+1,h=>by
  simp only[xr];have ih:=Mp (v:=v) (m:=m) (d:=d) (k:=k) fun i hi=>h i qad;split
  ·rename_i hm;rw[FC,ih,h k qad hm];rfl
  ·exact ih
theorem wT{m:Nat->Bool}:∀{k:Nat},(∃ i,i<k/\m i=true)->∃ j,j<k/\m j=true /\ ∀ i,i<j->m i=false
 | 0,h=>by obtain⟨i,hi,_⟩:=h;omega
 | k+1,h=>by
  by_cases q:∃ i,i<k/\m i=true
  ·obtain⟨j,h1,h2,h3⟩:=wT q;exact⟨j,by omega,h2,h3⟩
  ·obtain⟨i,hi,hm⟩:=h;have hik:i=k:=by
    refine Fp fun hn=>q ⟨i,by omega,hm⟩
   subst hik;exact⟨i,by omega,hm,fun j hj=>by
    cases e:m j with
    | false=>rfl
    | true=>exact absurd ⟨j,hj,e⟩ q⟩
theorem TU(h:RR n c n R pc){m:Nat->Bool}{j:Nat}(hm:∀ i,i<j->m i=false)(hj:j<n){d:Nat}(hd:d<pc j):cb (xr R m n) d=false:=by
 refine Mp fun i hi hmi=>h.lead i d hi ?_;rcases Ra i j with q|q|q
 ·rw[hm i q]at hmi;cases hmi
 ·subst q;exact hd
 ·exact Nat.lt_trans hd (h.mono j i q hi)
theorem VJ(h:RR n c n R pc)(h':RR n c n R' pc')(hs:∀ v,bG (dH R n) v=true->bG (dH R' n) v=true){j:Nat}(hj:j<n):∃ k,k<n/\pc j=pc' k:=by
 obtain⟨m,hm⟩:=sf (hs (R j) (bA _ _ (cQ.2 ⟨j,hj,rfl⟩)));have hex:∃ i,i<n/\m i=true:=by
  refine Fp fun hn=>?_;have h0:xr R' m n=0:=ss fun i hi=>by
   cases e:m i with
   | false=>rfl
   | true=>exact absurd ⟨i,hi,e⟩ hn
  have:=h.own j hj;rw[<- hm,h0]at this;unfold cb at this;rw[Cj]at this;cases this
 obtain⟨k,hk,k1,k2⟩:=wT hex;have a1:cb (R j) (pc' k)=true:=by rw[<- hm,PI h' m hk,k1]
 have a2:∀ d,d<pc' k->cb (R j) d=false:=fun d hd=>by rw[<- hm];exact TU h' k2 hk hd
 refine⟨k,hk,?_⟩;rcases Ra (pc j) (pc' k) with q|q|q
 ·have:=a2 _ q;rw[h.own j hj]at this;cases this
 ·exact q
 ·have:=h.lead j _ hj q;rw[a1]at this;cases this
theorem rr_pc(h:RR n c n R pc)(h':RR n c n R' pc')(hs:∀ v,bG (dH R n) v=bG (dH R' n) v):∀ j,j<n->pc j=pc' j:=by
 intro j
 induction j using Nat.strongRecOn with
 | _ j ih =>
  intro hj;obtain⟨k,hk,e1⟩:=VJ h h' (fun v hv=>by rw[<- hs];exact hv) hj;obtain⟨k',hk',e2⟩:=VJ h' h (fun v hv=>by rw[hs];exact hv) hj;have g1:j<=k:=by
   refine Fp fun q=>?_;have:=ih k qad hk;have:=h.mono k j qad hj;omega
  have g2:j<=k':=by
   refine Fp fun q=>?_;have:=ih k' qad hk';have:=h'.mono k' j qad hj;omega
  have m1:pc' j<=pc' k:=by
   rcases wa1 j k with q|q
   ·exact Nat.le_of_lt (h'.mono j k q hk)
   ·rw[show j=k by omega];exact cF _
  have m2:pc j<=pc k':=by
   rcases wa1 j k' with q|q
   ·exact Nat.le_of_lt (h.mono j k' q hk')
   ·rw[show j=k' by omega];exact cF _
  omega
theorem TX(h:RR n c n R pc)(h':RR n c n R' pc')(hs:∀ v,bG (dH R n) v=bG (dH R' n) v){j:Nat}(hj:j<n):R j=R' j:=by
 have hp:=rr_pc h h' hs;obtain⟨m,hm⟩:=sf ((hs (R j)).symm.trans (bA _ _ (cQ.2 ⟨j,hj,rfl⟩)));rw[<- hm];have he:∀ i,i<n->m i=(i==j):=fun i hi=>by
  rw[<- PI h' m hi,hm,<- hp i hi];by_cases e:i=j
  ·subst e;rw[h.own i hi];simp
  ·rw[h.other j i hj hi fun q=>e q.symm];simp[e]
 rw[oI (fun _ _=>rfl) he,Cc hj]
end Go.Ma
namespace Go.Tz
open Go Go.AL Go.Proofs
abbrev tab:Tab:=[
 (3,⟨false,1,8,.int .i64 0,.int .i64⟩),
 (4,⟨false,1,1,.bool false,.bool⟩),
 (5,⟨false,1,1,.int .u8 0,.int .u8⟩),
 (22,⟨false,1,24,.sl [] true,.sl 69⟩),
 (24,⟨false,2,32,.agg [.int .i64 0,.sl [] true],.st [(0,1,false),(1,1,false)]⟩),
 (27,⟨false,1,8,.int .i64 0,.int .i64⟩),
 (29,⟨false,2,32,.agg [.int .i64 0,.sl [] true],.st [(0,1,false),(1,1,false)]⟩),
 (31,⟨false,1,24,.sl [] true,.sl 33⟩),
 (33,⟨true,5,40,.agg [.int .i64 0,.int .i64 0,.int .i64 0,.int .i64 0,.int .i64 0],.st [(0,1,false),(1,1,false),(2,1,false),(3,1,false),(4,1,false)]⟩),
 (42,⟨false,1,24,.sl [] true,.sl 3⟩),
 (63,⟨false,1,24,.sl [] true,.sl 67⟩),
 (65,⟨false,3,40,.agg [.int .i64 0,.int .i64 0,.sl [] true],.st [(0,1,false),(1,1,false),(2,1,false)]⟩),
 (67,⟨false,4,48,.agg [.int .i64 0,.sl [] true,.int .i64 0,.int .i64 0],.st [(0,1,false),(1,1,false),(2,1,false),(3,1,false)]⟩),
 (69,⟨true,4,32,.agg [.int .i64 0,.int .i64 0,.int .i64 0,.int .i64 0],.st [(0,1,false),(1,1,false),(2,1,false),(3,1,false)]⟩),
 (73,⟨false,1,8,.nilf,.oth⟩),
 (82,⟨false,1,8,.nilf,.oth⟩),
 (96,⟨false,1,8,.nilp,.oth⟩),
 (97,⟨false,1,24,.sl [] true,.sl 96⟩),
 (99,⟨false,1,24,.sl [] true,.sl 42⟩),
 (101,⟨false,1,8,.int .u64 0,.int .u64⟩),
 (102,⟨false,1,24,.sl [] true,.sl 5⟩),
 (103,⟨false,1,8,.nilp,.oth⟩),
 (105,⟨false,1,8,.nilf,.oth⟩),
 (117,⟨false,1,8,.nilf,.oth⟩),
 (133,⟨false,3,56,.agg [.sl [] true,.int .i64 0,.sl [] true],.st [(0,1,false),(1,1,false),(2,1,false)]⟩),
 (144,⟨false,1,8,.nilp,.oth⟩),
 (146,⟨false,1,24,.sl [] true,.sl 230⟩),
 (151,⟨false,1,24,.sl [] true,.sl 241⟩),
 (160,⟨false,1,8,.nilf,.oth⟩),
 (162,⟨false,3,40,.agg [.int .i64 0,.sl [] true,.nilf],.st [(0,2,true),(2,1,false)]⟩),
 (164,⟨false,1,24,.sl [] true,.sl 166⟩),
 (166,⟨true,2,16,.agg [.int .i64 0,.int .i64 0],.st [(0,1,false),(1,1,false)]⟩),
 (170,⟨false,1,8,.nilf,.oth⟩),
 (172,⟨false,4,32,.agg [.int .i64 0,.int .i64 0,.int .i64 0,.int .i64 0],.st [(0,4,true)]⟩),
 (175,⟨false,1,8,.nilf,.oth⟩),
 (185,⟨false,1,4,.int .u32 0,.int .u32⟩),
 (187,⟨false,3,40,.agg [.sl [] true,.int .i64 0,.int .u32 0],.st [(0,1,false),(1,1,false),(2,1,false)]⟩),
 (195,⟨false,6,48,.agg [.int .i64 0,.int .i64 0,.int .i64 0,.int .i64 0,.int .i64 0,.nilf],.st [(0,5,true),(5,1,false)]⟩),
 (199,⟨true,4,32,.agg [.int .i64 0,.int .i64 0,.int .i64 0,.int .i64 0],.arr 4 3⟩),
 (203,⟨false,1,8,.nilf,.oth⟩),
 (205,⟨false,5,40,.agg [.int .i64 0,.int .i64 0,.int .i64 0,.int .i64 0,.nilf],.st [(0,4,true),(4,1,false)]⟩),
 (208,⟨false,1,8,.nilm,.map 3 273 false 1⟩),
 (210,⟨false,1,8,.nilf,.oth⟩),
 (212,⟨false,6,64,.agg [.int .i64 0,.int .i64 0,.sl [] true,.nilm,.nilf,.bool false],.st [(0,3,true),(3,1,false),(4,1,false),(5,1,false)]⟩),
 (215,⟨true,8,64,.agg [.int .i64 0,.int .i64 0,.int .i64 0,.int .i64 0,.int .i64 0,.int .i64 0,.int .i64 0,.int .i64 0],.arr 8 3⟩),
 (217,⟨false,9,72,.agg [.int .i64 0,.int .i64 0,.int .i64 0,.int .i64 0,.int .i64 0,.int .i64 0,.int .i64 0,.int .i64 0,.int .i64 0],.st [(0,8,true),(8,1,false)]⟩),
 (230,⟨false,5,40,.agg [.int .i64 0,.int .i64 0,.int .i64 0,.int .i64 0,.int .i64 0],.st [(0,1,false),(1,4,true)]⟩),
 (238,⟨false,1,8,.nilf,.oth⟩),
 (241,⟨false,1,24,.sl [] true,.sl 4⟩),
 (245,⟨true,2,16,.agg [.int .i64 0,.int .i64 0],.arr 2 3⟩),
 (248,⟨false,1,8,.nilm,.map 166 4 true 2⟩),
 (250,⟨false,1,24,.sl [] true,.sl 292⟩),
 (261,⟨false,4,48,.agg [.int .i64 0,.int .i64 0,.sl [] true,.nilf],.st [(0,3,true),(3,1,false)]⟩),
 (263,⟨true,2,16,.agg [.int .i64 0,.int .i64 0],.st [(0,1,false),(1,1,false)]⟩),
 (265,⟨true,2,16,.agg [.int .i64 0,.int .i64 0],.arr 2 3⟩),
 (273,⟨false,1,24,.sl [] true,.sl 31⟩),
 (276,⟨false,1,8,.nilm,.map 3 33 false 1⟩),
 (280,⟨false,1,8,.nilf,.oth⟩),
 (281,⟨false,1,8,.nilf,.oth⟩),
 (285,⟨false,1,8,.nilf,.oth⟩),
 (290,⟨false,1,8,.int .u64 0,.int .u64⟩),
 (292,⟨true,2,16,.agg [.int .i64 0,.int .i64 0],.st [(0,1,false),(1,1,false)]⟩),
 (296,⟨false,1,8,.nilm,.map 299 263 true 2⟩),
 (299,⟨true,2,16,.agg [.int .i64 0,.int .i64 0],.st [(0,1,false),(1,1,false)]⟩),
 (307,⟨false,1,24,.sl [] true,.sl 31⟩),
 (309,⟨false,1,8,.nilm,.map 3 307 false 1⟩),
 (312,⟨true,32,32,.agg [.int .u8 0,.int .u8 0,.int .u8 0,.int .u8 0,.int .u8 0,.int .u8 0,.int .u8 0,.int .u8 0,.int .u8 0,.int .u8 0,.int .u8 0,.int .u8 0,.int .u8 0,.int .u8 0,.int .u8 0,.int .u8 0,.int .u8 0,.int .u8 0,.int .u8 0,.int .u8 0,.int .u8 0,.int .u8 0,.int .u8 0,.int .u8 0,.int .u8 0,.int .u8 0,.int .u8 0,.int .u8 0,.int .u8 0,.int .u8 0,.int .u8 0,.int .u8 0],.arr 32 5⟩),
 (313,⟨true,64,64,.agg [.int .u8 0,.int .u8 0,.int .u8 0,.int .u8 0,.int .u8 0,.int .u8 0,.int .u8 0,.int .u8 0,.int .u8 0,.int .u8 0,.int .u8 0,.int .u8 0,.int .u8 0,.int .u8 0,.int .u8 0,.int .u8 0,.int .u8 0,.int .u8 0,.int .u8 0,.int .u8 0,.int .u8 0,.int .u8 0,.int .u8 0,.int .u8 0,.int .u8 0,.int .u8 0,.int .u8 0,.int .u8 0,.int .u8 0,.int .u8 0,.int .u8 0,.int .u8 0,.int .u8 0,.int .u8 0,.int .u8 0,.int .u8 0,.int .u8 0,.int .u8 0,.int .u8 0,.int .u8 0,.int .u8 0,.int .u8 0,.int .u8 0,.int .u8 0,.int .u8 0,.int .u8 0,.int .u8 0,.int .u8 0,.int .u8 0,.int .u8 0,.int .u8 0,.int .u8 0,.int .u8 0,.int .u8 0,.int .u8 0,.int .u8 0,.int .u8 0,.int .u8 0,.int .u8 0,.int .u8 0,.int .u8 0,.int .u8 0,.int .u8 0,.int .u8 0],.arr 64 5⟩)]
theorem D2:TabOk Tryz.prog tab:=⟨aF ar,aF ar,aF ar,aF ar,aF ar,aF ar,aF ar,aF ar,aF ar,aF ar,aF ar,aF ar,aF ar,aF ar,aF ar,aF ar,aF ar,aF ar,aF ar,aF ar,aF ar,aF ar,aF ar,aF ar,aF ar,aF ar,aF ar,aF ar,aF ar,aF ar,aF ar,aF ar,aF ar,aF ar,aF ar,aF ar,aF ar,aF ar,aF ar,aF ar,aF ar,aF ar,aF ar,aF ar,aF ar,aF ar,aF ar,aF ar,aF ar,aF ar,aF ar,aF ar,aF ar,aF ar,aF ar,aF ar,aF ar,aF ar,aF ar,aF ar,aF ar,aF ar,aF ar,aF ar,aF ar,aF ar,aF ar,aF ar,trivial⟩
end Go.Tz
namespace Go.Tz
open Go Go.AL Go.Proofs
noncomputable abbrev Pr:=Tryz.prog
theorem pok:POk Pr tab:=⟨D2,by kernel_rfl⟩
abbrev iD(n:Int):D:=.int .i64 n
def VN:List D:=[.int .u8 0,.int .u8 1,.int .u8 28,.int .u8 2,.int .u8 29,.int .u8 14,.int .u8 24,.int .u8 3,.int .u8 30,.int .u8 22,.int .u8 20,.int .u8 15,.int .u8 25,.int .u8 17,.int .u8 4,.int .u8 8,.int .u8 31,.int .u8 27,.int .u8 13,.int .u8 23,.int .u8 21,.int .u8 19,.int .u8 16,.int .u8 7,.int .u8 26,.int .u8 12,.int .u8 18,.int .u8 6,.int .u8 11,.int .u8 5,.int .u8 10,.int .u8 9]
def xL:List D:=[.int .u8 0,.int .u8 1,.int .u8 56,.int .u8 2,.int .u8 57,.int .u8 49,.int .u8 28,.int .u8 3,.int .u8 61,.int .u8 58,.int .u8 42,.int .u8 50,.int .u8 38,.int .u8 29,.int .u8 17,.int .u8 4,.int .u8 62,.int .u8 47,.int .u8 59,.int .u8 36,.int .u8 45,.int .u8 43,.int .u8 51,.int .u8 22,.int .u8 53,.int .u8 39,.int .u8 33,.int .u8 30,.int .u8 24,.int .u8 18,.int .u8 12,.int .u8 5,.int .u8 63,.int .u8 55,.int .u8 48,.int .u8 27,.int .u8 60,.int .u8 41,.int .u8 37,.int .u8 16,.int .u8 46,.int .u8 35,.int .u8 44,.int .u8 21,.int .u8 52,.int .u8 32,.int .u8 23,.int .u8 11,.int .u8 54,.int .u8 26,.int .u8 40,.int .u8 15,.int .u8 34,.int .u8 20,.int .u8 31,.int .u8 10,.int .u8 25,.int .u8 14,.int .u8 19,.int .u8 9,.int .u8 13,.int .u8 8,.int .u8 7,.int .u8 6]
def GG:Nat->Option (List D):=fun g=>match Nat.beq g 1 with
 | true=>some VN
 | false=>match Nat.beq g 2 with
  | true=>some xL
  | false=>none
def Ww:List Nat:=[9,216,257,275]
def CG(P:Program)(f:Nat):Bool:=match fL f Ww with
 | true=>true
 | false=>match P.funcs[f]? with
  | some fn=>aq fn
  | none=>true
theorem Rz{P:Program}{f:Nat}{fn:Func}(h3:fL f Ww=false)(h:P.funcs[f]?=some fn)(key:CG P f=true):aq fn=true:=by
 unfold CG at key;rw[h3,h]at key;exact key
theorem N9:(List.range' 3 60).all (CG Pr)=true:=ar
theorem O0:(List.range' 63 75).all (CG Pr)=true:=ar
theorem O1:(List.range' 138 75).all (CG Pr)=true:=ar
theorem O2:(List.range' 213 75).all (CG Pr)=true:=ar
theorem chkA{f:Nat}(h1:3<=f)(h2:f<=287):CG Pr f=true:=by
 rcases wa1 f 63 with q|q
 ·exact lh.1 N9 f (List.mem_range'_1.2 ⟨h1,by omega⟩)
 rcases wa1 f 138 with q2|q2
 ·exact lh.1 O0 f (List.mem_range'_1.2 ⟨q,by omega⟩)
 rcases wa1 f 213 with q3|q3
 ·exact lh.1 O1 f (List.mem_range'_1.2 ⟨q2,by omega⟩)
 ·exact lh.1 O2 f (List.mem_range'_1.2 ⟨q3,by omega⟩)
def FFP(P:Program)(f:FuncId):Option Func:=match Nat.ble 3 f,Nat.ble f 287,fL f Ww with
 | true,true,false=>P.funcs[f]?
 | _,_,_=>none
theorem Yp{P:Program}(hA:∀ f,3<=f->f<=287->CG P f=true):J6 P (FFP P):=by
 intro f fn h;unfold FFP at h;split at h
 ·rename_i h1 h2 h3;exact⟨h,Rz h3 h (hA f (nA h1) (nA h2))⟩
 ·cases h
noncomputable def FF:FuncId->Option Func:=FFP Pr
theorem Nz:J6 Pr FF:=Yp fun _ h1 h2=>chkA h1 h2
end Go.Tz
namespace Go.Tz
open Go Go.AL Go.Proofs
variable{G:Nat->Option (List D)}
abbrev Q4:=Int×Int×Int×Int
abbrev DX(a b:Int):D:=.agg [iD a,iD b]
def QV(q:Q4):D×D:=(DX q.1 q.2.1,DX q.2.2.1 q.2.2.2)
def AJ(q:Q4):List Int:=[q.1,q.2.1]
theorem zh(l:List Q4):mZ true (l.map QV)=some (l.map AJ):=by
 induction l with
 | nil=>rfl
 | cons q l ih=>simp[mZ,QV,ym,jn,ih,AJ]
theorem Dr(l:List Q4):∀ ks,ks∈l.map AJ->ks.length=2:=by
 intro ks h;obtain⟨q,_,rfl⟩:=bm.1 h;rfl
theorem Dm{a b:Int}:∀(l:List Q4) (i:Nat),(∀ q,q∈l->AJ q≠[a,b])->fD [a,b] (l.map AJ) i=none
 | [],_,_=>rfl
 | q::l,i,h=>by
  have h1:=h q aR;have:([a,b]==AJ q)=false:=beq_eq_false_iff_ne.2 (Ne.symm h1);simp only[nB,fD,this];exact Dm l (i+1) fun q hq=>h q (by simp[hq])
theorem Dn{a b c d:Int}:∀(l:List Q4) (i:Nat),(a,b,c,d)∈l->(∀ q,q∈l->AJ q=[a,b]->q=(a,b,c,d))->∃ j,fD [a,b] (l.map AJ) i=some (i+j)/\l[j]?=some (a,b,c,d)
 | [],_,h,_=>by cases h
 | q::l,i,h,hu=>by
  by_cases e:AJ q=[a,b]
  ·have:=hu q aR e;subst this;exact⟨0,by simp[fD,AJ],rfl⟩
  ·have h':(a,b,c,d)∈l:=by
    rcases jJ.1 h with q1|q1
    ·subst q1;exact absurd rfl e
    ·exact q1
   obtain⟨j,h1,h2⟩:=Dn l (i+1) h' fun q hq=>hu q (by simp[hq]);have:([a,b]==AJ q)=false:=beq_eq_false_iff_ne.2 (Ne.symm e);refine⟨j+1,?_,by simpa using h2⟩;simp only[nB,fD,this,h1];congr 1;omega
def qB{α:Type}(tb:List (Nat × α))(L:Nat->Bool):List α:=(tb.filter fun p=>L p.1).map (·.2)
theorem sb{α:Type}{i:Nat}{L:Nat->Bool}:∀{tb:List (Nat × α)},(∀ p,p∈tb->p.1≠i)->qB tb (fun j=>if j=i then true else L j)=qB tb L:=by
 intro tb h;unfold qB;congr 1;apply List.filter_congr;intro p hp;simp[h p hp]
theorem JK{α:Type}{i:Nat}{q:α}{L:Nat->Bool}(hL:L i=false):∀(tb:List (Nat × α)),(tb.map (·.1)).Nodup->(i,q)∈tb->(qB tb fun j=>if j=i then true else L j).Perm (qB tb L++[q])
 | [],_,h=>by cases h
 | (k,x)::tb,hn,h=>by
  simp only[nB,I7]at hn;rcases jJ.1 h with e|e
  ·cases e;have hne:∀ p,p∈tb->p.1≠i:=fun p hp he=>hn.1 (bm.2 ⟨p,hp,he⟩);have h1:qB ((i,q)::tb) (fun j=>if j=i then true else L j)=q::qB tb L:=by
    rw[<- sb (i:=i) (L:=L) hne];simp[qB]
   have h2:qB ((i,q)::tb) L=qB tb L:=by simp[qB,hL]
   rw[h1,h2];exact(List.perm_append_singleton q (qB tb L)).symm
  ·have hki:k≠i:=fun e2=>hn.1 (bm.2 ⟨(i,q),e,e2.symm⟩);have ih:=JK hL tb hn.2 e;by_cases hk:L k=true
   ·have h1:qB ((k,x)::tb) (fun j=>if j=i then true else L j)=x::qB tb (fun j=>if j=i then true else L j):=by simp[qB,hki,hk]
    have h2:qB ((k,x)::tb) L=x::qB tb L:=by simp[qB,hk]
    rw[h1,h2];exact ih.cons x
   ·have h1:qB ((k,x)::tb) (fun j=>if j=i then true else L j)=qB tb (fun j=>if j=i then true else L j):=by simp[qB,hki,hk]
    have h2:qB ((k,x)::tb) L=qB tb L:=by simp[qB,hk]
    rw[h1,h2];exact ih
def yy:List (Nat×Q4):=[(3,1,2,3,1),(6,2,1,3,3),(9,2,3,1,1),(12,3,2,1,3),(15,3,1,2,1),(18,1,3,2,3)]
def D3:List (Nat×Nat×Int×Int):=[(1,2,1,2),(2,3,3,1),(4,4,2,1),(5,5,3,3),(7,6,2,3),(8,7,1,1),(10,8,3,2),(11,9,1,3),(13,10,3,1),(14,11,2,1),(16,12,1,3),(17,13,2,3)]
structure SR (L:Nat->Bool) (s:St):Prop where
 bl:∀ i t a b,(i,t,a,b)∈D3->L i=true->lk s.env t = .d (DX a b)
 mp:L 0=true->lk s.env 1 = .map 0/\s.nx=1 /\ ∃ l:List Q4,s.heap.get 0=some (.map (l.map QV))/\l.Perm (qB yy L)
 no:L 0=false->s.nx=0/\s.heap=[]/\qB yy L=[]
 t14:L 19=true->lk s.env 14 = .map 0
 t0:L 20=true->lk s.env 0 = .map 0
theorem dq{s:St}{t m:Nat}{v:AV}(h:m≠t):lk (s.put (some t) v).env m=lk s.env m:=aV v s.env h
theorem Hc{L:Nat->Bool}{s:St}{i t:Nat}{v:AV}(h:SR L s)(hi0:i≠0)(hie:∀ p,p∈yy->p.1≠i)(hb:∀ j t' a b,(j,t',a,b)∈D3->(j=i->t'=t/\v = .d (DX a b))/\(j≠i->t'≠t))(h1:t≠1)
  (h14:if i=19 then t=14/\v = .map 0 else t≠14) (h0:if i=20 then t=0/\v = .map 0 else t≠0):SR (fun j=>if j=i then true else L j) (s.put (some t) v):=by
 constructor
 ·intro j t' a b hj hL;obtain⟨p1,p2⟩:=hb j t' a b hj;by_cases e:j=i
  ·obtain⟨rfl,rfl⟩:=p1 e;exact ba _ _ _
  ·rw[dq (p2 e)];simp only[if_neg e]at hL;exact h.bl j t' a b hj hL
 ·intro hL;simp only[if_neg (Ne.symm hi0)]at hL;obtain⟨a1,a2,l,a3,a4⟩:=h.mp hL;exact⟨by rw[dq (Ne.symm h1)];exact a1,a2,l,a3,by rw[sb hie];exact a4⟩
 ·intro hL;simp only[if_neg (Ne.symm hi0)]at hL;obtain⟨a1,a2,a3⟩:=h.no hL;exact⟨a1,a2,by rw[sb hie];exact a3⟩
 ·intro hL;by_cases e:i=19
  ·rw[if_pos e]at h14;obtain⟨rfl,rfl⟩:=h14;exact ba _ _ _
  ·rw[if_neg e]at h14;rw[dq (Ne.symm h14)];simp only[if_neg (Ne.symm e)]at hL;exact h.t14 hL
 ·intro hL;by_cases e:i=20
  ·rw[if_pos e]at h0;obtain⟨rfl,rfl⟩:=h0;exact ba _ _ _
  ·rw[if_neg e]at h0;rw[dq (Ne.symm h0)];simp only[if_neg (Ne.symm e)]at hL;exact h.t0 hL
end Go.Tz
namespace Go.Tz
open Go Go.AL Go.Proofs
variable{G:Nat->Option (List D)}{r:Option Nat}{n b:Nat}{ms:List Nat}
theorem xM:vI Pr 299 [iD 0,iD 0] [(0,1),(1,1)]:=tJ pok.tab (ty:=⟨true,2,16,.agg [iD 0,iD 0],.st [(0,1,false),(1,1,false)]⟩) rfl rfl rfl
theorem zA:vI Pr 263 [iD 0,iD 0] [(0,1),(1,1)]:=tJ pok.tab (ty:=⟨true,2,16,.agg [iD 0,iD 0],.st [(0,1,false),(1,1,false)]⟩) rfl rfl rfl
theorem eS{s:St}{o:Oper}{t:TypeId}{a b:Int}(ho:o.op = .build t #[(0,.const (.int .i64 a)),(1,.const (.int .i64 b))])(hT:vI Pr t [iD 0,iD 0] [(0,1),(1,1)]):PureOp G Pr s o (.d (DX a b)) :=
 qn (l:=[.d (iD a),.d (iD b)]) ho hT rfl
theorem Uc{L:Nat->Bool}{s:St}(h:SR L s)(hL:L 0=false):SR (fun j=>if j=0 then true else L j) ({ env:=s.env,heap:=(s.nx,some (.map []))::s.heap,nx:=s.nx+1:St }.put (some 1) (.map s.nx)):=by
 obtain⟨n1,n2,n3⟩:=h.no hL;constructor
 ·intro i t a b hi hl;have h1:t≠1/\i≠0:=by
   have:∀ p,p∈D3->p.2.1≠1/\p.1≠0:=qaj;exact this _ hi
  simp only[if_neg h1.2]at hl;show lk ((1,AV.map s.nx)::s.env) t=_;rw[aV _ _ h1.1];exact h.bl i t a b hi hl
 ·intro _;refine⟨by rw[n1];exact ba _ _ _,by show s.nx+1=1;rw[n1],[],?_,?_⟩
  ·show AHeap.get ((s.nx,some (.map []))::s.heap) 0=_;rw[n1];rfl
  ·rw[sb qaj,n3]
 ·intro hl;simp at hl
 ·intro hl;show lk ((1,AV.map s.nx)::s.env) 14=_;rw[aV _ _ qaj];exact h.t14 hl
 ·intro hl;show lk ((1,AV.map s.nx)::s.env) 0=_;rw[aV _ _ qaj];exact h.t0 hl
theorem Dq:Q1 Pr 299 true 2:=by
 have h:=(pok.tab.get (t:=296) (ty:=⟨false,1,8,.nilm,.map 299 263 true 2⟩) rfl).2;exact h.2
theorem Qp:Pr.underlying 296=some (.map 299 263):=(pok.tab.get (t:=296) (ty:=⟨false,1,8,.nilm,.map 299 263 true 2⟩) rfl).2.1
theorem tG{L:Nat->Bool}{s:St}{o:Oper}{i t1 t2:Nat}{q:Q4}(h:SR L s)(hL:L i=false)(h0:L 0=true)(ho:o.op = .insert 296 (.tmp 1) (.tmp t1) (.tmp t2))(hd:o.dst=none)(e1:lk s.env t1 = .d (DX q.1 q.2.1))(e2:lk s.env t2 = .d (DX q.2.2.1 q.2.2.2))
  (hm:(i,q)∈yy) (hi0:i≠0/\i≠19/\i≠20 /\ ∀ p,p∈D3->p.1≠i) (hu:∀ p,p∈yy->AJ p.2=AJ q->p.1=i):nF r Pr G n b o s ms (fun s'=>SR (fun j=>if j=i then true else L j) s'):=by
 obtain⟨m1,m2,l,m3,m4⟩:=h.mp h0;have hnone:fD [q.1,q.2.1] (l.map AJ) 0=none:=Dm l 0 fun x hx hk=>by
  have hx':x∈qB yy L:=m4.subset hx;unfold qB at hx';obtain⟨p,hp,rfl⟩:=bm.1 hx';obtain⟨p1,p2⟩:=VY.1 hp;have:=hu p p1 hk;rw[this,hL]at p2;cases p2
 have hst:=kr (G:=G) (st:=s) (S:=2) (nm:=0) (d:=DX q.1 q.2.1) (y:=DX q.2.2.1 q.2.2.2) (es:=l.map QV) (kss:=l.map AJ) (.inr ho) Qp Dq m1 m3 e1 rfl e2 rfl (zh l) (Dr l) rfl;rw[hnone]at hst;refine gm (k:=0) (fun c hc=>by rw[ho]at hc;cases hc) (hst.names fun _ h=>h.elim) (by rw[hd];rfl) ?_;rw[hd];constructor
 ·intro j t a b' hj hl;have:=hi0.2.2.2 _ hj;simp only[if_neg this]at hl;exact h.bl j t a b' hj hl
 ·intro _;refine⟨m1,m2,l++[q],?_,?_⟩
  ·show AHeap.get ((0,_)::s.heap) 0=_;rw[ao];simp[QV]
  ·exact(m4.append_right [q]).trans (JK hL yy qaj hm).symm
 ·intro hl;simp only[if_neg (Ne.symm hi0.1)]at hl;rw[h0]at hl;cases hl
 ·intro hl;simp only[if_neg (Ne.symm hi0.2.1)]at hl;exact h.t14 hl
 ·intro hl;simp only[if_neg (Ne.symm hi0.2.2.1)]at hl;exact h.t0 hl
theorem VL{i t:Nat}{v:AV}(h:∀ p,p∈D3->p.1≠i/\p.2.1≠t):∀ j t' a b,(j,t',a,b)∈D3->(j=i->t'=t/\v = .d (DX a b))/\(j≠i->t'≠t) :=
 fun _ _ _ _ hj=>⟨fun e=>absurd e (h _ hj).1,fun _=>(h _ hj).2⟩
theorem jr{L:Nat->Bool}{s:St}{i t:Nat}{x y:Int}(h:SR L s)(hi:i≠0/\i≠19/\i≠20)(ht:t≠1/\t≠14/\t≠0)(hie:∀ p,p∈yy->p.1≠i)(hb:∀ p,p∈D3->(p.1=i->p.2.1=t/\p.2.2.1=x/\p.2.2.2=y)/\(p.1≠i->p.2.1≠t)) :
  SR (fun j=>if j=i then true else L j) (s.put (some t) (.d (DX x y))) :=
 Hc h hi.1 hie (fun j t' a b hj=>⟨fun e=>by obtain⟨q1,q2,q3⟩:=(hb _ hj).1 e;simp only at q1 q2 q3;subst q2 q3;exact⟨q1,rfl⟩,fun e=>(hb _ hj).2 e⟩) ht.1 (by rw[if_neg hi.2.1];exact ht.2.1) (by rw[if_neg hi.2.2];exact ht.2.2)
theorem Rx{i:Nat}(h:i<21):i=0\/i=1\/i=2\/i=3\/i=4\/i=5\/i=6\/i=7\/i=8\/i=9\/i=10\/i=11\/i=12\/i=13\/i=14\/i=15\/i=16\/i=17\/i=18\/i=19\/i=20:=qad
theorem Uh:bq Pr G 257 [] [] 0 fun v H k=>v = .map 0/\k=1 /\ ∃ l:List Q4,H.get 0=some (.map (l.map QV))/\l.Perm (yy.map (·.2)):=by
 refine vJ Tryz.func257 rfl qaj ?_;refine jx (vQ (aL (v:=.d .nilm) (fun c h=>by cases h) (je rfl rfl) rfl ?_));refine jx (vc pok.mixed (qX ar) SR ?_ ?_ ?_)
 ·exact⟨fun i t a b _ h=>(by cases h),fun h=>(by cases h),fun _=>⟨rfl,rfl,rfl⟩,fun h=>(by cases h),fun h=>(by cases h)⟩
 ·intro L s i o hS hL ho hall;rcases Rx (BU.1 ho).1 with rfl|rfl|rfl|rfl|rfl|rfl|rfl|rfl|rfl|rfl|rfl|rfl|rfl|rfl|rfl|rfl|rfl|rfl|rfl|rfl|rfl
  ·have ho:=ku (show some _=some o from ho);subst ho;refine⟨rfl,gm (k:=1) (fun c h=>by cases h) ((sg (nm:=s.nx) rfl).names fun m hm=>⟨Nat.le_of_eq hm.symm,by omega⟩) rfl ?_⟩;exact Uc hS hL
  ·have ho:=ku (show some _=some o from ho);subst ho;exact⟨rfl,aL (fun c h=>by cases h) (eS (a:=1) (b:=2) rfl xM) rfl (jr hS qaj qaj qaj qaj)⟩
  ·have ho:=ku (show some _=some o from ho);subst ho;exact⟨rfl,aL (fun c h=>by cases h) (eS (a:=3) (b:=1) rfl zA) rfl (jr hS qaj qaj qaj qaj)⟩
  ·have ho:=ku (show some _=some o from ho);subst ho;have h0:=hall ⟨0,.data⟩ aR rfl;have h1:=hall ⟨1,.data⟩ aR rfl;have h2:=hall ⟨2,.data⟩ aR rfl;exact⟨rfl,tG (i:=3) (q:=(1,2,3,1)) (t1:=2) (t2:=3) hS hL h0 rfl rfl (hS.bl 1 2 _ _ qaj h1) (hS.bl 2 3 _ _ qaj h2) qaj qaj qaj⟩
  ·have ho:=ku (show some _=some o from ho);subst ho;exact⟨rfl,aL (fun c h=>by cases h) (eS (a:=2) (b:=1) rfl xM) rfl (jr hS qaj qaj qaj qaj)⟩
  ·have ho:=ku (show some _=some o from ho);subst ho;exact⟨rfl,aL (fun c h=>by cases h) (eS (a:=3) (b:=3) rfl zA) rfl (jr hS qaj qaj qaj qaj)⟩
  ·have ho:=ku (show some _=some o from ho);subst ho;have h0:=hall ⟨0,.data⟩ aR rfl;have h1:=hall ⟨4,.data⟩ aR rfl;have h2:=hall ⟨5,.data⟩ aR rfl;exact⟨rfl,tG (i:=6) (q:=(2,1,3,3)) (t1:=4) (t2:=5) hS hL h0 rfl rfl (hS.bl 4 4 _ _ qaj h1) (hS.bl 5 5 _ _ qaj h2) qaj qaj qaj⟩
  ·have ho:=ku (show some _=some o from ho);subst ho;exact⟨rfl,aL (fun c h=>by cases h) (eS (a:=2) (b:=3) rfl xM) rfl (jr hS qaj qaj qaj qaj)⟩
  ·have ho:=ku (show some _=some o from ho);subst ho;exact⟨rfl,aL (fun c h=>by cases h) (eS (a:=1) (b:=1) rfl zA) rfl (jr hS qaj qaj qaj qaj)⟩
  ·have ho:=ku (show some _=some o from ho);subst ho;have h0:=hall ⟨0,.data⟩ aR rfl;have h1:=hall ⟨7,.data⟩ aR rfl;have h2:=hall ⟨8,.data⟩ aR rfl;exact⟨rfl,tG (i:=9) (q:=(2,3,1,1)) (t1:=6) (t2:=7) hS hL h0 rfl rfl (hS.bl 7 6 _ _ qaj h1) (hS.bl 8 7 _ _ qaj h2) qaj qaj qaj⟩
  ·have ho:=ku (show some _=some o from ho);subst ho;exact⟨rfl,aL (fun c h=>by cases h) (eS (a:=3) (b:=2) rfl xM) rfl (jr hS qaj qaj qaj qaj)⟩
  ·have ho:=ku (show some _=some o from ho);subst ho;exact⟨rfl,aL (fun c h=>by cases h) (eS (a:=1) (b:=3) rfl zA) rfl (jr hS qaj qaj qaj qaj)⟩
  ·have ho:=ku (show some _=some o from ho);subst ho;have h0:=hall ⟨0,.data⟩ aR rfl;have h1:=hall ⟨10,.data⟩ aR rfl;have h2:=hall ⟨11,.data⟩ aR rfl;exact⟨rfl,tG (i:=12) (q:=(3,2,1,3)) (t1:=8) (t2:=9) hS hL h0 rfl rfl (hS.bl 10 8 _ _ qaj h1) (hS.bl 11 9 _ _ qaj h2) qaj qaj qaj⟩
  ·have ho:=ku (show some _=some o from ho);subst ho;exact⟨rfl,aL (fun c h=>by cases h) (eS (a:=3) (b:=1) rfl xM) rfl (jr hS qaj qaj qaj qaj)⟩
  ·have ho:=ku (show some _=some o from ho);subst ho;exact⟨rfl,aL (fun c h=>by cases h) (eS (a:=2) (b:=1) rfl zA) rfl (jr hS qaj qaj qaj qaj)⟩
  ·have ho:=ku (show some _=some o from ho);subst ho;have h0:=hall ⟨0,.data⟩ aR rfl;have h1:=hall ⟨13,.data⟩ aR rfl;have h2:=hall ⟨14,.data⟩ aR rfl;exact⟨rfl,tG (i:=15) (q:=(3,1,2,1)) (t1:=10) (t2:=11) hS hL h0 rfl rfl (hS.bl 13 10 _ _ qaj h1) (hS.bl 14 11 _ _ qaj h2) qaj qaj qaj⟩
  ·have ho:=ku (show some _=some o from ho);subst ho;exact⟨rfl,aL (fun c h=>by cases h) (eS (a:=1) (b:=3) rfl xM) rfl (jr hS qaj qaj qaj qaj)⟩
  ·have ho:=ku (show some _=some o from ho);subst ho;exact⟨rfl,aL (fun c h=>by cases h) (eS (a:=2) (b:=3) rfl zA) rfl (jr hS qaj qaj qaj qaj)⟩
  ·have ho:=ku (show some _=some o from ho);subst ho;have h0:=hall ⟨0,.data⟩ aR rfl;have h1:=hall ⟨16,.data⟩ aR rfl;have h2:=hall ⟨17,.data⟩ aR rfl;exact⟨rfl,tG (i:=18) (q:=(1,3,2,3)) (t1:=12) (t2:=13) hS hL h0 rfl rfl (hS.bl 16 12 _ _ qaj h1) (hS.bl 17 13 _ _ qaj h2) qaj qaj qaj⟩
  ·have ho:=ku (show some _=some o from ho);subst ho;have h0:=hall ⟨0,.data⟩ aR rfl;exact⟨rfl,aL (fun c h=>by cases h) (jM rfl (hS.mp h0).1) rfl (Hc hS qaj qaj (VL qaj) qaj (.intro rfl rfl) (by decide:(14:Nat)≠0))⟩
  ·have ho:=ku (show some _=some o from ho);subst ho;have h0:=hall ⟨19,.data⟩ aR rfl;exact⟨rfl,aL (fun c h=>by cases h) (je rfl (hS.t14 h0)) rfl (Hc hS qaj qaj (VL qaj) qaj (by decide:(0:Nat)≠14) (.intro rfl rfl))⟩
 ·intro L s hS hall;obtain⟨m1,m2,l,m3,m4⟩:=hS.mp (hall 0 qaj);refine qN ⟨.inr rfl,rfl,.map 0,?_,rfl,m2,l,m3,?_⟩
  ·have:=Q2.one (P:=Pr) (G:=G) (st:=s) (.tmp 0) _ (.tmp 0);rw[hS.t0 (hall 20 qaj)]at this;exact this
  ·have:qB yy L=yy.map (·.2):=by
    unfold qB;congr 1;apply List.filter_eq_self.2;intro p hp;have:∀ p,p∈yy->p.1<21:=qaj;exact hall _ (this p hp)
   rw[<- this];exact m4
end Go.Tz
namespace Go.Tz
open Go Go.AL Go.Proofs
variable{G:Nat->Option (List D)}{r:Option Nat}{n b0:Nat}{ms:List Nat}{a b c d:Int}
def vl(a b c d:Int):Nat->AV
 | 1=>.ptr 0 2 0 0
 | 2=>.d (iD a)
 | 3=>.ptr 0 2 0 1
 | 4=>.d (iD b)
 | 5=>.d (DX a b)
 | _=>.d (DX c d)
structure S7 (a b c d:Int) (L:Nat->Bool) (s:St):Prop where
 e1:lk s.env 1 = .ptr 0 2 0 0
 e2:lk s.env 2 = .ptr 1 2 0 0
 g0:s.heap.get 0=some (.arr 2 [[.d (iD a),.d (iD b)]])
 g1:L 7=false->s.heap.get 1=some (.arr 2 [[.d (iD 0),.d (iD 0)]])
 g2:L 7=true->s.heap.get 1=some (.arr 2 [[.d (iD c),.d (iD d)]])
 nx:2<=s.nx
 cl:L 7=true->L 0=true
 m:L 0=true->∃(nm:Nat) (l:List Q4),2<=nm/\lk s.env 26 = .map nm/\s.heap.get nm=some (.map (l.map QV))/\l.Perm (yy.map (·.2))
 v:∀ i,1<=i->i<=6->L i=true->lk s.env (26+i)=vl a b c d i
theorem tF{L:Nat->Bool}{s:St}{i:Nat}{v:AV}(h:S7 a b c d L s)(h1:1<=i)(h6:i<=6)(hv:vl a b c d i=v):S7 a b c d (fun j=>if j=i then true else L j) (s.put (some (26+i)) v):=by
 subst hv;have ne:∀ m,m≠26+i->lk (s.put (some (26+i)) (vl a b c d i)).env m=lk s.env m:=fun m hm=>dq hm;refine⟨by rw[ne 1 qad];exact h.e1,by rw[ne 2 qad];exact h.e2,h.g0,fun hl=>h.g1 ?_,fun hl=>h.g2 ?_,h.nx,fun hl=>?_,fun hl=>?_,fun j j1 j6 hl=>?_⟩
 ·exact qf3
 ·exact qf3
 ·have:=h.cl qf3;simp[this]
 ·obtain⟨nm,l,q1,q2,q3,q4⟩:=h.m (by simpa[show ¬ 0=i by omega] using hl);exact⟨nm,l,q1,by rw[ne 26 qad];exact q2,q3,q4⟩
 ·by_cases e:j=i
  ·subst e;exact ba _ _ _
  ·rw[ne (26+j) qad];simp only[if_neg e]at hl;exact h.v j j1 j6 hl
theorem VM:Kb Pr 265 2 3 false 1 8 (iD 0):=⟨(pok.tab.get (t:=265) (ty:=⟨true,2,16,.agg [iD 0,iD 0],.arr 2 3⟩) rfl).2,(pok.tab.get (t:=3) (ty:=⟨false,1,8,iD 0,.int .i64⟩) rfl).tok⟩
theorem tk3:TOk Pr 3 false 1 8 (iD 0):=(pok.tab.get (t:=3) (ty:=⟨false,1,8,iD 0,.int .i64⟩) rfl).tok
theorem ek263:EOk Pr 263 2 16 (.agg [iD 0,iD 0]):=(pok.tab.get (t:=263) (ty:=⟨true,2,16,.agg [iD 0,iD 0],.st [(0,1,false),(1,1,false)]⟩) rfl).1
theorem TZ{L:Nat->Bool}{s:St}{o:Oper}(h:S7 a b c d L s)(hL:L 7=false)(hLs:∀ j,j≠0->L j=L j)(ho:o.op = .call { callee:=.value (.func 257),args:=#[],argTypes:=#[] })(hd:o.dst=some 26)(hn:26<n) :
  nF r Pr G n b0 o s ms fun s'=>S7 a b c d (fun j=>if j=0 then true else L j) s':=by
 have hf:jw Pr 257:=⟨Tryz.f257,Tryz.func257,rfl,rfl⟩
 refine lK (f:=257) (fi:=[]) (ca:=[]) (l:=[]) ho rfl hf rfl (by rw[hd];simpa[eO] using hn) ?_;have:=fc (P:=Pr) (G:=G) (f:=257) (ds:=[]) (H:=s.heap) (nx:=s.nx) Uh (K:=fun v H' nx'=>∃(N:AHeap) (l:List Q4),v = .map s.nx/\H'=N.shift s.nx++s.heap/\nx'=s.nx+1/\N.get 0=some (.map (l.map QV))/\l.Perm (yy.map (·.2))) (by
  rintro v N k ⟨rfl,rfl,l,q1,q2⟩;exact⟨N,l,by simp[AV.ren],rfl,rfl,q1,q2⟩)
 refine cu this ?_;rintro v H' nx' ⟨N,l,rfl,rfl,rfl,q1,q2⟩;rw[hd];have hnx:=h.nx;have old:∀ m,m<s.nx->AHeap.get (N.shift s.nx++s.heap) m=s.heap.get m:=fun m hm=>by
  rw[pi,if_neg (fun q=>by omega)]
 refine⟨?_,?_,?_,fun hl=>?_,fun hl=>?_,by show 2<=s.nx+1;omega,fun _=>aR,fun _=>⟨s.nx,l,hnx,ba _ _ _,?_,q2⟩,fun j j1 j6 hl=>?_⟩
 ·exact(aV _ _ qaj).trans h.e1
 ·exact(aV _ _ qaj).trans h.e2
 ·exact(old 0 qad).trans h.g0
 ·exact(old 1 qad).trans (h.g1 hL)
 ·simp[hL]at hl
 ·show AHeap.get (N.shift s.nx++s.heap) s.nx=_;rw[pi,if_pos ⟨cF _,by rw[Wc];exact uH q1⟩,Wc,q1];rfl
 ·have:j≠0:=by omega
  simp only[if_neg this]at hl;exact(aV _ _ qad).trans (h.v j j1 j6 hl)
theorem KT{L:Nat->Bool}{s:St}{o:Oper}(h:S7 a b c d L s)(h0:L 0=true)(h5:L 5=true)(ho:o.op = .lookup 296 (.tmp 26) (.tmp 31) false)(hm:(a,b,c,d)∈yy.map (·.2)):PureOp G Pr s o (.d (DX c d)):=by
 obtain⟨nm,l,q1,q2,q3,q4⟩:=h.m h0;have hu:∀ q,q∈yy.map (·.2)->AJ q=AJ (a,b,c,d)->q=(a,b,c,d):=by
  have key:∀ q,q∈yy.map (·.2)->∀ q',q'∈yy.map (·.2)->AJ q=AJ q'->q=q':=qaj;exact fun q hq=>key q hq _ hm
 obtain⟨j,j1,j2⟩:=Dn (a:=a) (b:=b) (c:=c) (d:=d) l 0 (q4.symm.subset hm) (fun q hq=>hu q (q4.subset hq));have hT:=(pok.tab.get (t:=263) (ty:=⟨true,2,16,.agg [iD 0,iD 0],.st [(0,1,false),(1,1,false)]⟩) rfl).1;exact oh (G:=G) (st:=s) (S:=2) (cok:=false) (bo:=true) (d:=DX a b) (es:=l.map QV) ho Qp Dq hT q2 q3 (h.v 5 qaj qaj h5) rfl rfl (zh l) (Dr l) (.inl ⟨j,DX a b,by simpa using j1,by simp[j2,QV],rfl⟩)
theorem PL{L:Nat->Bool}{s:St}{o:Oper}(h:S7 a b c d L s)(h6:L 6=true)(h0:L 0=true)(h7:L 7=false)(ho:o.op = .store 263 (.tmp 2) (.tmp 32))(hd:o.dst=none):nF r Pr G n b0 o s ms fun s'=>S7 a b c d (fun j=>if j=7 then true else L j) s':=by
 have hst:=mU (G:=G) (P:=Pr) (st:=s) (v:=.d (DX c d)) ho ek263 h.e2 (h.v 6 qaj qaj h6) (h.g1 h7) rfl rfl rfl rfl qaj;refine gm (k:=0) (fun c hc=>by rw[ho]at hc;cases hc) (hst.names fun _ h=>h.elim) (by rw[hd];rfl) ?_;rw[hd];refine⟨h.e1,h.e2,?_,fun hl=>?_,fun _=>?_,h.nx,fun _=>(by simpa using h0),fun hl=>?_,fun j j1 j6 hl=>?_⟩
 ·exact(ai _ _ qaj).trans h.g0
 ·simp at hl
 ·exact ao _ _ _
 ·obtain⟨nm,l,q1,q2,q3,q4⟩:=h.m yu;exact⟨nm,l,q1,q2,(ai _ _ qad).trans q3,q4⟩
 ·have:j≠7:=by omega
  simp only[if_neg this]at hl;exact h.v j j1 j6 hl
end Go.Tz
namespace Go.Tz
open Go Go.AL Go.Proofs
variable{G:Nat->Option (List D)}{a b c d:Int}
def K7(a b:Int)(e:Exit)(s:St):Prop:=e = .normal/\lk s.env 1 = .ptr 0 2 0 0/\lk s.env 2 = .ptr 1 2 0 0/\s.heap.get 0=some (.arr 2 [[.d (iD a),.d (iD b)]])/\s.heap.get 1=some (.arr 2 [[.d (iD 0),.d (iD 0)]])/\s.nx=2
theorem XM:aq Tryz.f211=true:=ar
theorem reg7{s:St}(hm:(a,b,c,d)∈yy.map (·.2))(hs:K7 a b .normal s){id:Nat}{ops:Array Oper}(hops:(match Tryz.f211.body with|some (.seq _ (.seq _ (.seq (.region _ ops true) _)))=>some ops|_=>none)=some ops) :
  kw none Pr G 33 0 (.region id ops true) s [] fun e s' m=>e = .normal/\m=[]/\lk s'.env 2 = .ptr 1 2 0 0/\s'.heap.get 1=some (.arr 2 [[.d (iD c),.d (iD d)]]):=by
 obtain⟨_,k1,k2,k3,k4,k5⟩:=hs;cases hops;refine vc pok.mixed (qX ar) (S7 a b c d) ?_ ?_ ?_
 ·exact⟨k1,k2,k3,fun _=>k4,fun h=>(by cases h),by omega,fun h=>(by cases h),fun h=>(by cases h),fun i _ _ h=>(by cases h)⟩
 ·intro L s i o hS hL ho hall;have hi:i<8:=(BU.1 ho).1;rcases (by omega:i=0\/i=1\/i=2\/i=3\/i=4\/i=5\/i=6\/i=7) with rfl|rfl|rfl|rfl|rfl|rfl|rfl|rfl
  ·have ho:=ku (show some _=some o from ho);subst ho;refine⟨rfl,?_⟩;cases h7:L 7 with
   | false=>exact TZ hS h7 (fun _ _=>rfl) rfl rfl qaj
   | true=>have:=hS.cl h7;rw[hL]at this;cases this
  ·have ho:=ku (show some _=some o from ho);subst ho;exact⟨rfl,aL (fun c h=>by cases h) (fX (ki:=.i64) (i:=0) rfl VM hS.e1 rfl qaj qaj) rfl (tF hS (i:=1) qaj qaj rfl)⟩
  ·have ho:=ku (show some _=some o from ho);subst ho;have h1:=hall ⟨1,.data⟩ aR rfl;exact⟨rfl,aL (fun c h=>by cases h) (iz rfl tk3 (fun _=>rfl) (hS.v 1 qaj qaj h1) hS.g0 rfl rfl rfl) rfl (tF hS (i:=2) qaj qaj rfl)⟩
  ·have ho:=ku (show some _=some o from ho);subst ho;exact⟨rfl,aL (fun c h=>by cases h) (fX (ki:=.i64) (i:=1) rfl VM hS.e1 rfl qaj qaj) rfl (tF hS (i:=3) qaj qaj rfl)⟩
  ·have ho:=ku (show some _=some o from ho);subst ho;have h1:=hall ⟨3,.data⟩ aR rfl;exact⟨rfl,aL (fun c h=>by cases h) (iz rfl tk3 (fun _=>rfl) (hS.v 3 qaj qaj h1) hS.g0 rfl rfl rfl) rfl (tF hS (i:=4) qaj qaj rfl)⟩
  ·have ho:=ku (show some _=some o from ho);subst ho;have h1:=hall ⟨2,.data⟩ aR rfl;have h2:=hall ⟨4,.data⟩ aR rfl;refine⟨rfl,aL (fun c h=>by cases h) (qn (l:=[.d (iD a),.d (iD b)]) rfl xM ?_) rfl (tF hS (i:=5) qaj qaj rfl)⟩;have e1:=hS.v 2 qaj qaj h1;have e2:=hS.v 4 qaj qaj h2;show pI [(0,1),(1,1)] [.d (iD 0),.d (iD 0)] [(0,lk s.env (26+2)),(1,lk s.env (26+4))]=_;rw[e1,e2];rfl
  ·have ho:=ku (show some _=some o from ho);subst ho;have h0:=hall ⟨0,.data⟩ aR rfl;have h5:=hall ⟨5,.data⟩ aR rfl;exact⟨rfl,aL (fun c h=>by cases h) (KT hS h0 h5 rfl hm) rfl (tF hS (i:=6) qaj qaj rfl)⟩
  ·have ho:=ku (show some _=some o from ho);subst ho;have h6:=hall ⟨6,.data⟩ aR rfl;have h0:=hall ⟨0,.chain⟩ aR rfl;exact⟨rfl,PL hS h6 h0 hL rfl rfl⟩
 ·intro L s hS hall;exact⟨rfl,rfl,hS.e2,hS.g2 (hall 7 qaj)⟩
theorem D5:TOk Pr 263 true 2 16 (.agg [iD 0,iD 0]):=(pok.tab.get (t:=263) (ty:=⟨true,2,16,.agg [iD 0,iD 0],.st [(0,1,false),(1,1,false)]⟩) rfl).tok
theorem prod7(hm:(a,b,c,d)∈yy.map (·.2))(hpre:∀ c1 c2 rest,Tryz.f211.body=some (.seq c1 (.seq c2 rest))->kw none Pr G 33 0 c1 ⟨[(0,.d (.agg [iD a,iD b]))],[],0⟩ [] (Jk (fun s m=>kw none Pr G 33 0 c2 s m fun e s' m'=>m'=[]/\K7 a b e s') fun _ _ _=>False)) :
  PC Pr G 211 [.agg [iD a,iD b]] (.agg [iD c,iD d]):=by
 refine OX ⟨Tryz.f211,Tryz.func211,rfl,rfl⟩ (vJ Tryz.func211 rfl (show 1<=33 by decide) (jx (bd (hpre _ _ _ rfl) ?_)));intro e s m h;cases e with
 | normal =>
  refine jx (bd h ?_);rintro e s m ⟨rfl,h⟩;have he:=h.1;subst he;refine jx (bd (reg7 hm h rfl) ?_);rintro e s m ⟨rfl,rfl,h2,h3⟩;refine qN ⟨.inr rfl,rfl,.d (.agg [iD c,iD d]),?_,rfl⟩;have:=P6.cell (P:=Pr) (G:=G) (st:=s) 2 263 2 16 true _ _ 2 0 0 _ _ [.d (iD c),.d (iD d)] D5 (fun h=>by cases h) h2 h3 rfl rfl rfl;exact Q2.one _ _ this
 | _=>exact h.elim
def LB(a b:Int):Int×Int:=if a=b then(0,0) else if a=0 then(b,0) else if b=0 then(a,0) else if b=a%3+1 then(6-a-b,1) else(6-a-b,3)
theorem BW(hd:a=b\/a=0\/b=0):PC Pr G 211 [.agg [iD a,iD b]] (.agg [iD (LB a b).1,iD (LB a b).2]):=by
 refine ae pok Tryz.func211 XM ?_;conv=>whnf
 repeat' first|((first|refine O6.mk _ rfl ?_|refine O8.mk _ aK ?_|refine aJ B2 ?_|refine HpP.force ?_);conv=>whnf)|(intro t ht;cases t<;>conv=>whnf)
 all_goals first
  | (refine fin ?_;simp_all[LB,fU,ml];done)
  | (exfalso;simp_all;done)
  | (refine fin ?_;simp_all[LB,fU,ml];split<;>simp_all)
theorem ZW(hm:(a,b,c,d)∈yy.map (·.2))(h1:a≠b)(h2:a≠0)(h3:b≠0):PC Pr G 211 [.agg [iD a,iD b]] (.agg [iD c,iD d]):=by
 refine prod7 hm fun c1 c2 rest he=>?_;cases he;refine bd (bJ (hd:=fun p:np.W=>p) (T:=tab) (Wj pok) mz _ _ (fun e s=>Fin (e = .normal/\s=⟨[(2,.ptr 1 2 0 0),(1,.ptr 0 2 0 0),(0,.d (.agg [iD a,iD b]))],[(1,some (.arr 2 [[.d (iD 0),.d (iD 0)]])),(0,some (.arr 2 [[.d (iD a),.d (iD b)]]))],2⟩)) ar ?_) ?_
 ·conv=>whnf
  repeat' first|((first|refine O6.mk _ rfl ?_|refine O8.mk _ aK ?_|refine aJ B2 ?_|refine HpP.force ?_);conv=>whnf)|(intro t ht;cases t<;>conv=>whnf)
  all_goals exact⟨rfl,rfl⟩
 ·rintro e s m ⟨rfl,⟨rfl,rfl⟩⟩;refine bd (bJ (hd:=fun p:np.W=>p) (T:=tab) (Wj pok) mz _ _ (fun e s=>Fin (K7 a b e s)) ar ?_) fun _ _ _ h=>⟨h.1,Qq h.2⟩
  conv=>whnf
  repeat' first|((first|refine O6.mk _ rfl ?_|refine O8.mk _ aK ?_|refine aJ B2 ?_|refine HpP.force ?_);conv=>whnf)|(intro t ht;cases t<;>conv=>whnf)
  all_goals first
   | exact fin ⟨rfl,rfl,rfl,rfl,rfl,rfl⟩
   | (exfalso;simp_all;done)
theorem zo(ha:0<=a/\a<=3)(hb:0<=b/\b<=3):PC Pr G 211 [.agg [iD a,iD b]] (.agg [iD (LB a b).1,iD (LB a b).2]):=by
 by_cases h1:a=b
 ·exact BW (.inl h1)
 by_cases h2:a=0
 ·exact BW (.inr (.inl h2))
 by_cases h3:b=0
 ·exact BW (.inr (.inr h3))
 have e1:a=1\/a=2\/a=3:=qad;have e2:b=1\/b=2\/b=3:=qad;rcases e1 with rfl|rfl|rfl<;>rcases e2 with rfl|rfl|rfl<;>first|exact absurd rfl h1|exact ZW qaj qaj qaj qaj
end Go.Tz
namespace Go.Tz
open Go Go.AL Go.Proofs
def Pf(ds:List D):Option D:=match ds with
 | [.agg [.int .i64 a,.int .i64 b]]=>match decide (0<=a/\a<=3/\0<=b/\b<=3) with
  | true=>some (.agg [iD (LB a b).1,iD (LB a b).2])
  | false=>none
 | _=>none
theorem Pg{G:Nat->Option (List D)}{ds:List D}{d:D}(h:Pf ds=some d):PC Pr G 211 ds d:=by
 unfold Pf at h;split at h
 ·split at h
  ·rename_i hd;cases h;simp only[decide_eq_true_eq]at hd;exact zo ⟨hd.1,hd.2.1⟩ hd.2.2
  ·cases h
 ·cases h
def OV:Ov:=fun f ds=>match Nat.beq f 211 with
 | true=>Pf ds
 | false=>none
theorem ov_ok{G:Nat->Option (List D)}:OvOk Pr G OV:=OY fun f ds d h=>by
 unfold OV at h;split at h
 ·rename_i e;have:=waf e;subst this;exact Pg h
 ·cases h
noncomputable def rn(f:FuncId)(ds:List D):Option D:=C7 FF tab GG OV 400 f ds
theorem kL{f:FuncId}{ds:List D}{d:D}(h:rn f ds=some d):PC Pr GG f ds d:=OZ Nz ov_ok pok h
abbrev Ph(w x z p:Int):List D:=[iD w,iD x,iD z,iD p]
abbrev QR(k:Int)(ws:List Int):List D:=[iD k,.sl (ws.map fun w=>[iD w]) true,iD 0,iD 0]
end Go.Tz
namespace Go.Tz
open Go Go.AL Go.Proofs
abbrev jS:D:=.agg [iD 2,.sl [Ph 2 3 0 0,Ph 2 0 3 0] true]
abbrev yD:D:=.agg [iD 1,.sl [Ph 1 1 1 0] true]
abbrev JZ:D:=.agg [iD 2,.sl [Ph 2 0 1 0,Ph 2 0 2 0] false]
abbrev Lz(a b c d k:Int):List D:=[iD a,iD b,iD c,iD d,iD k]
theorem K6:PC Pr GG 49 [.agg [iD 2,iD 0,.sl [QR 4 [0],QR 9 [0,1]] true]] (.tup [jS,iD 0]):=kL ar
theorem Wu:PC Pr GG 49 [.agg [iD 1,iD 0,.sl [QR 4 [0],QR 5 [0]] true]] (.tup [yD,iD 0]):=kL ar
theorem Wv:PC Pr GG 20 [jS] (.tup [.sl [Lz 1 0 0 0 1,Lz 0 0 0 0 0,Lz 0 0 0 0 0,Lz 1 0 0 0 1] false,iD 0]):=kL ar
theorem Rp:PC Pr GG 56 [jS,iD 0,iD 1] (.tup [.agg [iD 2,.sl [Ph 2 0 1 2,Ph 2 0 2 2] true],iD 1,iD 0]):=kL ar
theorem Wt:PC Pr GG 48 [jS,.agg (Ph 2 3 3 2)] (.tup [iD 1,iD 0]):=kL ar
theorem Rq:PC Pr GG 35 [iD 2] (.tup [JZ,iD 0]):=kL ar
theorem K8:PC Pr GG 33 [JZ,jS] (.tup [iD 1,iD 0]):=kL ar
theorem Ws:PC Pr GG 34 [jS,.sl [[iD 0]] true] (.tup [iD 1,iD 0]):=kL ar
theorem Wr:PC Pr GG 21 [yD,iD 1] (.tup [.agg (Lz 0 0 1 0 1),iD 0]):=kL ar
end Go.Tz
namespace Go.Tz
open Go Go.AL Go.Proofs
def kB:IntKind->IntKind->Bool
 | .i64,.i64=>true
 | _,_=>false
theorem kB_eq{a b:IntKind}(h:kB a b=true):a=b:=by
 cases a<;>cases b<;>first|rfl|cases h
mutual
def dB:D->D->Bool
 | .bool a,.bool b=>a==b
 | .int k a,.int l b=>kB k l&&(a==b)
 | .agg l,.agg m=>Vf l m
 | .tup l,.tup m=>Vf l m
 | .sl l t,.sl m u=>Nb l m&&(t==u)
 | _,_=>false
termination_by structural x=>x
def Vf:List D->List D->Bool
 | [],[]=>true
 | a::l,b::m=>dB a b&&Vf l m
 | _,_=>false
termination_by structural x=>x
def Nb:List (List D)->List (List D)->Bool
 | [],[]=>true
 | a::l,b::m=>Vf a b&&Nb l m
 | _,_=>false
termination_by structural x=>x
end
mutual
theorem Na:∀(a b:D),dB a b=true->a=b
 | .bool a,b,h=>by cases b<;>simp_all[dB]
 | .int k a,b,h=>by
  cases b<;>simp[dB]at h;rw[kB_eq h.1,h.2]
 | .agg l,b,h=>by
  cases b<;>simp[dB]at h;rw[wk l _ h]
 | .tup l,b,h=>by
  cases b<;>simp[dB]at h;rw[wk l _ h]
 | .sl l t,b,h=>by
  cases b<;>simp[dB]at h;rw[Ir l _ h.1,h.2]
 | .str _,b,h=>by cases b<;>simp[dB]at h
 | .nilp,b,h=>by cases b<;>simp[dB]at h
 | .nilf,b,h=>by cases b<;>simp[dB]at h
 | .nilm,b,h=>by cases b<;>simp[dB]at h
 | .opq _,b,h=>by cases b<;>simp[dB]at h
 | .any,b,h=>by cases b<;>simp[dB]at h
 | .rop _ _,b,h=>by cases b<;>simp[dB]at h
 | .fn _ _ _,b,h=>by cases b<;>simp[dB]at h
theorem wk:∀(a b:List D),Vf a b=true->a=b
 | [],b,h=>by cases b<;>simp_all[Vf]
 | x::l,b,h=>by
  cases b<;>simp[Vf]at h;rw[Na x _ h.1,wk l _ h.2]
theorem Ir:∀(a b:List (List D)),Nb a b=true->a=b
 | [],b,h=>by cases b<;>simp_all[Nb]
 | x::l,b,h=>by
  cases b<;>simp[Nb]at h;rw[wk x _ h.1,Ir l _ h.2]
end
abbrev Tb:=List (Nat×List D×D)
def tbO:Tb->FuncId->List D->Option D
 | [],_,_=>none
 | (g,es,d)::r,f,ds=>match Nat.beq g f&&Vf es ds with
  | true=>some d
  | false=>tbO r f ds
theorem Qc{G:Nat->Option (List D)}:∀{t:Tb},AllP (fun p:Nat×List D×D=>PC Pr G p.1 p.2.1 p.2.2) t->∀ f ds d,tbO t f ds=some d->PC Pr G f ds d
 | [],_,f,ds,d,h=>by cases h
 | (g,es,e)::r,ha,f,ds,d,h=>by
  unfold tbO at h;split at h
  ·rename_i hb;simp only[li]at hb;have h1:=waf hb.1;have h2:=wk _ _ hb.2;cases h;subst h1 h2;exact ha.1
  ·exact Qc ha.2 f ds d h
abbrev awT:Tb:=[(49,[.agg [iD 2,iD 0,.sl [QR 4 [0],QR 9 [0,1]] true]],.tup [jS,iD 0]),(49,[.agg [iD 1,iD 0,.sl [QR 4 [0],QR 5 [0]] true]],.tup [yD,iD 0]),
 (20,[jS],.tup [.sl [Lz 1 0 0 0 1,Lz 0 0 0 0 0,Lz 0 0 0 0 0,Lz 1 0 0 0 1] false,iD 0]),(56,[jS,iD 0,iD 1],.tup [.agg [iD 2,.sl [Ph 2 0 1 2,Ph 2 0 2 2] true],iD 1,iD 0]),
 (48,[jS,.agg (Ph 2 3 3 2)],.tup [iD 1,iD 0]),(35,[iD 2],.tup [JZ,iD 0]),(33,[JZ,jS],.tup [iD 1,iD 0]),(34,[jS,.sl [[iD 0]] true],.tup [iD 1,iD 0]),(21,[yD,iD 1],.tup [.agg (Lz 0 0 1 0 1),iD 0])]
theorem Wq:AllP (fun p:Nat×List D×D=>PC Pr GG p.1 p.2.1 p.2.2) awT:=⟨K6,Wu,Wv,Rp,Wt,Rq,K8,Ws,Wr,trivial⟩
def OV2:Ov:=tbO awT
theorem ZL:OvOk Pr GG OV2:=OY (Qc Wq)
end Go.Tz
namespace Go.Tz
open Go Go.AL Go.Proofs
theorem av:PC Pr GG 15 [] (.bool true):=OZ (T:=tab) (q:=400) Nz ZL pok ar
end Go.Tz
namespace Go.Tz
open Go Go.AL Go.Proofs
variable{G:Nat->Option (List D)}
def gY(x n:Int):Int:=dI .i64 (iX .i64 x n) 1
def bj(x z n:Int):Int:=if gY x n=1/\gY z n=1 then 2 else if gY x n=1 then 1 else if gY z n=1 then 3 else 0
theorem WH:aq Tryz.f103=true:=ar
theorem jb(w x z p n:Int)(hn:0<=n):PC Pr G 103 [.agg [iD w,iD x,iD z,iD p],iD n] (iD (bj x z n)):=by
 refine ae pok Tryz.func103 WH ?_;conv=>whnf
 repeat' first|((first|refine O6.mk _ rfl ?_|refine O8.mk _ aK ?_|refine aJ LH ?_|refine HpP.force ?_);conv=>whnf)|(intro t ht;cases t<;>conv=>whnf)
 all_goals refine fin ?_
 all_goals simp_all[bj,gY]
theorem Xu:aq Tryz.f189=true:=ar
def xP(a b:Int):Int×Int:=if a=0 then(0,b) else if b=0 then(0,a) else if a=b then(0,0) else if b=aD .i64 (a.tmod 3) 1 then(1,cO .i64 (cO .i64 6 a) b) else(3,cO .i64 (cO .i64 6 a) b)
theorem Qn(a b:Int):PC Pr G 189 [iD a,iD b] (.tup [iD (xP a b).1,iD (xP a b).2]):=by
 refine ae pok Tryz.func189 Xu ?_;conv=>whnf
 repeat' first|((first|refine O6.mk _ rfl ?_|refine O8.mk _ aK ?_|refine aJ B2 ?_|refine HpP.force ?_);conv=>whnf)|(intro t ht;cases t<;>conv=>whnf)
 all_goals refine fin ?_
 all_goals simp_all[xP]
theorem WG:aq Tryz.f102=true:=ar
def ik(x z n l:Int):Int×Int :=
 let x1:=if bj x z n=1\/bj x z n=2 then cO .i64 x (cU .i64 1 n) else x
 let z1:=if gY z n=1 then cO .i64 z (cU .i64 1 n) else z
 (if l=1\/l=2 then aD .i64 x1 (cU .i64 1 n) else x1,if l=2\/l=3 then aD .i64 z1 (cU .i64 1 n) else z1)
theorem Hz(w x z p n l:Int)(hn:0<=n):PC Pr G 102 [.agg [iD w,iD x,iD z,iD p],iD n,iD l] (.agg [iD w,iD (ik x z n l).1,iD (ik x z n l).2,iD p]):=by
 refine ae pok Tryz.func102 WG ?_;conv=>whnf
 repeat' first|((first|refine O6.mk _ rfl ?_|refine O8.mk _ aK ?_|refine aJ B2 ?_|refine aa (jb _ _ _ _ _ hn) ?_|refine ab (jb _ _ _ _ _ hn) ?_|refine HpP.force ?_);conv=>whnf)|(intro t ht;cases t<;>conv=>whnf)
 all_goals refine fin ?_
 all_goals simp_all[ik,gY]
end Go.Tz
namespace Go.Tz
open Go Go.AL Go.Proofs
variable{G:Nat->Option (List D)}
theorem rj{a b:Int}(h0:-9223372036854775808<=a+b)(h1:a+b<9223372036854775808):aD .i64 a b=a+b:=by
 unfold aD;rw[IntKind.wrap_i64];omega
theorem WF:aq Tryz.f101=true:=ar
def nW(x z x' z' n0:Int):Nat->Int×Int×Int
 | 0=>(0,0,n0)
 | k+1=>((ik (nW x z x' z' n0 k).1 (nW x z x' z' n0 k).2.1 k (xP (bj x z k) (bj x' z' k)).2).1,(ik (nW x z x' z' n0 k).1 (nW x z x' z' n0 k).2.1 k (xP (bj x z k) (bj x' z' k)).2).2,
   aD .i64 (nW x z x' z' n0 k).2.2 (xP (bj x z k) (bj x' z' k)).1)
def mulR(w x z p x' z' p':Int):List D:=[iD w,iD (nW x z x' z' (aD .i64 p p') w.toNat).1,iD (nW x z x' z' (aD .i64 p p') w.toNat).2.1,iD ((nW x z x' z' (aD .i64 p p') w.toNat).2.2.tmod 4)]
theorem mul_c(w x z p x' z' p':Int)(hw:1<=w/\w<=24):PC Pr G 101 [.agg [iD w,iD x,iD z,iD p],.agg [iD w,iD x',iD z',iD p']] (.agg (mulR w x z p x' z' p')):=by
 refine ae pok Tryz.func101 WF ?_;conv=>whnf
 repeat' first|((first|refine O6.mk _ rfl ?_|refine O8.mk _ aK ?_|refine aJ B2 ?_|refine HpP.force ?_);conv=>whnf)|(intro t ht;cases t<;>conv=>whnf)
 refine gJ pok (σ:={ k:Nat // (k:Int)<=w }) (fun s=>⟨[(2,.ptr 0 4 0 0),(3,.ptr 1 4 0 0),(4,.ptr 2 4 0 0),(5,.ptr 3 4 0 0),(6,.d (iD (nW x z x' z' (aD .i64 p p') s.1).2.2)),(7,.d (iD s.1))],
  [(0,some (.arr 4 [[.d (iD w),.d (iD x),.d (iD z),.d (iD p)]])),(1,some (.arr 4 [[.d (iD w),.d (iD x'),.d (iD z'),.d (iD p')]])),(2,some (.arr 4 [[.d (iD 0),.d (iD 0),.d (iD 0),.d (iD 0)]])),
  (3,some (.arr 4 [[.d (iD w),.d (iD (nW x z x' z' (aD .i64 p p') s.1).1),.d (iD (nW x z x' z' (aD .i64 p p') s.1).2.1),.d (iD 0)]]))],4⟩) (fun s=>w.toNat-s.1) ⟨0,by omega⟩ ?_ ?_ ?_
 ·exact ah (dW _) ⟨⟨rfl,rfl⟩,⟨rfl,rfl⟩,⟨rfl,rfl⟩,⟨rfl,rfl⟩,⟨rfl,rfl⟩,⟨rfl,rfl⟩,trivial⟩ ⟨⟨di rfl,_,rfl,rfl,ay rfl⟩,⟨di rfl,_,rfl,rfl,ay rfl⟩,⟨di rfl,_,rfl,rfl,ay rfl⟩,⟨di rfl,_,rfl,rfl,ay rfl⟩,trivial⟩ trivial
 ·exact ar
 ·rintro⟨k,hk⟩;conv=>whnf
  repeat' first|((first|refine O6.mk _ rfl ?_|refine O8.mk _ aK ?_|refine aJ B2 ?_|refine aa (jb _ _ _ _ _ qad) ?_|refine ab (jb _ _ _ _ _ qad) ?_|refine aa (Qn _ _) ?_|refine ab (Qn _ _) ?_|refine aa (Hz _ _ _ _ _ _ qad) ?_|refine ab (Hz _ _ _ _ _ _ qad) ?_|refine HpP.force ?_);conv=>whnf)|(intro t ht;cases t<;>conv=>whnf)
  ·refine fin ?_;simp only[decide_eq_false_iff_not]at ht;have:k=w.toNat:=qad;subst this;rfl
  ·simp only[decide_eq_true_eq]at ht;have e:aD .i64 (k:Int) 1=((k+1:Nat):Int):=GI;exact .mk ⟨k+1,by omega⟩ (ah (dW _) ⟨⟨rfl,rfl⟩,⟨rfl,rfl⟩,⟨rfl,rfl⟩,⟨rfl,rfl⟩,⟨rfl,rfl⟩,⟨congrArg (fun n=>AV.d (iD n)) e,rfl⟩,trivial⟩ ⟨⟨di rfl,_,rfl,rfl,ay rfl⟩,⟨di rfl,_,rfl,rfl,ay rfl⟩,⟨di rfl,_,rfl,rfl,ay rfl⟩,⟨di rfl,_,rfl,rfl,ay rfl⟩,trivial⟩ trivial) H8
end Go.Tz
namespace Go.Tz
open Go Go.AL Go.Proofs
variable{G:Nat->Option (List D)}
theorem MW:aq Tryz.f87=true:=ar
theorem Ii(es:List (List D))(tg:Bool)(hes:∀ el,el∈es->el.length=4)(hsc:((es.map (·.map AV.d)).all fun el=>el.all AV.scalar)=true)(hbig:es.length<=1000000) :
  bq Pr G 87 [.d (.sl es tg)] [] 0 fun v N k=>(v = .d (.sl [] true)/\es=[])\/(v = .sl 1 4 0 (0+es.length) (0+es.length) false/\N.get 1=some (.arr 4 (es.map (·.map .d)))/\k=2):=by
 refine bi pok Tryz.func87 MW ?_;conv=>whnf
 repeat' first|((first|refine O6.mk _ rfl ?_|refine O8.mk _ aK ?_|refine aJ (by first|assumption|decide|omega) ?_|rw[hsc]|(refine aJ ⟨rfl,by decide,by simp only[ef,jj];omega⟩ ?_)|refine HpP.force ?_);conv=>whnf)|(intro t ht;cases t<;>conv=>whnf)
 ·refine fin (.inr ⟨by simp,?_,rfl⟩);simp[nR,AHeap.get]
 ·exact qjx
end Go.Tz
namespace Go.Tz
open Go Go.AL Go.Proofs
variable{G:Nat->Option (List D)}
structure Ps where
 (w x z p:Int)
 deriving DecidableEq
def Ps.l(q:Ps):List D:=[iD q.w,iD q.x,iD q.z,iD q.p]
abbrev Ps.d(q:Ps):D:=.agg q.l
abbrev az(l:List Ps)(t:Bool):D:=.sl (l.map Ps.l) t
abbrev cf(w:Int)(l:List Ps)(t:Bool):D:=.agg [iD w,az l t]
def cV(n lo hi:Int):Bool:=decide (n<lo)||decide (n>hi)
theorem N4:aq Tryz.f88=true:=ar
theorem OE(n lo hi:Int):PC Pr G 88 [iD n,iD lo,iD hi] (.bool (cV n lo hi)):=by
 refine ae pok Tryz.func88 N4 ?_;conv=>whnf
 repeat' first|(intro t ht;cases t<;>conv=>whnf)
 all_goals refine fin ?_
 all_goals simp_all[cV]
theorem WV:aq Tryz.f121=true:=ar
theorem OD(n lo hi:Int):PC Pr G 121 [iD n,iD lo,iD hi] (.bool (cV n lo hi)):=by
 refine ae pok Tryz.func121 WV ?_;conv=>whnf
 repeat' first|(intro t ht;cases t<;>conv=>whnf)
 all_goals refine fin ?_
 all_goals simp_all[cV]
def ie(q:Ps):Int:=if cV q.w 1 12 then 3 else if cV q.x 0 (cO .i64 (cU .i64 1 q.w) 1)||cV q.z 0 (cO .i64 (cU .i64 1 q.w) 1) then 1 else if cV q.p 0 3 then 3 else 0
theorem M5:aq Tryz.f43=true:=ar
theorem Ic(q:Ps):PC Pr G 43 [q.d] (iD (ie q)):=by
 refine ae pok Tryz.func43 M5 ?_;conv=>whnf
 repeat' first|((first|refine O6.mk _ rfl ?_|refine aJ (by first|assumption|(simp_all[cV];omega)) ?_|fail);conv=>whnf)|(refine cc (OD _ _ _) ?_)|(refine od (OD _ _ _) ?_)|(refine HpP.force ?_;conv=>whnf)|(intro t ht;cases t<;>conv=>whnf)
 all_goals refine fin ?_
 all_goals simp_all[ie]
end Go.Tz
namespace Go.Tz
open Go Go.AL Go.Proofs
variable{G:Nat->Option (List D)}
theorem IZ{c d:Int}(h0:0<=c)(h1:c<1000000)(hd:1<=d)(hd2:d<1000000): AF .i64 c d=c / d:=by
 unfold AF;rw[Int.tdiv_eq_ediv_of_nonneg h0,IntKind.wrap_i64];have h2:0<=c / d:=Int.ediv_nonneg h0 qad;have h3:c / d<=c:=Int.ediv_le_self d h0;omega
theorem AH{a b:Int}(h0:-9223372036854775808<=a-b)(h1:a-b<9223372036854775808):cO .i64 a b=a-b:=by
 unfold cO;rw[IntKind.wrap_i64];omega
theorem IX{a b:Int}(h0:-9223372036854775808<=a*b)(h1:a*b<9223372036854775808):fH .i64 a b=a*b:=by
 unfold fH;rw[IntKind.wrap_i64];omega
def da(q:Ps)(c:Int):Bool:=decide (gY (if c%2=0 then q.x else q.z) (c / 2)=1)
theorem Xt:aq Tryz.f188=true:=ar
theorem zT(q:Ps)(c:Int)(h0:0<=c)(h1:c<1000):PC Pr G 188 [q.d,iD c] (.bool (da q c)):=by
 have e1:AF .i64 c 2=c / 2:=IZ h0 qad qaj qaj;have e2:c.tmod 2=c%2:=VW h0;refine ae pok Tryz.func188 Xt ?_;conv=>whnf
 repeat' first|((first|refine O6.mk _ rfl ?_|refine aJ (by first|assumption|decide|(show 0<=AF .i64 c 2;rw[e1];omega)) ?_|fail);conv=>whnf)|(intro t ht;cases t<;>conv=>whnf)
 all_goals refine fin ?_
 all_goals simp_all[da,gY]
def lG(q:Ps):Nat->Nat->Int
 | 0,_=>-1
 | f+1,k=>if da q k=true then k else lG q f (k+1)
def cX(q:Ps):Int:=lG q (2*q.w.toNat) 0
theorem Xv:aq Tryz.f190=true:=ar
theorem Jd(q:Ps)(hw:1<=q.w/\q.w<=24):PC Pr G 190 [q.d] (iD (cX q)):=by
 refine ae pok Tryz.func190 Xv ?_;conv=>whnf
 skip;refine gJ pok (σ:={ k:Nat // k<=2*q.w.toNat/\lG q (2*q.w.toNat-k) k=cX q }) (fun s=>⟨[(1,.ptr 0 4 0 0),(3,.d (iD s.1))],[(0,some (.arr 4 [[.d (iD q.w),.d (iD q.x),.d (iD q.z),.d (iD q.p)]]))],1⟩) (fun s=>2*q.w.toNat-s.1) ⟨0,by omega,rfl⟩ ?_ ?_ ?_
 ·exact qbx
 ·exact ar
 ·rintro⟨k,hk,hl⟩;have e2:fH .i64 2 q.w=2*q.w:=IX qad qad;have e1:aD .i64 (k:Int) 1=((k+1:Nat):Int):=GI;conv=>whnf
  repeat' first|(refine O6.mk _ rfl ?_;conv=>whnf)|(refine cc (zT q (k:Int) qad qad) ?_)|(intro t ht;cases t<;>conv=>whnf)
  ·refine fin ?_;rw[e2]at ht;simp only[decide_eq_false_iff_not]at ht;have:2*q.w.toNat-k=0:=qad;rw[this]at hl;rw[<- hl];rfl
  ·have hk2:k<2*q.w.toNat:=by simp_all;omega
   refine .mk ⟨k+1,by omega,?_⟩ (ah (dW _) ⟨⟨rfl,rfl⟩,⟨congrArg (fun n=>AV.d (iD n)) e1,rfl⟩,trivial⟩ ⟨⟨di rfl,_,rfl,rfl,ay rfl⟩,trivial⟩ trivial) H8;have:2*q.w.toNat-k=(2*q.w.toNat-(k+1))+1:=qad;rw[this]at hl;simp_all[lG]
  ·refine fin ?_;have hk2:k<2*q.w.toNat:=by simp_all;omega
   have:2*q.w.toNat-k=(2*q.w.toNat-(k+1))+1:=qad;rw[this]at hl;simp_all[lG]
end Go.Tz
namespace Go.Tz
open Go Go.AL Go.Proofs
variable{G:Nat->Option (List D)}
theorem gG{l:List Ps}{k:Nat}(h:k<l.length):(l.map Ps.l)[(k:Int).toNat]?=some (l[k]).l:=GJ
theorem xo(q r:Ps):([q.w,q.x,q.z,q.p]==[r.w,r.x,r.z,r.p])=decide (q=r):=by
 obtain⟨a,b,c,d⟩:=q;obtain⟨a',b',c',d'⟩:=r;rw[tV];simp
theorem ko(l:List Ps):∀ el,el∈l.map Ps.l->el.length=4:=by
 intro el h;obtain⟨q,_,rfl⟩:=bm.1 h;rfl
theorem rY(l:List Ps):(((l.map Ps.l).map (·.map AV.d)).all fun el=>el.all AV.scalar)=true:=by
 simp[Ps.l,AV.scalar,D.scalar]
theorem Ij(l:List Ps)(t:Bool)(hn:l.length<=1000000):PC Pr G 87 [az l t] (az l false):=by
 refine mG (bg Tryz.func87 MW) (cu (Ii _ t (ko l) (rY l) TM) ?_);rintro v N k (⟨rfl,he⟩|⟨rfl,hg,_⟩)
 ·exact⟨_,.d _,by rw[az,he];exact Vg [] true⟩
 ·have:=dt (lo:=0) (len:=0+(l.map Ps.l).length) (room:=0+(l.map Ps.l).length) (t:=false) hg qad;refine⟨_,this,?_⟩;simp only[LQ,jj,pS,Bool.false_and];exact DW.rfl _
theorem L0:aq Tryz.f16=true:=ar
theorem DN(w:Int)(l:List Ps)(t:Bool)(hn:l.length<=1000000):PC Pr G 16 [cf w l t] (cf w l false):=by
 refine ae pok Tryz.func16 L0 ?_;conv=>whnf
 repeat' first|((first|refine O6.mk _ rfl ?_|refine O8.mk _ aK ?_|refine ab (Ij l t hn) ?_|refine HpP.force ?_);conv=>whnf)
 exact fin rfl
theorem MD:aq Tryz.f18=true:=ar
theorem lW(w:Int)(l:List Ps)(t:Bool)(hn:l.length<=1000000):PC Pr G 18 [cf w l t] (cf w l false):=by
 refine ae pok Tryz.func18 MD ?_;conv=>whnf
 repeat' first|((first|refine O6.mk _ rfl ?_|refine O8.mk _ aK ?_|refine ab (Ij l t hn) ?_|refine HpP.force ?_);conv=>whnf)
 exact fin rfl
theorem N3:aq Tryz.f72=true:=ar
theorem aC{α:Type}{l:List α}{k:Nat}(h:k<l.length):l.take (k+1)=l.take k++[l[k]]:=by
 rw[List.take_add_one,ew h];rfl
theorem Iy(l m:List Ps)(t u:Bool)(hn:l.length<=1000000):PC Pr G 72 [az l t,az m u] (.bool (decide (l=m))):=by
 refine ae pok Tryz.func72 N3 ?_;conv=>whnf
 repeat' first|(intro t ht;cases t<;>conv=>whnf)
 ·refine gJ pok (σ:={ k:Nat // k<=l.length/\l.take k=m.take k }) (fun s=>⟨[(0,.d (az l t)),(1,.d (az m u)),(12,.d (iD (l.map Ps.l).length)),(13,.d (iD s.1))],[],0⟩) (fun s=>l.length-s.1) ⟨0,by omega,rfl⟩ ?_ ?_ ?_
  ·exact ah (dW _) ⟨⟨rfl,rfl⟩,⟨rfl,rfl⟩,⟨rfl,rfl⟩,⟨rfl,rfl⟩,trivial⟩ trivial trivial
  ·exact ar
  ·rintro⟨k,hk,hkm⟩;have hlen:l.length=m.length:=G7;have e1:aD .i64 (k:Int) 1=((k+1:Nat):Int):=GI;rcases wa1 k l.length with hlt|hge
   ·have hlt2:k<m.length:=by omega
    conv=>whnf
    repeat' first|((first|refine O6.mk _ qg6 ?_|refine aJ ci ?_|refine HpP.force ?_);conv=>whnf)|(intro t ht;cases t<;>conv=>whnf)
    ·exact lQ
    ·have hq:l[k]=m[k]:=by
      have:=xo l[k] m[k];simp_all
     refine .mk ⟨k+1,by omega,?_⟩ (ah (dW _) ⟨⟨rfl,rfl⟩,⟨rfl,rfl⟩,⟨rfl,rfl⟩,⟨congrArg (fun n=>AV.d (iD n)) e1,rfl⟩,trivial⟩ trivial trivial) H8;rw[aC hlt,aC hlt2,hkm,hq]
    ·have hq:l[k]≠m[k]:=by
      have:=xo l[k] m[k];simp_all
     refine fin ?_;rw[decide_eq_false (fun e=>hq (by subst e;rfl))]
   ·conv=>whnf
    repeat' first|((first|refine aJ ci ?_|fail);conv=>whnf)|(intro t ht;cases t<;>conv=>whnf)
    ·refine fin ?_;rw[pT hge,pT qad]at hkm;rw[decide_eq_true hkm]
    ·exact lQ
 ·refine fin ?_;rw[decide_eq_false];intro e;subst e;simp at ht
theorem L3:aq Tryz.f23=true:=ar
theorem xE(w w':Int)(l m:List Ps)(t u:Bool)(hn:l.length<=1000000):PC Pr G 23 [cf w l t,cf w' m u] (.bool (decide (w=w'/\l=m))):=by
 refine ae pok Tryz.func23 L3 ?_;conv=>whnf
 repeat' first|(refine O6.mk _ rfl ?_;conv=>whnf)|(refine cc (Iy l m t u hn) ?_)|(intro t ht;cases t<;>conv=>whnf)
 all_goals refine fin ?_
 all_goals simp_all
theorem L6:aq Tryz.f27=true:=ar
theorem bP(w w':Int)(l m:List Ps)(t u:Bool)(hn:l.length<=1000000):PC Pr G 27 [cf w l t,cf w' m u] (.bool (decide (w=w'/\l=m))):=by
 refine ae pok Tryz.func27 L6 ?_;conv=>whnf
 repeat' first|(refine O6.mk _ rfl ?_;conv=>whnf)|(intro t ht;cases t<;>conv=>whnf)
 ·have hlen:l.length=m.length:=by simp at ht;omega
  have hw:w=w':=by simp_all
  refine gJ pok (σ:={ k:Nat // k<=l.length/\l.take k=m.take k }) (fun s=>⟨[(2,.ptr 0 2 0 0),(3,.ptr 1 2 0 0),(5,.d (iD s.1))],[(0,some (.arr 2 [[.d (iD w),.d (az l t)]])),(1,some (.arr 2 [[.d (iD w'),.d (az m u)]]))],2⟩) (fun s=>l.length-s.1) ⟨0,by omega,rfl⟩ ?_ ?_ ?_
  ·exact ah (dW _) ⟨⟨rfl,rfl⟩,⟨rfl,rfl⟩,⟨rfl,rfl⟩,trivial⟩ ⟨⟨di rfl,_,rfl,rfl,ay rfl⟩,⟨di rfl,_,rfl,rfl,ay rfl⟩,trivial⟩ trivial
  ·exact ar
  ·rintro⟨k,hk,hkm⟩;have e1:aD .i64 (k:Int) 1=((k+1:Nat):Int):=GI;rcases wa1 k l.length with hlt|hge
   ·have hlt2:k<m.length:=by omega
    conv=>whnf
    repeat' first|((first|refine O6.mk _ qg6 ?_|refine aJ ci ?_|refine HpP.force ?_);conv=>whnf)|(intro t ht;cases t<;>conv=>whnf)
    ·exact lQ
    ·have hq:l[k]=m[k]:=by
      have:=xo l[k] m[k];simp_all
     refine .mk ⟨k+1,by omega,?_⟩ (ah (dW _) ⟨⟨rfl,rfl⟩,⟨rfl,rfl⟩,⟨congrArg (fun n=>AV.d (iD n)) e1,rfl⟩,trivial⟩ ⟨⟨di rfl,_,rfl,rfl,ay rfl⟩,⟨di rfl,_,rfl,rfl,ay rfl⟩,trivial⟩ trivial) H8;rw[aC hlt,aC hlt2,hkm,hq]
    ·have hq:l[k]≠m[k]:=by
      have:=xo l[k] m[k];simp_all
     refine fin ?_;rw[decide_eq_false (fun e=>hq (by obtain⟨_,e⟩:=e;subst e;rfl))]
   ·conv=>whnf
    repeat' first|((first|refine O6.mk _ rfl ?_|refine aJ ci ?_|fail);conv=>whnf)|(intro t ht;cases t<;>conv=>whnf)
    ·refine fin ?_;rw[pT hge,pT qad]at hkm;rw[decide_eq_true ⟨hw,hkm⟩]
    ·exact lQ
 ·refine fin ?_;simp at ht;rw[decide_eq_false];rintro⟨_,rfl⟩;exact ht rfl
 ·refine fin ?_;simp_all
theorem N5:aq Tryz.f89=true:=ar
def bc(q r:Ps):Ps:=⟨q.w,(nW q.x q.z r.x r.z (aD .i64 q.p r.p) q.w.toNat).1,(nW q.x q.z r.x r.z (aD .i64 q.p r.p) q.w.toNat).2.1,(nW q.x q.z r.x r.z (aD .i64 q.p r.p) q.w.toNat).2.2.tmod 4⟩
theorem mF(q r:Ps)(hw:1<=q.w/\q.w<=24)(hr:r.w=q.w):PC Pr G 101 [q.d,r.d] (bc q r).d:=by
 obtain⟨a,b,c,d⟩:=q;obtain⟨a',b',c',d'⟩:=r;simp only at hr;subst hr;exact mul_c _ _ _ _ _ _ _ hw
theorem sX(q r:Ps)(hw:1<=q.w/\q.w<=24)(hr:r.w=q.w):PC Pr G 89 [q.d,r.d] (.bool (decide (bc q r=bc r q))):=by
 refine ae pok Tryz.func89 N5 ?_;conv=>whnf
 repeat' first|((first|refine O6.mk _ rfl ?_|refine ab (mF q r hw hr) ?_|refine ab (mF r q qad hr.symm) ?_|refine HpP.force ?_);conv=>whnf)|(intro t ht;cases t<;>conv=>whnf)
 all_goals
  refine fin ?_;rw[xo]at ht;rw[ht]
end Go.Tz
namespace Go.Tz
open Go Go.AL Go.Proofs
variable{G:Nat->Option (List D)}
theorem Mt:aq Tryz.f100=true:=ar
def CE(n:Nat)(f:Nat->Bool):Blk:=.arr 1 ((List.range n).map fun q=>[.d (.bool (f q))])
def yG(n:Nat)(wn:Nat->Nat)(i:Nat):Blk:=.arr 1 ((List.range i).map fun j=>[.sl (wn j) 1 0 n n true])
def pO(l:List Ps):List (List AV):=l.map fun q=>q.l.map AV.d
def IR(l:List Ps)(i:Nat):AHeap:=(1,some (.arr 4 (pO l)))::(3*i+2,some (yG l.length (fun j=>3*j+3) i))::(List.range i).map fun j=>(3*j+3,some (CE l.length fun q=>q==j))
theorem hJ(n:Nat):Nat.beq n n=true:=aR
theorem JD{n:Nat}{α:Type}(v:α):List.replicate n v=(List.range n).map fun _=>v:=by
 apply Hx<;>simp
theorem pZ(l:List Ps)(k:Nat):Blk.Below k (.arr 4 (pO l)):=by
 intro el h;obtain⟨q,_,rfl⟩:=bm.1 h;rfl
theorem qP{n i k:Nat}{wn:Nat->Nat}(h:∀ j,j<i->wn j<k):Blk.Below k (yG n wn i):=by
 intro el he;obtain⟨j,hj,rfl⟩:=bm.1 he;have:=h j (cJ.1 hj);simp[AV.bels,AV.bel,this]
theorem sN(n:Nat)(f:Nat->Bool)(k:Nat):Blk.Below k (CE n f):=by
 intro el he;obtain⟨j,hj,rfl⟩:=bm.1 he;rfl
end Go.Tz
namespace Go.Tz
open Go Go.AL Go.Proofs
variable{G:Nat->Option (List D)}
def kI:Code->List Code
 | .seq c d=>kI c++kI d
 | .cond _ c d=>kI c++kI d
 | .block _ c=>kI c
 | .scope c=>kI c
 | .loop c=>c::kI c
 | _=>[]
noncomputable def fa(f:Func)(i:Nat):Code:=match f.body with
 | some c=>(kI c).getD i .skip
 | none=>.skip
def qR(n:Nat)(rf:Nat->Ps):Blk:=.arr 4 ((List.range n).map fun j=>(rf j).l.map AV.d)
structure HW (h:AHeap) (n W:Nat) (rf:Nat->Ps) (wn:Nat->Nat) (wb:Nat->Nat->Bool):Prop where
 g1:h.get 1=some (qR n rf)
 g2:h.get W=some (yG n wn n)
 g3:∀ j,j<n->h.get (wn j)=some (CE n (wb j))
structure NW (n W nx:Nat) (wn:Nat->Nat):Prop where
 one:1<nx
 w1:W≠1
 wlt:W<nx
 inj:∀ i j,i<n->j<n->wn i=wn j->i=j
 ne1:∀ j,j<n->wn j≠1
 neW:∀ j,j<n->wn j≠W
 lt:∀ j,j<n->wn j<nx
def Fk(n W:Nat)(rf:Nat->Ps)(wn:Nat->Nat)(wb:Nat->Nat->Bool):AHeap:=(1,some (qR n rf))::(W,some (yG n wn n))::(List.range n).map fun j=>(wn j,some (CE n (wb j)))
theorem wN{n W nx:Nat}{rf:Nat->Ps}{wn:Nat->Nat}{wb:Nat->Nat->Bool}(h:NW n W nx wn):HW (Fk n W rf wn wb) n W rf wn wb:=by
 refine⟨rfl,?_,fun j hj=>?_⟩
 ·unfold Fk;rw[bB,if_neg h.w1,bB,if_pos rfl]
 ·unfold Fk;rw[bB,if_neg (h.ne1 j hj),bB,if_neg (h.neW j hj)];exact zd (nm:=wn) (bl:=fun j=>CE n (wb j)) h.inj hj
theorem vT(n:Nat)(rf:Nat->Ps)(k:Nat):Blk.Below k (qR n rf):=by
 intro el h;obtain⟨q,_,rfl⟩:=bm.1 h;rfl
theorem lg{ms:List Nat}{e e':List (Nat×AV)}{h:AHeap}{n W nx:Nat}{rf:Nat->Ps}{wn:Nat->Nat}{wb:Nat->Nat->Bool}(hw:HW h n W rf wn wb)(hn:NW n W nx wn)(he:AllP (fun p:Nat×AV=>lk e p.1=p.2/\p.2.bel nx=true) e')(hm:AllP (fun m=>m<nx) ms) :
  Sub G 0 ms ⟨e,h,nx⟩ ⟨e',Fk n W rf wn wb,nx⟩ :=
 ah (dW _) he ⟨⟨hn.one,_,rfl,hw.g1,vT _ _ _⟩,⟨hn.wlt,_,rfl,hw.g2,qP fun j hj=>hn.lt j hj⟩,nH fun j hj=>⟨hn.lt j (cJ.1 hj),_,rfl,hw.g3 j (cJ.1 hj),sN _ _ _⟩⟩ hm
theorem pE{W nx n:Nat}(h:W<nx):AV.bel nx (.sl W 1 0 n n false)=true:=by simp[AV.bel,h]
theorem pD{nx n:Nat}(h:1<nx):AV.bel nx (.sl 1 4 0 n n false)=true:=by simp[AV.bel,h]
structure EV (l:List Ps) (t:Bool) (n W a c:Nat) (e:List (Nat×AV)):Prop where
 e0:lk e 0 = .d (az l t)
 e4:lk e 4 = .sl 1 4 0 n n false
 e5:lk e 5 = .sl W 1 0 n n false
 e8:lk e 8 = .d (iD a)
 e9:lk e 9 = .d (iD c)
theorem zn{ops:Array Oper}{i nm:Nat}{effs:List HE}{H0:AHeap}{bl:Blk}(h1:wx nm effs 0=none)(h2:H0.get nm=some bl):xj (Kt ops i effs H0) [nm]=[(nm,some bl)]:=by
 unfold xj Kt;rw[h1,h2];rfl
noncomputable def cD:Code:=fa Tryz.f100 4
def uO(wb:Nat->Nat->Bool)(i a s:Nat):Nat->Nat->Bool:=fun j=>if j=i then fun q=>if q<s then wb i q != wb a q else wb i q else wb j
theorem redD{l:List Ps}{t:Bool}{k:Exit->St->Prop}{e:List (Nat×AV)}{h:AHeap}{n W nx i a c:Nat}{rf:Nat->Ps}{wn:Nat->Nat}{wb:Nat->Nat->Bool}(hl:l.length=n)(hbig:n<=1000)(hi:i<n)(ha:a<n)(hia:i≠a)(hw:HW h n W rf wn wb)(hn:NW n W nx wn)
  (he:EV l t n W a c e) (e12:lk e 12 = .d (iD i)) (e13:lk e 13 = .d (iD 0))
  (hk:∀ e' h',HW h' n W rf wn (uO wb i a n)->EV l t n W a c e'->lk e' 12 = .d (iD i)->k (.exit 8) ⟨e',h',nx⟩) :
  P2 Pr G 155 0 [] cD ⟨e,h,nx⟩ k:=by
 refine gJ pok (σ:={ q:Nat // q<=n }) (fun s=>⟨[(0,.d (az l t)),(4,.sl 1 4 0 n n false),(5,.sl W 1 0 n n false),(8,.d (iD a)),(9,.d (iD c)),(12,.d (iD i)),(13,.d (iD s.1))],Fk n W rf wn (uO wb i a s.1),nx⟩) (fun s=>n-s.1) ⟨0,by omega⟩ ?_ ?_ ?_
 ·refine lg ?_ hn ⟨⟨he.e0,rfl⟩,⟨he.e4,pD hn.one⟩,⟨he.e5,pE hn.wlt⟩,⟨he.e8,rfl⟩,⟨he.e9,rfl⟩,⟨e12,rfl⟩,⟨e13,rfl⟩,trivial⟩ trivial;refine⟨hw.g1,hw.g2,fun j hj=>?_⟩;rw[hw.g3 j hj];by_cases q:j=i
  ·subst q;simp[uO]
  ·simp[uO,q]
 ·exact ar
 ·rintro⟨q,hq⟩;dsimp only;have hh:=wN (rf:=rf) (wb:=uO wb i a q) hn;generalize Fk n W rf wn (uO wb i a q)=h0 at hh⊢;have e1:aD .i64 (q:Int) 1=((q+1:Nat):Int):=GI;subst hl;rcases wa1 q l.length with hlt|hge
  rotate_left
  ·have hqn:q=l.length:=by omega
   subst hqn;conv=>whnf
   repeat' first|((first|refine aJ ci ?_|fail);conv=>whnf)|(intro t ht;cases t<;>conv=>whnf)
   ·exact hk _ _ hh ⟨rfl,rfl,rfl,rfl,rfl⟩ rfl
   ·exact Fl
  have g2:=hh.g2;have g3i:=hh.g3 i hi;have g3a:=hh.g3 a ha;conv=>whnf
  repeat' first|((first|refine O6.mk _ qdi ?_|refine aJ qc0 ?_|rw[zn rfl g2]|rw[zn rfl g3i]|rw[zn rfl g3a]|rw[ao]);conv=>whnf)|(intro t ht;cases t<;>conv=>whnf)
  ·exact lQ
  refine HpP.mk h0 (fun _ _ h=>h) ?_;conv=>whnf
  repeat' first|((first|refine O6.mk _ qdi ?_|refine O8.mk _ (by first|(simp only[jj,gx];exact lV hlt)|rfl) ?_|rw[g3i]);conv=>whnf)
  refine HpP.other fun h2 f=>?_;have hw2:HW h2 l.length W rf wn (uO wb i a (q+1)):=by
   refine⟨?_,?_,fun j hj=>?_⟩
   ·rw[f,cM,ai _ _ (Ne.symm (hn.ne1 i hi))];exact hh.g1
   ·rw[f,cM,ai _ _ (Ne.symm (hn.neW i hi))];exact g2
   ·rw[f,cM];by_cases e:j=i
    ·subst e;rw[ao];unfold CE;congr 2;apply xX;intro p _;have ne:a≠j:=Ne.symm hia;by_cases e2:p=q
     ·subst e2;simp[uO,ne,bne]
     ·have:(p<q+1)=(p<q):=by apply propext;omega
      simp[uO,e2,this]
    ·rw[ai _ _ (fun e2=>e (hn.inj _ _ hj hi e2)),hh.g3 j hj];simp[uO,e]
  clear f;conv=>whnf
  skip;exact .mk ⟨q+1,hlt⟩ (lg hw2 hn ⟨⟨rfl,rfl⟩,⟨rfl,pD hn.one⟩,⟨rfl,pE hn.wlt⟩,⟨rfl,rfl⟩,⟨rfl,rfl⟩,⟨rfl,rfl⟩,⟨congrArg (fun n=>AV.d (iD n)) e1,rfl⟩,trivial⟩ trivial) (by show l.length-(q+1)<l.length-q;omega)
end Go.Tz
namespace Go.Tz
open Go Go.AL Go.Proofs
variable{G:Nat->Option (List D)}
def bO(rf:Nat->Ps)(a c i:Nat):Nat->Ps:=fun j=>if j<i/\j≠a/\da (rf j) c=true then bc (rf j) (rf a) else rf j
def gZ(rf:Nat->Ps)(wb:Nat->Nat->Bool)(n a c i:Nat):Nat->Nat->Bool:=fun j=>if j<i/\j≠a/\da (rf j) c=true then(fun q=>if q<n then wb j q != wb a q else wb j q) else wb j
theorem vZ(rf:Nat->Ps)(a c i:Nat):bO rf a c i a=rf a:=by simp[bO]
theorem Yj(rf:Nat->Ps)(wb:Nat->Nat->Bool)(n a c i:Nat):gZ rf wb n a c i a=wb a:=by simp[gZ]
theorem vf(rf:Nat->Ps)(a c i j:Nat)(h:i<=j):bO rf a c i j=rf j:=by simp[bO,Nat.not_lt.2 h]
theorem Ik(rf:Nat->Ps)(wb:Nat->Nat->Bool)(n a c i j:Nat)(h:i<=j):gZ rf wb n a c i j=wb j:=by simp[gZ,Nat.not_lt.2 h]
theorem Yk{rf:Nat->Ps}{w0:Int}{n:Nat}(h:∀ j,j<n->(rf j).w=w0)(a c i j:Nat)(hj:j<n):(bO rf a c i j).w=w0:=by
 unfold bO;split
 ·exact h j hj
 ·exact h j hj
theorem oT{rf:Nat->Ps}{a c i:Nat}(h:¬(i≠a/\da (rf i) c=true)):bO rf a c (i+1)=bO rf a c i:=by
 funext j;unfold bO;by_cases e:j=i
 ·exact qjj
 ·exact qju
theorem yT{rf:Nat->Ps}{wb:Nat->Nat->Bool}{n a c i:Nat}(h:¬(i≠a/\da (rf i) c=true)):gZ rf wb n a c (i+1)=gZ rf wb n a c i:=by
 funext j;unfold gZ;by_cases e:j=i
 ·exact qjj
 ·exact qju
theorem wc{rf:Nat->Ps}{a c i:Nat}(hia:i≠a)(hb:da (rf i) c=true):bO rf a c (i+1)=fun j=>if j=i then bc (rf i) (rf a) else bO rf a c i j:=by
 funext j;unfold bO;by_cases e:j=i
 ·subst e;rw[if_pos ⟨Ck _,hia,hb⟩,if_pos rfl]
 ·have:(j<i+1) ↔ (j<i):=by omega
  simp only[this,if_neg e]
theorem PF{rf:Nat->Ps}{wb:Nat->Nat->Bool}{n a c i:Nat}(hia:i≠a)(hb:da (rf i) c=true):uO (gZ rf wb n a c i) i a n=gZ rf wb n a c (i+1):=by
 funext j;unfold uO;by_cases e:j=i
 ·subst e;rw[if_pos rfl,Ik rf wb n a c j j (cF _),Yj];unfold gZ;rw[if_pos ⟨Ck _,hia,hb⟩]
 ·rw[if_neg e];unfold gZ;have:(j<i+1) ↔ (j<i):=qad;simp only[this]
noncomputable def cC:Code:=fa Tryz.f100 3
structure WD (n:Nat) (w0:Int) (rf:Nat->Ps):Prop where
 w:∀ j,j<n->(rf j).w=w0
 lo:1<=w0
 hi:w0<=12
theorem redC{l:List Ps}{t:Bool}{k:Exit->St->Prop}{e:List (Nat×AV)}{h:AHeap}{n W nx a c:Nat}{w0:Int}{rf:Nat->Ps}{wn:Nat->Nat}{wb:Nat->Nat->Bool}(hl:l.length=n)(hbig:n<=1000)(ha:a<n)(hc:c<1000)(hw:HW h n W rf wn wb)(hn:NW n W nx wn)(hd:WD n w0 rf)
  (he:EV l t n W a c e) (e12:lk e 12 = .d (iD 0))
  (hk:∀ e' h',HW h' n W (bO rf a c n) wn (gZ rf wb n a c n)->EV l t n W a c e'->k (.exit 6) ⟨e',h',nx⟩) :
  P2 Pr G 155 0 [] cC ⟨e,h,nx⟩ k:=by
 refine gJ pok (σ:={ i:Nat // i<=n }) (fun s=>⟨[(0,.d (az l t)),(4,.sl 1 4 0 n n false),(5,.sl W 1 0 n n false),(8,.d (iD a)),(9,.d (iD c)),(12,.d (iD s.1))],Fk n W (bO rf a c s.1) wn (gZ rf wb n a c s.1),nx⟩) (fun s=>n-s.1) ⟨0,by omega⟩ ?_ ?_ ?_
 ·refine lg ?_ hn ⟨⟨he.e0,rfl⟩,⟨he.e4,pD hn.one⟩,⟨he.e5,pE hn.wlt⟩,⟨he.e8,rfl⟩,⟨he.e9,rfl⟩,⟨e12,rfl⟩,trivial⟩ trivial;have h1:bO rf a c 0=rf:=funext fun j=>vf rf a c 0 j (dW _);have h2:gZ rf wb n a c 0=wb:=funext fun j=>Ik rf wb n a c 0 j (dW _);rw[h1,h2];exact hw
 ·exact ar
 ·rintro⟨i,hi0⟩;dsimp only;have hh:=wN (rf:=bO rf a c i) (wb:=gZ rf wb n a c i) hn;generalize Fk n W (bO rf a c i) wn (gZ rf wb n a c i)=h0 at hh⊢;have e1:aD .i64 (i:Int) 1=((i+1:Nat):Int):=GI;subst hl;rcases wa1 i l.length with hi|hge
  rotate_left
  ·have hqn:i=l.length:=by omega
   subst hqn;conv=>whnf
   repeat' first|(intro t ht;cases t<;>conv=>whnf)
   ·exact hk _ _ hh ⟨rfl,rfl,rfl,rfl,rfl⟩
   all_goals (exfalso;simp_all;done)
  have g1:=hh.g1;have hri:bO rf a c i i=rf i:=vf rf a c i i (cF i);have hra:bO rf a c i a=rf a:=vZ rf a c i;have again:∀ e' h',HW h' l.length W (bO rf a c (i+1)) wn (gZ rf wb l.length a c (i+1))->EV l t l.length W a c e'->lk e' 12 = .d (iD ((i+1:Nat):Int)) ->
    Again G 0 [] (fun s:{ i:Nat // i<=l.length }=>(⟨[(0,.d (az l t)),(4,.sl 1 4 0 l.length l.length false),(5,.sl W 1 0 l.length l.length false),(8,.d (iD a)),(9,.d (iD c)),(12,.d (iD s.1))],Fk l.length W (bO rf a c s.1) wn (gZ rf wb l.length a c s.1),nx⟩:St)) (fun s=>l.length-s.1) ⟨i,hi0⟩ ⟨e',h',nx⟩:=fun e' h' q1 q2 q3 =>
   .mk ⟨i+1,hi⟩ (lg q1 hn ⟨⟨q2.e0,rfl⟩,⟨q2.e4,pD hn.one⟩,⟨q2.e5,pE hn.wlt⟩,⟨q2.e8,rfl⟩,⟨q2.e9,rfl⟩,⟨q3,rfl⟩,trivial⟩ trivial) qdo
  have hwi:1<=(bO rf a c i i).w/\(bO rf a c i i).w<=24:=by rw[hri,hd.w i hi];have:=hd.lo;have:=hd.hi;omega
  have hwa:(bO rf a c i a).w=(bO rf a c i i).w:=by rw[hri,hra,hd.w i hi,hd.w a ha]
  conv=>whnf
  repeat' first|((first|refine O6.mk _ qd3 ?_|refine aJ qc0 ?_|fail);conv=>whnf)|(refine cc (zT (bO rf a c i i) (c:Int) qad qad) ?_)|((first|refine ab (mF (bO rf a c i i) (bO rf a c i a) hwi hwa) ?_|rw[zn rfl g1]|rw[g1]);conv=>whnf)|(intro t ht;cases t<;>conv=>whnf)
  ·exact lQ
  ·have hia:i=a:=by simp_all;omega
   have e2:bO rf a c (i+1)=bO rf a c i:=oT (fun h=>h.1 hia);have e3:gZ rf wb l.length a c (i+1)=gZ rf wb l.length a c i:=yT (fun h=>h.1 hia);exact again _ _ (by rw[e2,e3];exact hh) ⟨rfl,rfl,rfl,rfl,rfl⟩ (congrArg (fun n=>AV.d (iD n)) e1)
  ·have hb:¬ da (rf i) c=true:=by rw[<- hri];simp_all
   have e2:bO rf a c (i+1)=bO rf a c i:=oT (fun h=>hb h.2);have e3:gZ rf wb l.length a c (i+1)=gZ rf wb l.length a c i:=yT (fun h=>hb h.2);exact again _ _ (by rw[e2,e3];exact hh) ⟨rfl,rfl,rfl,rfl,rfl⟩ (congrArg (fun n=>AV.d (iD n)) e1)
  have hb:da (rf i) c=true:=by rw[<- hri];exact ht
  have hia:i≠a:=by
   intro e;subst e;simp_all
  refine HpP.mk h0 (fun _ _ h=>h) ?_;conv=>whnf
  repeat' first|((first|refine O6.mk _ qd3 ?_|refine O8.mk _ (by first|(simp only[jj,gx];exact lV hi)|rfl) ?_|rw[g1]);conv=>whnf)
  refine HpP.other fun h2 f=>?_;have hw2:HW h2 l.length W (bO rf a c (i+1)) wn (gZ rf wb l.length a c i):=by
   refine⟨?_,?_,fun j hj=>?_⟩
   ·rw[f,cM,ao,wc hia hb];unfold qR;congr 2;apply xX;intro j _;by_cases e:j=i
    ·subst e;simp[hri,hra];rfl
    ·simp[e]
   ·rw[f,cM,ai _ _ hn.w1];exact hh.g2
   ·rw[f,cM,ai _ _ (hn.ne1 j hj)];exact hh.g3 j hj
  clear f;conv=>whnf
  skip;refine redD rfl hbig hi ha hia hw2 hn ⟨rfl,rfl,rfl,rfl,rfl⟩ rfl rfl fun e' h' q1 q2 q3=>?_;have q4:St.ev G { env:=e',heap:=h',nx:=nx+0 } (Operand.tmp 12) = .d (iD i):=q3;conv=>whnf
  repeat' first|(rw[q4];conv=>whnf)
  refine again _ _ ?_ ?_ ?_
  ·rw[<- PF hia hb];exact q1
  ·exact⟨q2.e0,q2.e4,q2.e5,q2.e8,q2.e9⟩
  ·exact congrArg (fun n=>AV.d (iD n)) e1
end Go.Tz
