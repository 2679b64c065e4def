import Derived.Test.YtehjjpbpdfnnfaaGreatDoorM00
import Derived.Below
import Derived.CallsIn
import Derived.ChangeKeysEq
import Derived.Laws.Entries
import Derived.Laws.World
import Derived.RangeFuncLeaves
import Derived.RangeFuncRecord
namespace Go.AL
open Go
inductive D where
 | bool (b:Bool)
 | int (k:IntKind) (n:Int)
 | str (s:ByteArray)
 | nilp
 | nilf
 | nilm
 | opq (v:Value)
 | any
 | sl (es:List (List D)) (tight:Bool)
 | rop (cs:List D) (off:Nat)
 | fn (f:FuncId) (first cap:List D)
 | agg (l:List D)
 | tup (l:List D)
inductive P1 (w:World) (RO:Nat->Prop):D->Value->Prop
 | bool (b:Bool):P1 w RO (.bool b) (.bool b)
 | int (k:IntKind) (n:Int):P1 w RO (.int k n) (.int k n)
 | str (s:ByteArray):P1 w RO (.str s) (.string s)
 | nilp:P1 w RO .nilp (.pointer none)
 | nilf:P1 w RO .nilf .nilFunc
 | nilm:P1 w RO .nilm (.map none)
 | opq (v:Value):P1 w RO (.opq v) v
 | any (v:Value):P1 w RO .any v
 | sl0 (t:Bool) (a:Option Addr) (c:Nat) (ht:t=true->c=0):P1 w RO (.sl [] t) (.slice a 0 c)
 | sl (es:List (List D)) (t:Bool) (b o c sz:Nat) (vs:Nat->Nat->Value) (hro:RO b) (hc:es.length<=c) (ht:t=true->c=es.length)
   (hsz:∀ el,el∈es->el.length=sz)
   (hm:∀ i j el d,es[i]?=some el->el[j]?=some d->w.cell? ⟨b,o+i*sz+j,none⟩=some (vs i j))
   (hr:∀ i j el d,es[i]?=some el->el[j]?=some d->P1 w RO d (vs i j)) :
   P1 w RO (.sl es t) (.slice (some ⟨b,o,none⟩) es.length c)
 | rop (cs:List D) (off b o:Nat) (vs:Nat->Value) (hro:RO b)
   (hm:∀ j d,cs[j]?=some d->w.cell? ⟨b,o+j,none⟩=some (vs j))
   (hr:∀ j d,cs[j]?=some d->P1 w RO d (vs j)) :
   P1 w RO (.rop cs off) (.pointer (some ⟨b,o+off,none⟩))
 | fn (f:FuncId) (first cap:List D) (fi ca:Array Value) (hf:fi.size=first.length) (hc:ca.size=cap.length)
   (h1:∀ i d,first[i]?=some d->P1 w RO d (fi.getD i undef)) (h2:∀ i d,cap[i]?=some d->P1 w RO d (ca.getD i undef)) :
   P1 w RO (.fn f first cap) (.func (.func f) fi ca)
 | agg (l:List D) (cs:Array Value) (hs:cs.size=l.length) (h:∀ i d,l[i]?=some d->P1 w RO d (cs.getD i undef)):P1 w RO (.agg l) (.agg cs)
 | tup (l:List D) (cs:Array Value) (hs:cs.size=l.length) (h:∀ i d,l[i]?=some d->P1 w RO d (cs.getD i undef)):P1 w RO (.tup l) (.tuple cs)
theorem P1.mono{w w':World}{RO RO':Nat->Prop}(hb:∀ k,RO k->w'.heap[k]?=w.heap[k]?)(hr:∀ k,RO k->RO' k){d:D}{v:Value}
  (h:P1 w RO d v):P1 w' RO' d v:=by
 induction h with
 | bool b=>exact .bool b
 | int k n=>exact .int k n
 | str s=>exact .str s
 | nilp=>exact .nilp
 | nilf=>exact .nilf
 | nilm=>exact .nilm
 | opq v=>exact .opq v
 | any v=>exact .any v
 | sl0 t a c ht=>exact .sl0 t a c ht
 | sl es t b o c sz vs hro hc ht hsz hm _ ih =>
  exact .sl es t b o c sz vs (hr _ hro) hc ht hsz (fun i j el d h1 h2=>by rw[World.cell?_of_block (w:=w) (hb b hro)];exact hm i j el d h1 h2) ih
 | rop cs off b o vs hro hm _ ih =>
  exact .rop cs off b o vs (hr _ hro) (fun j d h1=>by rw[World.cell?_of_block (w:=w) (hb b hro)];exact hm j d h1) ih
 | fn f first cap fi ca hf hc _ _ ih1 ih2=>exact .fn f first cap fi ca hf hc ih1 ih2
 | agg l cs hs _ ih=>exact .agg l cs hs ih
 | tup l cs hs _ ih=>exact .tup l cs hs ih
inductive AV where
 | d (x:D)
 | top
 | ptr (nm sz idx off:Nat)
 | sl (nm sz lo len room:Nat) (tight:Bool)
 | map (nm:Nat)
 | yld (nm:Nat)
 | fn (f:FuncId) (first cap:List AV)
 | agg (l:List AV)
 | tup (l:List AV)
structure Ctx where
 U:Nat->Prop
 β:Nat->Option Nat
 RO:Nat->Prop
 w:World
inductive O9 (C:Ctx):AV->Value->Prop
 | d (x:D) (v:Value) (h:P1 C.w C.RO x v):O9 C (.d x) v
 | top (v:Value):O9 C .top v
 | ptr (nm sz idx off k:Nat) (hU:C.U nm) (hb:C.β nm=some k):O9 C (.ptr nm sz idx off) (.pointer (some ⟨k,idx*sz+off,none⟩))
 | sl (nm sz lo len room:Nat) (t:Bool) (k c:Nat) (cs:Array Value) (e:TypeId) (fz:Nat×Nat) (hU:C.U nm) (hb:C.β nm=some k) (hl:len<=c) (hr:room<=c)
   (ht:t=true->c=room) (hh:C.w.heap[k]?=some (.cells cs e fz)) (hs:(lo+c)*sz<=cs.size) :
   O9 C (.sl nm sz lo len room t) (.slice (some ⟨k,lo*sz,none⟩) len c)
 | sl0 (nm sz lo:Nat) (t:Bool) (a:Option Addr) (hU:C.U nm):O9 C (.sl nm sz lo 0 0 t) (.slice a 0 0)
 | map (nm k:Nat) (hU:C.U nm) (hb:C.β nm=some k):O9 C (.map nm) (.map (some k))
 | yld (nm k:Nat) (hU:C.U nm) (hb:C.β nm=some k):O9 C (.yld nm) (.func (.yield k) #[] #[])
 | fn (f:FuncId) (first cap:List AV) (fi ca:Array Value) (hf:fi.size=first.length) (hc:ca.size=cap.length)
   (h1:∀ i d,first[i]?=some d->O9 C d (fi.getD i undef)) (h2:∀ i d,cap[i]?=some d->O9 C d (ca.getD i undef)) :
   O9 C (.fn f first cap) (.func (.func f) fi ca)
 | agg (l:List AV) (cs:Array Value) (hs:cs.size=l.length) (h:∀ i d,l[i]?=some d->O9 C d (cs.getD i undef)):O9 C (.agg l) (.agg cs)
 | tup (l:List AV) (cs:Array Value) (hs:cs.size=l.length) (h:∀ i d,l[i]?=some d->O9 C d (cs.getD i undef)):O9 C (.tup l) (.tuple cs)
inductive Blk where
 | arr (sz:Nat) (els:List (List AV))
 | map (es:List (D×D))
 | raw (o:Obj)
 | lp (env:List (Nat×AV)) (n:Nat) (ps:Array Tmp) (assign body:Code) (state:LoopState) (pending:Option Code) (dnm:Nat)
def Du:List (Nat×AV)->Nat->AV
 | [],_=>.top
 | (k,v)::r,n=>match Nat.beq k n with
  | true=>v
  | false=>Du r n
def rawOk:Obj->Bool
 | .cells .. => false
 | _=>true
abbrev AHeap:=List (Nat×Option Blk)
def AHeap.get:AHeap->Nat->Option Blk
 | [],_=>none
 | (k,b)::r,n=>match Nat.beq k n with
  | true=>b
  | false=>AHeap.get r n
def iL(C:Ctx)(nm:Nat):Blk->Prop
 | .arr sz els=>(C.β nm=none/\els=[]) \/ ∃(k:Nat) (cs:Array Value) (e:TypeId),C.β nm=some k/\C.w.heap[k]?=some (.cells cs e (0,0)) /\ ¬ C.RO k/\els.length*sz<=cs.size ∧
   (∀ el,el∈els->el.length=sz)/\(∀ i j el v,els[i]?=some el->el[j]?=some v->∃ x,cs[i*sz+j]?=some x/\O9 C v x)
 | .map es=>∃(k:Nat) (ents:Array MapEntry) (clock:Nat),C.β nm=some k/\C.w.heap[k]?=some (.map ents clock) /\ ¬ C.RO k/\ents.size=es.length ∧
   (∀(i:Nat) (x y:D),es[i]?=some (x,y)->∃ en:MapEntry,ents[i]?=some en/\P1 C.w C.RO x en.key/\P1 C.w C.RO y en.val)
 | .raw o=>∃ k:Nat,C.β nm=some k/\C.w.heap[k]?=some o /\ ¬ C.RO k/\rawOk o=true
 | .lp env n ps assign body state pending dnm=>∃(k:Nat) (r:Loop),C.β nm=some k/\C.w.heap[k]?=some (.loop r) /\ ¬ C.RO k/\r.state=state/\r.pending=pending/\r.params=ps/\r.assign=assign/\r.body=body ∧
   r.tmps.size=n/\(∀ t,O9 C (Du env t) (r.tmps.getD t undef))/\C.U dnm/\C.β dnm=some r.defers
structure P0 (G:Nat->Option (List D)) (C:Ctx) (H:AHeap):Prop where
 blk:∀ nm b,H.get nm=some b->C.U nm/\iL C nm b
 inj:∀ nm nm' b b' k,H.get nm=some b->H.get nm'=some b'->C.β nm=some k->C.β nm'=some k->nm=nm'
 ro:∀ k,C.RO k->k<C.w.heap.size
 glob:∀ g ds,G g=some ds->P1 C.w C.RO (.rop ds 0) (.pointer (some ⟨g,0,none⟩))
structure Tr (X:Nat->Prop) (C:Ctx) (H:AHeap) (C':Ctx) (H':AHeap):Prop where
 os:C'.w.os=C.w.os
 tape:C'.w.tape=C.w.tape
 output:C'.w.output=C.w.output
 size:C.w.heap.size<=C'.w.heap.size
 shape:∀(k:Nat) (cs:Array Value) (e:TypeId) (fz:Nat×Nat),C.w.heap[k]?=some (Obj.cells cs e fz)->∃(cs':Array Value) (fz':Nat×Nat),C'.w.heap[k]?=some (.cells cs' e fz')/\cs'.size=cs.size
 frame:∀ k,k<C.w.heap.size->(∀ nm b,H.get nm=some b->C.β nm≠some k)->C'.w.heap[k]?=C.w.heap[k]?
 names:∀ nm,X nm->C'.U nm/\C'.β nm=C.β nm
 ros:∀ k,C.RO k->C'.RO k
 img:∀ nm b k,H'.get nm=some b->C'.β nm=some k->k<C.w.heap.size->∃ nm0 b0,H.get nm0=some b0/\C.β nm0=some k
 rob:∀ k,C'.RO k->k<C.w.heap.size->C.RO k \/ ∃ nm0 b0,H.get nm0=some b0/\C.β nm0=some k
theorem Tr.refl{X:Nat->Prop}{C:Ctx}{H:AHeap}(hX:∀ nm,X nm->C.U nm):Tr X C H C H :=
 ⟨rfl,rfl,rfl,cF _,fun _ cs _ fz h=>⟨cs,fz,h,rfl⟩,fun _ _ _=>rfl,fun nm h=>⟨hX nm h,rfl⟩,fun _ h=>h,fun nm b _ h hb _=>⟨nm,b,h,hb⟩,fun _ h _=>.inl h⟩
theorem Tr.trans{X:Nat->Prop}{C C' C'':Ctx}{H H' H'':AHeap}(h:Tr X C H C' H')(k:Tr X C' H' C'' H''):Tr X C H C'' H'' where
 os:=k.os.trans h.os
 tape:=k.tape.trans h.tape
 output:=k.output.trans h.output
 size:=Nat.le_trans h.size k.size
 shape i cs e fz hc:=by
  obtain⟨cs',fz',h1,h2⟩:=h.shape i cs e fz hc;obtain⟨cs'',fz'',h3,h4⟩:=k.shape i cs' e fz' h1;exact⟨cs'',fz'',h3,h4.trans h2⟩
 frame i hi hn:=by
  refine(k.frame i (uU hi h.size) fun nm b hb he=>?_).trans (h.frame i hi hn);obtain⟨nm0,b0,h1,h2⟩:=h.img nm b i hb he hi;exact hn nm0 b0 h1 h2
 names nm hx:=⟨(k.names nm hx).1,(k.names nm hx).2.trans (h.names nm hx).2⟩
 ros i hi:=k.ros i (h.ros i hi)
 img nm b i hb he hi:=by
  obtain⟨nm0,b0,h1,h2⟩:=k.img nm b i hb he (uU hi h.size);exact h.img nm0 b0 i h1 h2 hi
 rob i hi hl:=by
  rcases k.rob i hi (uU hl h.size) with q|⟨nm0,b0,h1,h2⟩
  ·exact h.rob i q hl
  ·exact .inr (h.img nm0 b0 i h1 h2 hl)
theorem Tr.weaken{X Y:Nat->Prop}{C C':Ctx}{H H':AHeap}(h:Tr X C H C' H')(hY:∀ nm,Y nm->X nm):Tr Y C H C' H' :=
 { h with names:=fun nm hy=>h.names nm (hY nm hy) }
theorem P0.ro_apart{G:Nat->Option (List D)}{C:Ctx}{H:AHeap}(h:P0 G C H){k:Nat}(hk:C.RO k):∀ nm b,H.get nm=some b->C.β nm≠some k:=by
 intro nm b hb he;have:=(h.blk nm b hb).2;cases b with
 | arr sz els =>
  rcases this with⟨h1,_⟩|⟨k',cs,e,h1,_,h3,_⟩
  ·rw[h1]at he;cases he
  ·rw[h1]at he;cases he;exact h3 hk
 | map es =>
  obtain⟨k',en,cl,h1,_,h3,_⟩:=this;rw[h1]at he;cases he;exact h3 hk
 | raw o =>
  obtain⟨k',h1,_,h3,_⟩:=this;rw[h1]at he;cases he;exact h3 hk
 | lp env n ps assign body state pending dnm =>
  obtain⟨k',r,h1,_,h3,_⟩:=this;rw[h1]at he;cases he;exact h3 hk
theorem Tr.ro_same{G:Nat->Option (List D)}{X:Nat->Prop}{C C':Ctx}{H H':AHeap}(h:Tr X C H C' H')(hr:P0 G C H){k:Nat}(hk:C.RO k):C'.w.heap[k]?=C.w.heap[k]? :=
 h.frame k (hr.ro k hk) (hr.ro_apart hk)
theorem P1.later{G:Nat->Option (List D)}{X:Nat->Prop}{C C':Ctx}{H H':AHeap}(h:Tr X C H C' H')(hr:P0 G C H){d:D}{v:Value}(hd:P1 C.w C.RO d v):P1 C'.w C'.RO d v :=
 hd.mono (fun _ hk=>h.ro_same hr hk) h.ros
theorem O9.later{G:Nat->Option (List D)}{C C':Ctx}{H H':AHeap}(h:Tr C.U C H C' H')(hr:P0 G C H){v:AV}{x:Value}(hv:O9 C v x):O9 C' v x:=by
 induction hv with
 | d x v hd=>exact .d x v (hd.later h hr)
 | top v=>exact .top v
 | ptr nm sz idx off k hU hb=>exact .ptr nm sz idx off k (h.names nm hU).1 ((h.names nm hU).2.trans hb)
 | sl nm sz lo len room t k c cs e fz hU hb hl hrm ht hh hs =>
  obtain⟨cs',fz',h1,h2⟩:=h.shape k cs e fz hh;exact .sl nm sz lo len room t k c cs' e fz' (h.names nm hU).1 ((h.names nm hU).2.trans hb) hl hrm ht h1 (by rw[h2];exact hs)
 | sl0 nm sz lo t a hU=>exact .sl0 nm sz lo t a (h.names nm hU).1
 | map nm k hU hb=>exact .map nm k (h.names nm hU).1 ((h.names nm hU).2.trans hb)
 | yld nm k hU hb=>exact .yld nm k (h.names nm hU).1 ((h.names nm hU).2.trans hb)
 | fn f first cap fi ca hf hc _ _ ih1 ih2=>exact .fn f first cap fi ca hf hc ih1 ih2
 | agg l cs hs _ ih=>exact .agg l cs hs ih
 | tup l cs hs _ ih=>exact .tup l cs hs ih
end Go.AL
namespace Go.AL
open Go
structure St where
 env:List (Nat×AV)
 heap:AHeap
 nx:Nat
abbrev lk:=Du
def ml:Value->D
 | .bool b=>.bool b
 | .int k n=>.int k n
 | .string s=>.str s
 | .pointer none=>.nilp
 | .nilFunc=>.nilf
 | .map none=>.nilm
 | .slice none 0 0=>.sl [] true
 | v=>.opq v
def fU:Value->D
 | .agg cs=>.agg (cs.toList.map ml)
 | v=>ml v
def St.ev(G:Nat->Option (List D))(st:St):Operand->AV
 | .tmp t=>lk st.env t
 | .const v=>.d (fU v)
 | .global g=>match G g with
  | some ds=>.d (.rop ds 0)
  | none=>.top
 | .func f=>.d (.fn f [] [])
theorem ul(w:World)(RO:Nat->Prop)(v:Value):P1 w RO (ml v) v:=by
 unfold ml;split<;>first|(exact .sl0 _ _ _ (fun _=>rfl))|constructor
theorem mn(w:World)(RO:Nat->Prop)(v:Value):P1 w RO (fU v) v:=by
 unfold fU;split
 ·rename_i cs;refine .agg _ _ aR (fun i d h=>?_);simp only[mV,tT]at h;obtain⟨x,h1,rfl⟩:=h;have:cs.getD i undef=x:=by simp at h1;obtain⟨h2,h3⟩:=BU.1 h1;simp[Array.getD,h2,h3]
  rw[this];exact ul w RO x
 ·exact ul w RO _
structure P9 (C:Ctx) (st:St) (n:Nat) (a:Act):Prop where
 size:a.tmps.size=n
 env:∀ t,O9 C (lk st.env t) (a.tmps.getD t undef)
theorem nS{G:Nat->Option (List D)}{C:Ctx}{st:St}{n:Nat}{a:Act}(hH:P0 G C st.heap)(hE:P9 C st n a)(x:Operand):O9 C (st.ev G x) (a.eval x):=by
 cases x with
 | tmp t=>exact hE.env t
 | const v=>exact .d _ _ (mn _ _ v)
 | global g =>
  simp only[St.ev];split
  ·rename_i ds hg;exact .d _ _ (hH.glob g ds hg)
  ·exact .top _
 | func f=>exact .d _ _ (.fn f [] [] #[] #[] rfl rfl (fun i d h=>by simp at h) (fun i d h=>by simp at h))
def Opd(G:Nat->Option (List D))(C:Ctx)(st:St)(a:Act)(o:Oper):Prop:=∀ x,x∈o.op.operands->O9 C (st.ev G x) (a.eval x)
def PureOp(G:Nat->Option (List D))(P:Program)(st:St)(o:Oper)(v:AV):Prop :=
 ∀(C:Ctx) (a:Act),P0 G C st.heap->Opd G C st a o->∃ x,(execOp a.eval o).run P C.w = .ok (.value x) C.w/\O9 C v x
variable{G:Nat->Option (List D)}{P:Program}{st:St}{o:Oper}
theorem fC{C:Ctx}{b:Bool}{x:Value}(h:O9 C (.d (.bool b)) x):x = .bool b:=by cases h with|d _ _ h=>cases h;rfl
theorem br{C:Ctx}{k:IntKind}{n:Int}{x:Value}(h:O9 C (.d (.int k n)) x):x = .int k n:=by cases h with|d _ _ h=>cases h;rfl
theorem fw{C:Ctx}(k:IntKind)(n:Int):O9 C (.d (.int k n)) (.int k n):=.d _ _ (.int k n)
theorem fh{C:Ctx}(b:Bool):O9 C (.d (.bool b)) (.bool b):=.d _ _ (.bool b)
theorem jM{x:Operand}{v:AV}(ho:o.op = .move x)(hx:st.ev G x=v):PureOp G P st o v:=by
 intro C a _ h;have:=h x fI;exact⟨a.eval x,by simp[execOp,ho],hx ▸ this⟩
theorem je{x:Operand}{v:AV}(ho:o.op = .assign x)(hx:st.ev G x=v):PureOp G P st o v:=by
 intro C a _ h;have:=h x fI;exact⟨a.eval x,by simp[execOp,ho],hx ▸ this⟩
theorem KL{c x y:Operand}{b:Bool}{v:AV}(ho:o.op = .pick c x y)(hc:st.ev G c = .d (.bool b))(hv:(if b then st.ev G x else st.ev G y)=v):PureOp G P st o v:=by
 intro C a _ h;have h1:=fC (hc ▸ h c fI);have h2:=h x fI;have h3:=h y fI;refine⟨if b then a.eval x else a.eval y,by simp[execOp,ho,h1,asBool],?_⟩;subst hv;cases b<;>simpa
def aD(k:IntKind)(a b:Int):Int:=k.wrap (a+b)
def cO(k:IntKind)(a b:Int):Int:=k.wrap (a-b)
def fH(k:IntKind)(a b:Int):Int:=k.wrap (a*b)
def dI(k:IntKind)(a b:Int):Int:=k.wrap ((BitVec.ofInt k.bits a &&& BitVec.ofInt k.bits b).toNat)
def Cg(k:IntKind)(a b:Int):Int:=k.wrap ((BitVec.ofInt k.bits a ||| BitVec.ofInt k.bits b).toNat)
def uK(k:IntKind)(a b:Int):Int:=k.wrap ((BitVec.ofInt k.bits a^^^BitVec.ofInt k.bits b).toNat)
def rl(k:IntKind)(a b:Int):Int:=k.wrap ((BitVec.ofInt k.bits a &&& ~~~ BitVec.ofInt k.bits b).toNat)
def cU(k:IntKind)(a b:Int):Int:=k.wrap (a*2^min b.toNat k.bits)
def iX(k:IntKind)(a b:Int):Int:=a.fdiv (2^min b.toNat k.bits)
def AF(k:IntKind)(a b:Int):Int:=k.wrap (a.tdiv b)
def FZ(k:IntKind)(a:Int):Int:=k.wrap (0-a)
def YE:BinOp->IntKind->Int->Int->Option D
 | .add,k,a,b=>some (.int k (aD k a b))
 | .sub,k,a,b=>some (.int k (cO k a b))
 | .mul,k,a,b=>some (.int k (fH k a b))
 | .eql,_,a,b=>some (.bool (a==b))
 | .neq,_,a,b=>some (.bool (a != b))
 | .lss,_,a,b=>some (.bool (decide (a<b)))
 | .leq,_,a,b=>some (.bool (decide (a<=b)))
 | .gtr,_,a,b=>some (.bool (decide (a>b)))
 | .geq,_,a,b=>some (.bool (decide (a>=b)))
 | .and,k,a,b=>some (.int k (dI k a b))
 | .or,k,a,b=>some (.int k (Cg k a b))
 | .xor,k,a,b=>some (.int k (uK k a b))
 | .andNot,k,a,b=>some (.int k (rl k a b))
 | _,_,_,_=>none
theorem gg(op:BinOp)(t:TypeId)(x y:Operand)(k k':IntKind)(a b:Int)(w:World):(eqGuard op t x y (.int k a) (.int k' b)).run P w = .ok () w:=by
 unfold eqGuard;cases op<;>simp
theorem zq{op:BinOp}{t t':TypeId}{x y:Operand}{k:IntKind}{p q:Int}{v:D}(ho:o.op = .binOp op t x y t')(hx:st.ev G x = .d (.int k p))(hy:st.ev G y = .d (.int k q))
  (hv:YE op k p q=some v):PureOp G P st o (.d v):=by
 intro C a _ h;have h1:=br (hx ▸ h x fI);have h2:=br (hy ▸ h y fI);cases op<;>simp only[YE,tU,reduceCtorEq]at hv<;>subst hv<;>
  first
  | exact⟨_,by simp[execOp,ho,h1,h2,gg,binOp,Op.intArith,Op.intBits,Op.intCmp,aD,cO,fH,dI,Cg,uK,rl],fw _ _⟩
  | exact⟨_,by simp[execOp,ho,h1,h2,gg,binOp,Op.intArith,Op.intBits,Op.intCmp,aD,cO,fH,dI,Cg,uK,rl],fh _⟩
theorem Pn{t t':TypeId}{x y:Operand}{k:IntKind}{p q:Int}(ho:o.op = .binOp .quo t x y t')(hx:st.ev G x = .d (.int k p))(hy:st.ev G y = .d (.int k q))(hq:q≠0):PureOp G P st o (.d (.int k (AF k p q))):=by
 intro C a _ h;have h1:=br (hx ▸ h x fI);have h2:=br (hy ▸ h y fI);exact⟨_,by simp[execOp,ho,h1,h2,gg,binOp,Op.intDiv,hq,AF],fw _ _⟩
theorem Po{t t':TypeId}{x y:Operand}{k:IntKind}{p q:Int}(ho:o.op = .binOp .rem t x y t')(hx:st.ev G x = .d (.int k p))(hy:st.ev G y = .d (.int k q))(hq:q≠0):PureOp G P st o (.d (.int k (p.tmod q))):=by
 intro C a _ h;have h1:=br (hx ▸ h x fI);have h2:=br (hy ▸ h y fI);exact⟨_,by simp[execOp,ho,h1,h2,gg,binOp,Op.intDiv,hq,AF],fw _ _⟩
theorem Pp{t t':TypeId}{x y:Operand}{k k':IntKind}{p q:Int}(ho:o.op = .binOp .shl t x y t')(hx:st.ev G x = .d (.int k p))(hy:st.ev G y = .d (.int k' q))(hq:0<=q):PureOp G P st o (.d (.int k (cU k p q))):=by
 intro C a _ h;have h1:=br (hx ▸ h x fI);have h2:=br (hy ▸ h y fI);exact⟨_,by simp[execOp,ho,h1,h2,gg,binOp,Op.shift,Int.not_lt.2 hq,cU,iX],fw _ _⟩
theorem Pq{t t':TypeId}{x y:Operand}{k k':IntKind}{p q:Int}(ho:o.op = .binOp .shr t x y t')(hx:st.ev G x = .d (.int k p))(hy:st.ev G y = .d (.int k' q))(hq:0<=q):PureOp G P st o (.d (.int k (iX k p q))):=by
 intro C a _ h;have h1:=br (hx ▸ h x fI);have h2:=br (hy ▸ h y fI);exact⟨_,by simp[execOp,ho,h1,h2,gg,binOp,Op.shift,Int.not_lt.2 hq,cU,iX],fw _ _⟩
theorem Pm{t:TypeId}{x:Operand}{b:Bool}(ho:o.op = .unOp .not t x)(hx:st.ev G x = .d (.bool b)):PureOp G P st o (.d (.bool (!b))):=by
 intro C a _ h;have h1:=fC (hx ▸ h x fI);exact⟨_,by simp[execOp,ho,h1,Op.unary],fh _⟩
theorem Pl{t:TypeId}{x:Operand}{k:IntKind}{n:Int}(ho:o.op = .unOp .neg t x)(hx:st.ev G x = .d (.int k n)):PureOp G P st o (.d (.int k (FZ k n))):=by
 intro C a _ h;have h1:=br (hx ▸ h x fI);exact⟨_,by simp[execOp,ho,h1,Op.unary,Op.intArith,FZ],fw _ _⟩
end Go.AL
namespace Go.AL
open Go
def EOk(P:Program)(t:TypeId)(S B:Nat)(z:D):Prop :=
 ∃ ti,P.info? t=some ti/\ti.size=S/\ti.bytes=B /\ ∃ zv,ti.zero=some zv/\zv.cells.size=S /\ ∀ w RO,P1 w RO z zv
def qD:TypeDesc->Bool
 | .struct _ | .array _ _=>true
 | _=>false
def TOk(P:Program)(t:TypeId)(ag:Bool)(S B:Nat)(z:D):Prop :=
 EOk P t S B z /\ ∃ desc,P.underlying t=some desc/\qD desc=ag
def cH(P:Program)(t e:TypeId)(S B:Nat)(z:D):Prop:=P.underlying t=some (.slice e)/\EOk P e S B z
def Kb(P:Program)(t:TypeId)(n:Nat)(e:TypeId)(ag:Bool)(S B:Nat)(z:D):Prop:=P.underlying t=some (.array n e)/\TOk P e ag S B z
def Re(P:Program)(t:TypeId)(k off:Nat)(ag:Bool)(S:Nat):Prop :=
 ∃ fs f B z,P.underlying t=some (.struct fs)/\fs[k]?=some f/\f.offset=off/\0<S/\TOk P f.type ag S B z
theorem bR{P:Program}{w:World}{t:TypeId}{i:TypeInfo}(h:P.info? t=some i):(typeInfo t).run P w = .ok i w:=by simp[typeInfo,h]
theorem EOk.size{P:Program}{w:World}{t S B:Nat}{z:D}(h:EOk P t S B z):(sizeOf t).run P w = .ok S w:=by
 obtain⟨ti,h1,h2,_⟩:=h;simp[sizeOf,bR h1,h2]
theorem TOk.isAgg{P:Program}{w:World}{t S B:Nat}{ag:Bool}{z:D}(h:TOk P t ag S B z):(isAgg t).run P w = .ok ag w:=by
 obtain⟨_,desc,h1,h2⟩:=h;simp only[Go.isAgg,Sem.run_bind,run_underlying h1,Result.andThen_ok];cases desc<;>simp_all[qD]
theorem dY(b o n:Nat):(⟨b,o,none⟩:Addr).add n=⟨b,o+n,none⟩:=by
 unfold Addr.add;split<;>simp_all
theorem rZ{P:Program}{w:World}(b o:Nat):∀(vs:List Value) (i:Nat) (acc:Array Value),(∀ j v,vs[j]?=some v->w.cell? ⟨b,o+i+j,none⟩=some v) ->
  (loadCellsFrom ⟨b,o,none⟩ i vs.length acc).run P w = .ok (acc++vs.toArray) w:=by
 intro vs
 induction vs with
 | nil=>intro i acc _;simp[loadCellsFrom]
 | cons v vs ih =>
  intro i acc h;have h0:=h 0 v aR;simp only[Lq]at h0;simp only[Ln,loadCellsFrom,Sem.run_bind,dY,run_load,h0,Result.andThen_ok];rw[ih (i+1) (acc.push v) (fun j u hj=>by have:=h (j+1) u H9;rw[<- this];congr 2;omega)];simp
theorem fQ{P:Program}{w:World}(b o:Nat)(vs:List Value)(h:∀ j v,vs[j]?=some v->w.cell? ⟨b,o+j,none⟩=some v) :
  (loadCells ⟨b,o,none⟩ vs.length).run P w = .ok vs.toArray w:=by
 have:=rZ (P:=P) (w:=w) b o vs 0 #[] uz;simpa[loadCells] using this
theorem oo{P:Program}{w:World}{t S B:Nat}{ag:Bool}{z:D}(hT:TOk P t ag S B z)(b o:Nat)(vs:List Value)(hl:vs.length=S)(h1:ag=false->S=1)
  (h:∀ j v,vs[j]?=some v->w.cell? ⟨b,o+j,none⟩=some v) :
  (loadVar t ⟨b,o,none⟩).run P w = .ok (if ag then .agg vs.toArray else vs.getD 0 undef) w:=by
 cases ag with
 | true =>
  simp only[loadVar,Sem.run_bind,hT.isAgg,Result.andThen_ok,if_true,EOk.size hT.1];rw[<- hl,fQ b o vs h];simp
 | false =>
  have hs:=h1 rfl;obtain⟨v,rfl⟩:∃ v,vs=[v]:=by
   match vs,hl.trans hs with
   | [v],_=>exact⟨v,rfl⟩
  have:=h 0 v aR;simp only[Lq]at this;simp[loadVar,hT.isAgg,this]
theorem lN{α:Type}(R:α->Value->Prop)(l:List α)(f:Nat->Option Value)(h:∀ j a,l[j]?=some a->∃ v,f j=some v/\R a v) :
  ∃ vs:List Value,vs.length=l.length/\(∀ j v,vs[j]?=some v->f j=some v)/\(∀ j a,l[j]?=some a->R a (vs.getD j undef)):=by
 induction l generalizing f with
 | nil=>exact⟨[],rfl,fun j v h=>by simp at h,fun j a h=>by simp at h⟩
 | cons a l ih =>
  obtain⟨v,h1,h2⟩:=h 0 a aR;obtain⟨vs,g1,g2,g3⟩:=ih (fun j=>f (j+1)) (fun j b hb=>h (j+1) b (by simpa using hb));refine⟨v::vs,by simp[g1],?_,?_⟩
  ·intro j u hj;cases j with
   | zero=>simp at hj;subst hj;exact h1
   | succ j=>exact g2 j u H9
  ·intro j b hb;cases j with
   | zero=>simp at hb;subst hb;simpa using h2
   | succ j=>have:=g3 j b (by simpa using hb);simpa using this
def mh:List AV->Option (List D)
 | []=>some []
 | .d x::r=>match mh r with
  | some l=>some (x::l)
  | none=>none
 | _::_=>none
def zl(l:List AV):AV:=match mh l with
 | some ds=>.d (.agg ds)
 | none=>.agg l
theorem fu:∀(l:List AV) (ds:List D),mh l=some ds->l=ds.map .d
 | [],ds,h=>by simp[mh]at h;subst h;rfl
 | .d x::r,ds,h=>by
  simp only[mh]at h;split at h
  ·rename_i l hl;simp at h;subst h;simp[fu r l hl]
  ·cases h
 | .top::_,_,h=>by simp[mh]at h
 | .ptr .. :: _,_,h=>by simp[mh]at h
 | .sl .. :: _,_,h=>by simp[mh]at h
 | .map .. :: _,_,h=>by simp[mh]at h
 | .fn .. :: _,_,h=>by simp[mh]at h
 | .agg .. :: _,_,h=>by simp[mh]at h
 | .tup .. :: _,_,h=>by simp[mh]at h
theorem bZ{C:Ctx}{x:D}{v:Value}(h:O9 C (.d x) v):P1 C.w C.RO x v:=by cases h with|d _ _ h=>exact h
theorem ts{C:Ctx}{l:List AV}{cs:Array Value}(hs:cs.size=l.length)(h:∀ i d,l[i]?=some d->O9 C d (cs.getD i undef)):O9 C (zl l) (.agg cs):=by
 unfold zl;split
 ·rename_i ds hd;have:=fu l ds hd;subst this;refine .d _ _ (.agg _ _ (by simpa using hs) fun i d hi=>bZ (h i (.d d) (by simp[hi])))
 ·exact .agg l cs hs h
def iG(ag:Bool)(l:List AV):AV:=if ag then zl l else l.headD .top
theorem nZ{C:Ctx}{ag:Bool}{l:List AV}{vs:List Value}(hl:vs.length=l.length)(h:∀ i d,l[i]?=some d->O9 C d (vs.getD i undef)) :
  O9 C (iG ag l) (if ag then .agg vs.toArray else vs.getD 0 undef):=by
 cases ag with
 | true=>exact ts yu (fun i d hi=>by have:=h i d hi;rw[jI]at this;simpa[JT] using this)
 | false =>
  cases l with
  | nil=>exact .top _
  | cons a l=>simpa[iG] using h 0 a aR
variable{G:Nat->Option (List D)}{P:Program}{st:St}{o:Oper}
theorem oQ{C:Ctx}{nm sz k:Nat}{els:List (List AV)}(hb:iL C nm (.arr sz els))(hk:C.β nm=some k){idx:Nat}{el:List AV}(he:els[idx]?=some el) :
  el.length=sz /\ ∀ j v,el[j]?=some v->∃ x,C.w.cell? ⟨k,idx*sz+j,none⟩=some x/\O9 C v x:=by
 rcases hb with⟨h1,_⟩|⟨k',cs,e,h1,h2,h3,h4,h5,h6⟩
 ·rw[h1]at hk;cases hk
 ·rw[h1]at hk;cases hk;refine⟨h5 el (ye he),fun j v hv=>?_⟩;obtain⟨x,g1,g2⟩:=h6 idx j el v he hv;exact⟨x,by simp[World.cell?,h2,g1],g2⟩
theorem jg{C:Ctx}{nm sz idx off:Nat}{x:Value}(h:O9 C (.ptr nm sz idx off) x):∃ k,C.U nm/\C.β nm=some k/\x = .pointer (some ⟨k,idx*sz+off,none⟩):=by
 cases h with|ptr _ _ _ _ k hU hb=>exact⟨k,hU,hb,rfl⟩
theorem EY{C:Ctx}{cs:List D}{off:Nat}{x:Value}(h:O9 C (.d (.rop cs off)) x) :
  ∃ b o,C.RO b/\x = .pointer (some ⟨b,o+off,none⟩) /\ ∀ j d,cs[j]?=some d->∃ v,C.w.cell? ⟨b,o+j,none⟩=some v/\P1 C.w C.RO d v:=by
 have h:=bZ h;cases h with|rop _ _ b o vs hro hm hr=>exact⟨b,o,hro,rfl,fun j d hj=>⟨vs j,hm j d hj,hr j d hj⟩⟩
theorem EW{C:Ctx}{l:List AV}{x:Value}(h:O9 C (.agg l) x):∃ cs,x = .agg cs/\cs.size=l.length /\ ∀ i d,l[i]?=some d->O9 C d (cs.getD i undef):=by
 cases h with|agg _ cs hs h=>exact⟨cs,rfl,hs,h⟩
theorem zE{C:Ctx}{l:List D}{x:Value}(h:O9 C (.d (.agg l)) x):∃ cs,x = .agg cs/\cs.size=l.length /\ ∀ i d,l[i]?=some d->P1 C.w C.RO d (cs.getD i undef):=by
 have h:=bZ h;cases h with|agg _ cs hs g=>exact⟨cs,rfl,hs,g⟩
theorem QC{C:Ctx}{l:List AV}{x:Value}(h:O9 C (.tup l) x):∃ cs,x = .tuple cs/\cs.size=l.length /\ ∀ i d,l[i]?=some d->O9 C d (cs.getD i undef):=by
 cases h with|tup _ cs hs h=>exact⟨cs,rfl,hs,h⟩
theorem Ll{C:Ctx}{l:List D}{x:Value}(h:O9 C (.d (.tup l)) x):∃ cs,x = .tuple cs/\cs.size=l.length /\ ∀ i d,l[i]?=some d->P1 C.w C.RO d (cs.getD i undef):=by
 have h:=bZ h;cases h with|tup _ cs hs g=>exact⟨cs,rfl,hs,g⟩
theorem iK{α:Type}{el l:List α}{off S j:Nat}{v:α}(hl:(el.drop off).take S=l)(hv:l[j]?=some v):el[off+j]?=some v:=by
 rw[<- hl]at hv;rw[Fb]at hv;split at hv
 ·simpa using hv
 ·cases hv
theorem iz{t S B:Nat}{ag:Bool}{z:D}{x:Operand}{nm sz idx off:Nat}{els:List (List AV)}{el l:List AV}(ho:o.op = .load t x)(hT:TOk P t ag S B z)(hS:ag=false->S=1)
  (hx:st.ev G x = .ptr nm sz idx off) (hH:st.heap.get nm=some (.arr sz els)) (he:els[idx]?=some el) (hl:(el.drop off).take S=l) (hlen:l.length=S):PureOp G P st o (iG ag l):=by
 intro C a hR h;obtain⟨k,hU,hb,hxv⟩:=jg (hx ▸ h x fI);obtain⟨_,hB⟩:=hR.blk nm _ hH;obtain⟨_,hc⟩:=oQ hB hb he;obtain⟨vs,g1,g2,g3⟩:=lN (O9 C) l (fun j=>C.w.cell? ⟨k,idx*sz+off+j,none⟩) (fun j v hv=>by
  obtain⟨y,q1,q2⟩:=hc _ v (iK hl hv);exact⟨y,by rw[<- q1];congr 2;omega,q2⟩)
 refine⟨if ag then .agg vs.toArray else vs.getD 0 undef,?_,nZ g1 g3⟩;simp only[execOp,ho,Instr.loadAt,hxv];simp[Instr.sureAddr,oo hT k (idx*sz+off) vs (g1.trans hlen) hS g2]
def xd(ag:Bool)(l:List D):D:=if ag then .agg l else l.headD (.bool false)
theorem rN{t S B:Nat}{ag:Bool}{z:D}{x:Operand}{cs:List D}{off:Nat}{l:List D}(ho:o.op = .load t x)(hT:TOk P t ag S B z)(hS:ag=false->S=1)
  (hx:st.ev G x = .d (.rop cs off)) (hl:(cs.drop off).take S=l) (hlen:l.length=S):PureOp G P st o (.d (xd ag l)):=by
 intro C a hR h;obtain⟨b,o',hro,hxv,hc⟩:=EY (hx ▸ h x fI);obtain⟨vs,g1,g2,g3⟩:=lN (P1 C.w C.RO) l (fun j=>C.w.cell? ⟨b,o'+off+j,none⟩) (fun j v hv=>by
  obtain⟨y,q1,q2⟩:=hc _ v (iK hl hv);exact⟨y,by rw[<- q1];congr 2;omega,q2⟩)
 refine⟨if ag then .agg vs.toArray else vs.getD 0 undef,?_,.d _ _ ?_⟩
 ·simp only[execOp,ho,Instr.loadAt,hxv];simp[Instr.sureAddr,oo hT b (o'+off) vs (g1.trans hlen) hS g2]
 ·cases ag with
  | true=>exact .agg _ _ (by simpa using g1) (fun i d hi=>by have:=g3 i d hi;rw[jI]at this;simpa[JT] using this)
  | false =>
   match l,hS rfl,hlen with
   | [d],_,_=>simpa[xd] using g3 0 d aR
theorem kK{x:Operand}{nm sz idx off:Nat}(ho:o.op = .nilCheck x)(hx:st.ev G x = .ptr nm sz idx off):PureOp G P st o (.ptr nm sz idx off):=by
 intro C a hR h;have h0:=hx ▸ h x fI;obtain⟨k,hU,hb,hxv⟩:=jg h0;exact⟨_,by simp only[execOp,ho,hxv];rfl,hxv ▸ h0⟩
theorem rO{x:Operand}{cs:List D}{off:Nat}(ho:o.op = .nilCheck x)(hx:st.ev G x = .d (.rop cs off)):PureOp G P st o (.d (.rop cs off)):=by
 intro C a hR h;have h0:=hx ▸ h x fI;obtain⟨b,o',hro,hxv,hc⟩:=EY h0;exact⟨_,by simp only[execOp,ho,hxv];rfl,hxv ▸ h0⟩
theorem km{s f off0 S:Nat}{ag:Bool}{x:Operand}{nm sz idx off:Nat}(ho:o.op = .fieldAddr s x f)(hT:Re P s f off0 ag S)(hx:st.ev G x = .ptr nm sz idx off) :
  PureOp G P st o (.ptr nm sz idx (off+off0)):=by
 intro C a hR h;obtain⟨k,hU,hb,hxv⟩:=jg (hx ▸ h x fI);obtain⟨fs,fd,B,z,h1,h2,h3,h4,h5⟩:=hT;refine⟨_,?_,.ptr nm sz idx (off+off0) k hU hb⟩;simp only[execOp,ho,Instr.fieldAt,hxv];simp[run_underlying h1,h2,Instr.sureAddr,fieldPlace,EOk.size h5.1,Nat.ne_of_gt h4,dY,h3,Wa]
theorem rM{s f off0 S:Nat}{ag:Bool}{x:Operand}{cs:List D}{off:Nat}(ho:o.op = .fieldAddr s x f)(hT:Re P s f off0 ag S)(hx:st.ev G x = .d (.rop cs off)) :
  PureOp G P st o (.d (.rop cs (off+off0))):=by
 intro C a hR h;have h0:=bZ (hx ▸ h x fI);obtain⟨fs,fd,B,z,h1,h2,h3,h4,h5⟩:=hT;generalize hxv:a.eval x=xv at h0;cases h0 with
 | rop _ _ b o' vs hro hm hr =>
  refine⟨_,?_,.d _ _ (.rop cs (off+off0) b o' vs hro hm hr)⟩;simp only[execOp,ho,Instr.fieldAt,hxv];simp[run_underlying h1,h2,Instr.sureAddr,fieldPlace,EOk.size h5.1,Nat.ne_of_gt h4,dY,h3,Wa]
def AV.cells:AV->List AV
 | .agg l=>l
 | .d (.agg l)=>l.map .d
 | v=>[v]
theorem ij(cs:Array Value)(off S j:Nat)(h:j<S)(hs:off+S<=cs.size):((cs.extract off (off+S)).toList.getD j undef)=cs.getD (off+j) undef:=by
 simp[jI,JT,Fb,h]
theorem DQ{C:Ctx}{t S B:Nat}{ag:Bool}{z:D}(hT:TOk P t ag S B z)(hS:ag=false->S=1){L l:List AV}{cs:Array Value}{off:Nat}(hs:cs.size=L.length)
  (h:∀ i d,L[i]?=some d->O9 C d (cs.getD i undef)) (hl:(L.drop off).take S=l) (hlen:l.length=S) (hpos:0<S) :
  ∃ x,(part t cs off).run P C.w = .ok x C.w/\O9 C (iG ag l) x:=by
 have hsz:off+S<=cs.size:=by
  rw[hs];rw[<- hl]at hlen;simp at hlen;omega
 have key:∀ i d,l[i]?=some d->O9 C d ((cs.extract off (off+S)).toList.getD i undef):=fun i d hi=>by
  have hi':i<S:=by have:=(nt.1 hi).1;omega
  rw[ij _ _ _ _ hi' hsz];exact h _ d (iK hl hi)
 have hl2:(cs.extract off (off+S)).toList.length=l.length:=fF;have:=nZ (ag:=ag) hl2 key;cases ag with
 | true =>
  refine⟨.agg (cs.extract off (off+S)),by simp[part,hT.isAgg,EOk.size hT.1],?_⟩;rw[if_pos rfl]at this;exact this
 | false =>
  have h1:=hS rfl;subst h1;have hlt:off<cs.size:=qad;refine⟨cs.getD off undef,by simp[part,hT.isAgg,hlt,Array.getD],?_⟩;simp only[QZ,if_false]at this;rw[ij _ _ _ _ qad hsz]at this;simpa using this
theorem yJ{C:Ctx}{v:AV}{x:Value}{L:List AV}(hv:v = .agg L \/ ∃ l,v = .d (.agg l)/\L=l.map .d)(h:O9 C v x) :
  ∃ cs,x = .agg cs/\cs.size=L.length /\ ∀ i d,L[i]?=some d->O9 C d (cs.getD i undef):=by
 rcases hv with rfl|⟨l,rfl,rfl⟩
 ·exact EW h
 ·obtain⟨cs,h1,h2,h3⟩:=zE h;refine⟨cs,h1,by simpa using h2,fun i d hi=>?_⟩;simp only[mV,tT]at hi;obtain⟨y,hy,rfl⟩:=hi;exact .d _ _ (h3 i y hy)
def tm:AV->Bool
 | .agg _=>true
 | .d (.agg _)=>true
 | _=>false
theorem ur{v:AV}(h:tm v=true):v = .agg v.cells \/ ∃ l,v = .d (.agg l)/\v.cells=l.map .d:=by
 unfold tm at h;split at h
 ·exact .inl rfl
 ·exact .inr ⟨_,rfl,rfl⟩
 ·cases h
theorem GC{s f off0 S:Nat}{ag:Bool}{x:Operand}{v:AV}{l:List AV}(ho:o.op = .field s x f)(hT:Re P s f off0 ag S)(hx:st.ev G x=v)(hv:tm v=true)
  (hl:(v.cells.drop off0).take S=l) (hlen:l.length=S) (hS:ag=false->S=1):PureOp G P st o (iG ag l):=by
 intro C a hR h;obtain⟨cs,g1,g2,g3⟩:=yJ (ur hv) (hx ▸ h x fI);obtain⟨fs,fd,B,z,h1,h2,h3,h4,h5⟩:=hT;obtain⟨y,q1,q2⟩:=DQ (C:=C) h5 hS g2 g3 hl hlen h4;refine⟨y,?_,q2⟩;simp only[execOp,ho,Instr.field,g1];simp[run_underlying h1,h2,asAgg,h3,q1]
theorem Bk{x:Operand}{l:List AV}{i:Nat}{v:AV}(ho:o.op = .extract x i)(hx:st.ev G x = .tup l)(hv:l[i]?=some v):PureOp G P st o v:=by
 intro C a hR h;obtain⟨cs,g1,g2,g3⟩:=QC (hx ▸ h x fI);have hi:i<cs.size:=qgq;refine⟨cs.getD i undef,?_,g3 i v hv⟩;simp[execOp,ho,Instr.extract,g1,hi,Array.getD]
theorem kl{x:Operand}{l:List D}{i:Nat}{v:D}(ho:o.op = .extract x i)(hx:st.ev G x = .d (.tup l))(hv:l[i]?=some v):PureOp G P st o (.d v):=by
 intro C a hR h;obtain⟨cs,g1,g2,g3⟩:=Ll (hx ▸ h x fI);have hi:i<cs.size:=qgq;refine⟨cs.getD i undef,?_,.d _ _ (g3 i v hv)⟩;simp[execOp,ho,Instr.extract,g1,hi,Array.getD]
end Go.AL
namespace Go.AL
open Go
variable{G:Nat->Option (List D)}{P:Program}{st:St}{o:Oper}
theorem fS{C:Ctx}{nm sz lo len room:Nat}{t:Bool}{x:Value}(h:O9 C (.sl nm sz lo len room t) x) :
  (∃ k c cs e fz,C.U nm/\C.β nm=some k/\len<=c/\room<=c/\(t=true->c=room)/\C.w.heap[k]?=some (.cells cs e fz)/\(lo+c)*sz<=cs.size/\x = .slice (some ⟨k,lo*sz,none⟩) len c) ∨
  (C.U nm/\len=0/\room=0 /\ ∃ a,x = .slice a 0 0):=by
 cases h with
 | sl _ _ _ _ _ _ k c cs e fz hU hb hl hr ht hh hs=>exact .inl ⟨k,c,cs,e,fz,hU,hb,hl,hr,ht,hh,hs,rfl⟩
 | sl0 _ _ _ _ a hU=>exact .inr ⟨hU,rfl,rfl,a,rfl⟩
theorem xp{t e S B:Nat}{z:D}{x y:Operand}{nm sz lo len room:Nat}{tg:Bool}{ki:IntKind}{i:Int}(ho:o.op = .indexAddr t x y)(hT:cH P t e S B z)(hx:st.ev G x = .sl nm sz lo len room tg)
  (hy:st.ev G y = .d (.int ki i)) (hsz:sz=S) (h0:0<=i) (h1:i<len):PureOp G P st o (.ptr nm sz (lo+i.toNat) 0):=by
 intro C a hR h;have hi:=br (hy ▸ h y fI);rcases fS (hx ▸ h x fI) with⟨k,c,cs,e',fz,hU,hb,hl,hr,ht,hh,hs,hxv⟩|⟨_,hl,_,a,_⟩
 ·subst hsz;have e1:lo*sz+i.toNat*sz=(lo+i.toNat)*sz+0:=by rw[QH];rfl
  refine⟨_,?_,.ptr nm sz (lo+i.toNat) 0 k hU hb⟩;simp only[execOp,ho,Instr.indexAt,hxv,hi];simp[asIntOf,run_underlying hT.1,h0,h1,EOk.size hT.2,dY,QH]
 ·exact qad
theorem kJ{t e S B:Nat}{z:D}{x y:Operand}{es:List (List D)}{tg:Bool}{ki:IntKind}{i:Int}{cs:List D}(ho:o.op = .indexAddr t x y)(hT:cH P t e S B z)(hx:st.ev G x = .d (.sl es tg))
  (hy:st.ev G y = .d (.int ki i)) (h0:0<=i) (he:es[i.toNat]?=some cs) (hl:cs.length=S):PureOp G P st o (.d (.rop cs 0)):=by
 intro C a hR h;have hi:=br (hy ▸ h y fI);have hxr:=bZ (hx ▸ h x fI);have hlt:=(nt.1 he).1;have h1:i<es.length:=qad;generalize hxv:a.eval x=xv at hxr;cases hxr with
 | sl0 _ _ _ _=>simp at hlt
 | sl _ _ b o' c sz vs hro hc ht hsz hm hr =>
  have hsz':sz=S:=by rw[<- hsz cs (ye he)];exact hl
  subst hsz';refine⟨.pointer (some ⟨b,(o'+i.toNat*sz)+0,none⟩),?_,.d _ _ (.rop cs 0 b (o'+i.toNat*sz) (vs i.toNat) hro (fun j d hj=>hm _ j cs d he hj) (fun j d hj=>hr _ j cs d he hj))⟩;simp only[execOp,ho,Instr.indexAt,hxv,hi];simp[asIntOf,run_underlying hT.1,h0,h1,EOk.size hT.2,dY]
theorem fX{t n e S B:Nat}{ag:Bool}{z:D}{x y:Operand}{nm sz idx off:Nat}{ki:IntKind}{i:Int}(ho:o.op = .indexAddr t x y)(hT:Kb P t n e ag S B z)(hx:st.ev G x = .ptr nm sz idx off)
  (hy:st.ev G y = .d (.int ki i)) (h0:0<=i) (h1:i<n):PureOp G P st o (.ptr nm sz idx (off+i.toNat*S)):=by
 intro C a hR h;have hi:=br (hy ▸ h y fI);obtain⟨k,hU,hb,hxv⟩:=jg (hx ▸ h x fI);refine⟨_,?_,.ptr nm sz idx (off+i.toNat*S) k hU hb⟩;simp only[execOp,ho,Instr.indexAt,hxv,hi];simp[asIntOf,run_underlying hT.1,h0,h1,EOk.size hT.2.1,dY,Instr.sureAddr,Wa]
theorem nq{t n e S B:Nat}{ag:Bool}{z:D}{x y:Operand}{cs:List D}{off:Nat}{ki:IntKind}{i:Int}(ho:o.op = .indexAddr t x y)(hT:Kb P t n e ag S B z)(hx:st.ev G x = .d (.rop cs off))
  (hy:st.ev G y = .d (.int ki i)) (h0:0<=i) (h1:i<n):PureOp G P st o (.d (.rop cs (off+i.toNat*S))):=by
 intro C a hR h;have hi:=br (hy ▸ h y fI);have hxr:=bZ (hx ▸ h x fI);generalize hxv:a.eval x=xv at hxr;cases hxr with
 | rop _ _ b o' vs hro hm hr =>
  refine⟨_,?_,.d _ _ (.rop cs (off+i.toNat*S) b o' vs hro hm hr)⟩;simp only[execOp,ho,Instr.indexAt,hxv,hi];simp[asIntOf,run_underlying hT.1,h0,h1,EOk.size hT.2.1,dY,Instr.sureAddr,Wa]
theorem xq{t n e S B:Nat}{ag:Bool}{z:D}{x y:Operand}{v:AV}{l:List AV}{ki:IntKind}{i:Int}(ho:o.op = .index t x y)(hT:Kb P t n e ag S B z)(hx:st.ev G x=v)(hv:tm v=true)
  (hy:st.ev G y = .d (.int ki i)) (h0:0<=i) (h1:i<n) (hl:(v.cells.drop (i.toNat*S)).take S=l) (hlen:l.length=S) (hS:ag=false->S=1) (hpos:0<S):PureOp G P st o (iG ag l):=by
 intro C a hR h;have hi:=br (hy ▸ h y fI);obtain⟨cs,g1,g2,g3⟩:=yJ (ur hv) (hx ▸ h x fI);obtain⟨y',q1,q2⟩:=DQ (C:=C) hT.2 hS g2 g3 hl hlen hpos;refine⟨y',?_,q2⟩;simp only[execOp,ho,Instr.index,g1,hi];simp[asIntOf,run_underlying hT.1,h0,h1,EOk.size hT.2.1,q1]
def Fz(G:Nat->Option (List D))(st:St)(x:Option Operand)(d n:Nat):Prop :=
 match x with
 | none=>n=d
 | some y=>∃ k i,st.ev G y = .d (.int k i)/\0<=i/\i.toNat=n
theorem dA{C:Ctx}{k:IntKind}{i:Int}{y:Nat}{code:BoundsCode}(h0:0<=i)(h1:i<=y):(Instr.sliceBound (.int k i) y code).run P C.w = .ok i.toNat C.w:=by
 simp[Instr.sliceBound,asIntOf,h0,h1]
theorem GD{t e S B:Nat}{z:D}{x:Operand}{lo' hi':Option Operand}{nm sz lo len room l h:Nat}{tg:Bool}(ho:o.op = .slice t x lo' hi' none)(hT:cH P t e S B z)(hx:st.ev G x = .sl nm sz lo len room tg)(hsz:sz=S)
  (hl:Fz G st lo' 0 l) (hh:Fz G st hi' len h) (h1:l<=h) (h2:h<=max len room) (h3:l<=room):PureOp G P st o (.sl nm sz (lo+l) (h-l) (room-l) tg):=by
 intro C a hR hop;have hxr:=fS (hx ▸ hop x fI);have key:∀ c,len<=c->room<=c->(Instr.sliceBounds true len c (lo'.map a.eval) (hi'.map a.eval) none).run P C.w = .ok (l,h,c) C.w:=by
  intro c hc1 hc2;have hhc:h<=c:=qad;have b2:((match hi'.map a.eval with
   | some v=>Instr.sliceBound v c (if true=true then .sliceAcap else .sliceAlen)
   | none=>pure len):Sem Nat).run P C.w = .ok h C.w:=by
   cases hi' with
   | none=>simp only[Fz]at hh;subst hh;rfl
   | some y =>
    obtain⟨k,i,e1,e2,e3⟩:=hh;have:=br (e1 ▸ hop y fI);simp only[LP,this];rw[dA e2 qad,e3]
  have b3:((match lo'.map a.eval with
   | some v=>Instr.sliceBound v h .sliceB
   | none=>pure 0):Sem Nat).run P C.w = .ok l C.w:=by
   cases lo' with
   | none=>simp only[Fz]at hl;subst hl;rfl
   | some y =>
    obtain⟨k,i,e1,e2,e3⟩:=hl;have:=br (e1 ▸ hop y fI);simp only[LP,this];rw[dA e2 qad,e3]
  simp only[Instr.sliceBounds];cases hi'<;>cases lo'<;>simp_all
 rcases hxr with⟨k,c,cs,e',fz,hU,hb,hl1,hr,ht,hheap,hs,hxv⟩|⟨hU,hlen,hroom,ad,hxv⟩
 ·subst hsz;have hk:=key c hl1 hr;refine⟨.slice (if c=l then some ⟨k,lo*sz,none⟩ else some ⟨k,lo*sz+l*sz,none⟩) (h-l) (c-l),?_,?_⟩
  ·exact qjg
  ·by_cases hcl:c=l
   ·have e1:h-l=0:=by omega
    have e2:room-l=0:=qad;have e3:c-l=0:=qad;rw[if_pos hcl,e1,e2,e3];exact .sl0 nm sz (lo+l) tg _ hU
   ·rw[if_neg hcl,<- QH];refine .sl nm sz (lo+l) (h-l) (room-l) tg k (c-l) cs e' fz hU hb qad qad (fun q=>by have:=ht q;omega) hheap ?_;have:lo+l+(c-l)=lo+c:=qad;rw[this];exact hs
 ·have hk:=key 0 qad qad;have e0:l=0:=qad;have e1:h=0:=qad;subst e0 e1 hlen hroom;refine⟨.slice ad 0 0,?_,.sl0 nm sz _ tg _ hU⟩;simp only[execOp,ho,Instr.sliceAt,Instr.slice,hxv];simp[run_underlying hT.1,hk,EOk.size hT.2]
theorem Pi{x:Operand}{t e S B:Nat}{z:D}{tys:Array TypeId}{nm sz lo len room:Nat}{tg:Bool}(ho:o.op = .call { callee:=.builtin .len,args:=#[x],argTypes:=tys })(ht:tys[0]?=some t)(hT:cH P t e S B z)(hx:st.ev G x = .sl nm sz lo len room tg) :
  PureOp G P st o (.d (.int .i64 len)):=by
 intro C a hR hop;have hxr:=fS (hx ▸ hop x Pu);obtain⟨ad,c,hxv⟩:∃ ad c,a.eval x = .slice ad len c:=by
  rcases hxr with⟨k,c,cs,e',fz,hU,hb,hl1,hr,ht,hheap,hs,hxv⟩|⟨hU,hlen,hroom,ad,hxv⟩
  ·exact⟨_,c,hxv⟩
  ·exact⟨ad,0,hlen ▸ hxv⟩
 refine⟨_,?_,fw _ _⟩;simp only[execOp,ho,resolve,invoke,builtin,Builtin.len_];simp[ht,hxv,run_underlying hT.1,goInt]
theorem vj{w:World}{RO:Nat->Prop}{es:List (List D)}{t:Bool}{x:Value}(h:P1 w RO (.sl es t) x):∃ a c,x = .slice a es.length c/\es.length<=c/\(t=true->c=es.length):=by
 cases h with
 | sl0 _ a c ht=>exact⟨a,c,rfl,by simp,ht⟩
 | sl _ _ b o c sz vs hro hc ht hsz hm hr=>exact⟨_,c,rfl,hc,ht⟩
theorem Eh{x:Operand}{t e S B:Nat}{z:D}{tys:Array TypeId}{es:List (List D)}{tg:Bool}(ho:o.op = .call { callee:=.builtin .len,args:=#[x],argTypes:=tys })(ht:tys[0]?=some t)(hT:cH P t e S B z)(hx:st.ev G x = .d (.sl es tg)) :
  PureOp G P st o (.d (.int .i64 es.length)):=by
 intro C a hR hop;obtain⟨ad,c,hxv,_⟩:=vj (bZ (hx ▸ hop x Pu));refine⟨_,?_,fw _ _⟩;simp only[execOp,ho,resolve,invoke,builtin,Builtin.len_];simp[ht,hxv,run_underlying hT.1,goInt]
theorem Bi{s d:Nat}{x:Operand}{k k':IntKind}{n:Int}{ds:TypeDesc}(ho:o.op = .convert s d x)(hs:P.underlying s=some ds)(hd:P.underlying d=some (.int k'))(hx:st.ev G x = .d (.int k n)):PureOp G P st o (.d (.int k' (k'.wrap n))):=by
 intro C a hR hop;have h1:=br (hx ▸ hop x fI);refine⟨_,?_,fw _ _⟩;simp only[execOp,ho,h1,convert];simp[run_underlying hs,run_underlying hd,Conv.intToInt]
end Go.AL
namespace Go.AL
open Go
variable{G:Nat->Option (List D)}{P:Program}{st:St}{o:Oper}
def AV.known:AV->Bool
 | .top=>false
 | .d (.opq (.agg _))=>false
 | .d .any=>false
 | _=>true
theorem io{C:Ctx}{v:AV}{x:Value}(hk:v.known=true)(h:O9 C v x):x.cells.size=v.cells.length /\ ∀ i d,v.cells[i]?=some d->O9 C d (x.cells.getD i undef):=by
 have one:∀(v:AV) (x:Value),x.cells = #[x]->v.cells=[v]->O9 C v x->x.cells.size=v.cells.length /\ ∀ i d,v.cells[i]?=some d->O9 C d (x.cells.getD i undef):=by
  intro v x h1 h2 h3;rw[h1,h2];refine⟨rfl,fun i d hi=>?_⟩;cases i with
  | zero=>simp at hi;subst hi;simpa using h3
  | succ i=>simp at hi
 cases h with
 | top _=>cases hk
 | ptr _ _ _ _ k hU hb=>exact one _ _ rfl rfl (.ptr _ _ _ _ k hU hb)
 | sl _ _ _ _ _ _ k c cs e fz hU hb hl hr ht hh hs=>exact one _ _ rfl rfl (.sl _ _ _ _ _ _ k c cs e fz hU hb hl hr ht hh hs)
 | sl0 _ _ _ _ a hU=>exact one _ _ rfl rfl (.sl0 _ _ _ _ a hU)
 | map _ k hU hb=>exact one _ _ rfl rfl (.map _ k hU hb)
 | yld _ k hU hb=>exact one _ _ rfl rfl (.yld _ k hU hb)
 | fn f first cap fi ca hf hc h1 h2=>exact one _ _ rfl rfl (.fn f first cap fi ca hf hc h1 h2)
 | agg l cs hs h=>exact⟨hs,h⟩
 | tup l cs hs h=>exact one _ _ rfl rfl (.tup l cs hs h)
 | d y _ h =>
  cases h with
  | agg l cs hs h =>
   refine⟨by simpa[AV.cells,Value.cells] using hs,fun i d hi=>?_⟩;simp only[AV.cells,mV,tT]at hi;obtain⟨y,hy,rfl⟩:=hi;exact .d _ _ (h i y hy)
  | opq _ =>
   cases x with
   | agg cs=>cases hk
   | _=>exact one _ _ rfl rfl (.d _ _ (.opq _))
  | any _=>cases hk
  | bool b=>exact one _ _ rfl rfl (.d _ _ (.bool b))
  | int k n=>exact one _ _ rfl rfl (.d _ _ (.int k n))
  | str s=>exact one _ _ rfl rfl (.d _ _ (.str s))
  | nilp=>exact one _ _ rfl rfl (.d _ _ .nilp)
  | nilf=>exact one _ _ rfl rfl (.d _ _ .nilf)
  | nilm=>exact one _ _ rfl rfl (.d _ _ .nilm)
  | sl0 t a c ht=>exact one _ _ rfl rfl (.d _ _ (.sl0 t a c ht))
  | sl es t b o c sz vs hro hc ht hsz hm hr=>exact one _ _ rfl rfl (.d _ _ (.sl es t b o c sz vs hro hc ht hsz hm hr))
  | rop cs off b o vs hro hm hr=>exact one _ _ rfl rfl (.d _ _ (.rop cs off b o vs hro hm hr))
  | fn f first cap fi ca hf hc h1 h2=>exact one _ _ rfl rfl (.d _ _ (.fn f first cap fi ca hf hc h1 h2))
  | tup l cs hs h=>exact one _ _ rfl rfl (.d _ _ (.tup l cs hs h))
def bU{α:Type}(l:List α)(off:Nat)(vs:List α):List α:=l.take off++vs++l.drop (off+vs.length)
theorem eu{α:Type}{l:List α}{off:Nat}{vs:List α}(h:off+vs.length<=l.length):(bU l off vs).length=l.length:=by
 simp[bU];omega
theorem fm{α:Type}{l:List α}{off:Nat}{vs:List α}(h:off+vs.length<=l.length)(i:Nat) :
  (bU l off vs)[i]?=if i<off then l[i]? else if i<off+vs.length then vs[i-off]? else l[i]?:=by
 unfold bU;by_cases h1:i<off
 ·rw[if_pos h1,List.append_assoc,VX fF,Fb,if_pos h1]
 ·rw[if_neg h1];by_cases h2:i<off+vs.length
  ·rw[if_pos h2,List.append_assoc,VV fF,VX fF];congr 1;simp;omega
  ·rw[if_neg h2,VV fF,List.getElem?_drop];congr 1;simp;omega
theorem Ks(off:Nat):∀(vs:List Value) (n:Nat) (cs:Array Value),off+n+vs.length<=cs.size ->
  ((vs.zipIdx n).foldl (fun cs p=>cs.setIfInBounds (off+p.2) p.1) cs).toList=bU cs.toList (off+n) vs:=by
 intro vs
 induction vs with
 | nil=>intro n cs h;simp[bU]
 | cons v vs ih =>
  intro n cs h;simp only[List.zipIdx_cons,VZ];rw[ih (n+1) _ (by simp at *;omega)];apply wea;intro i;simp only[Ln]at h;have hl:off+(n+1)+vs.length<=(cs.setIfInBounds (off+n) v).toList.length:=fF;have hl2:off+n+(v::vs).length<=cs.toList.length:=qge;rw[fm hl,fm hl2];simp only[Ln,Array.toList_setIfInBounds];by_cases h1:i<off+n
  ·rw[if_pos qad,if_pos h1,I9 qad]
  ·rw[if_neg h1];by_cases h2:i=off+n
   ·exact qjn
   ·rw[if_neg qad];by_cases h3:i<off+(n+1)+vs.length
    ·rw[if_pos h3,if_pos qad];have:i-(off+n)=(i-(off+(n+1)))+1:=qad;rw[this];simp
    ·rw[if_neg h3,if_neg qad,I9 qad]
def pI:List (Nat×Nat)->List AV->List (Nat×AV)->Option (List AV)
 | _,cells,[]=>some cells
 | pl,cells,(i,v)::r=>match pl[i]? with
  | some (off,S)=>if v.known=true/\v.cells.length=S/\off+S<=cells.length then pI pl (bU cells off v.cells) r else none
  | none=>none
theorem ra{C:Ctx}(place:Nat->Option (Nat×Nat))(pl:List (Nat×Nat))(hp:∀ i x,pl[i]?=some x->place i=some x):∀(parts:List (Nat×AV)) (ps:List (Nat×Value)) (cells l:List AV) (cs:Array Value),
  pI pl cells parts=some l->cs.size=cells.length->(∀ i d,cells[i]?=some d->O9 C d (cs.getD i undef))->ps.length=parts.length ->
  (∀(j i:Nat) (v:AV),parts[j]?=some (i,v)->∃ x:Value,ps[j]?=some (i,x)/\O9 C v x) ->
  ∃ cs',Instr.fill place cs ps=some cs'/\cs'.size=l.length /\ ∀ i d,l[i]?=some d->O9 C d (cs'.getD i undef)
 | [],[],cells,l,cs,h,hs,hr,_,_=>by
  simp[pI]at h;subst h;exact⟨cs,rfl,hs,hr⟩
 | (i,v)::parts,[],_,_,_,_,_,_,hl,_=>by simp at hl
 | [],p::ps,_,_,_,_,_,_,hl,_=>by simp at hl
 | (i,v)::parts,(i',x)::ps,cells,l,cs,h,hs,hr,hl,hrel=>by
  obtain⟨x',hx',hv⟩:=hrel 0 i v aR;simp at hx';obtain⟨rfl,rfl⟩:=hx';simp only[pI]at h;split at h
  ·rename_i off S hpl;split at h
   ·rename_i hc;obtain⟨h1,h2,h3⟩:=hc;obtain⟨q1,q2⟩:=io h1 hv;have hsize:off+x.cells.toList.length<=cs.size:=by simp[q1];omega
    have hfl:=Ks off x.cells.toList 0 cs (by simpa using hsize);have e1:(x.cells.zipIdx.foldl (fun cs p=>cs.setIfInBounds (off+p.2) p.1) cs)=((x.cells.toList.zipIdx 0).foldl (fun cs p=>cs.setIfInBounds (off+p.2) p.1) cs):=by
     rw[<- Array.foldl_toList];simp
    simp only[Instr.fill,hp i' _ hpl];rw[if_neg (by simp[q1,h2];omega)];have hlen2:off+v.cells.length<=cells.length:=qad;refine ra place pl hp parts ps _ l _ h ?_ ?_ yu (fun j i' v' hj=>by have:=hrel (j+1) i' v' H9;simpa using this)
    ·have:=congrArg List.length hfl;rw[eu (by simpa using hsize)]at this;rw[eu hlen2,e1];simpa[hs] using this
    ·intro k d hk;have hg:∀(A:Array Value) (L:List Value),A.toList=L->A.getD k undef=(L[k]?).getD undef:=by
      intro A L e;subst e;simp[JT]
     rw[e1,hg _ _ hfl,fm (by simpa using hsize)];simp only[Lq];rw[fm hlen2]at hk;have hlx:x.cells.toList.length=v.cells.length:=by simpa using q1
     rw[hlx];by_cases a1:k<off
     ·rw[if_pos a1]at hk⊢;have:=hr k d hk;simpa[JT] using this
     ·rw[if_neg a1]at hk⊢;by_cases a2:k<off+v.cells.length
      ·rw[if_pos a2]at hk⊢;have:=q2 _ d hk;simpa[JT] using this
      ·rw[if_neg a2]at hk⊢;have:=hr k d hk;simpa[JT] using this
   ·cases h
  ·cases h
def vI(P:Program)(t:TypeId)(zs:List D)(pl:List (Nat×Nat)):Prop :=
 (∃ ti zv,P.info? t=some ti/\ti.zero=some zv/\zv.cells.size=zs.length /\ ∀ w RO i d,zs[i]?=some d->P1 w RO d (zv.cells.getD i undef)) ∧
 ((∃ fs,P.underlying t=some (.struct fs) /\ ∀ w,(fs.mapM (fun f=>do pure (f.offset,<- sizeOf f.type):Field->Sem (Nat×Nat))).run P w = .ok pl.toArray w) ∨
 (∃ n e S B z,P.underlying t=some (.array n e)/\EOk P e S B z /\ ∀ i x,pl[i]?=some x->x=(i*S,S)))
theorem qn{t:TypeId}{ps:Array (Nat×Operand)}{zs:List D}{pl:List (Nat×Nat)}{l:List AV}(ho:o.op = .build t ps)(hT:vI P t zs pl)
  (hf:pI pl (zs.map .d) (ps.toList.map fun p=>(p.1,st.ev G p.2))=some l):PureOp G P st o (zl l):=by
 intro C a hR hop;obtain⟨⟨ti,zv,hi,hz,hzs,hzr⟩,hd⟩:=hT;have hz0:∀ i d,(zs.map AV.d)[i]?=some d->O9 C d (zv.cells.getD i undef):=by
  intro i d h;simp only[mV,tT]at h;obtain⟨y,hy,rfl⟩:=h;exact .d _ _ (hzr _ _ i y hy)
 have hparts:∀(j i:Nat) (v:AV),(ps.toList.map fun p=>(p.1,st.ev G p.2))[j]?=some (i,v)->∃ x:Value,(ps.map (fun p=>(p.1,a.eval p.2))).toList[j]?=some (i,x)/\O9 C v x:=by
  intro j i v h;simp only[mV,tT]at h;obtain⟨p,hp,h⟩:=h;simp only[Cl]at h;obtain⟨rfl,rfl⟩:=h;refine⟨a.eval p.2,by simp at hp;simp[hp],hop p.2 ?_⟩;simp only[ho,Op.operands];simp only[List.mem_toArray,bm];exact⟨p,ye hp,rfl⟩
 have hzero:(zeroValue t).run P C.w = .ok zv C.w:=by simp[zeroValue,bR hi,hz]
 rcases hd with⟨fs,hu,hm⟩|⟨n,e,S,B,z,hu,he,hpl⟩
 ·obtain⟨cs',g1,g2,g3⟩:=ra (C:=C) (fun i=>pl.toArray[i]?) pl (fun i x h=>by simpa using h) _ (ps.map (fun p=>(p.1,a.eval p.2))).toList _ l zv.cells hf (by simpa using hzs) hz0 aR hparts;refine⟨.agg cs',?_,ts g2 g3⟩;simp only[execOp,ho,Instr.build];simp only[Sem.run_bind,hzero,Result.andThen_ok,run_underlying hu,hm];have g1':Instr.fill (fun i=>pl.toArray[i]?) zv.cells (Array.map (fun x=>match x with|(i,x)=>(i,a.eval x)) ps).toList=some cs':=g1;simp at g1'⊢;simp[g1']
 ·obtain⟨cs',g1,g2,g3⟩:=ra (C:=C) (fun i=>some (i*S,S)) pl (fun i x h=>by rw[hpl i x h]) _ (ps.map (fun p=>(p.1,a.eval p.2))).toList _ l zv.cells hf (by simpa using hzs) hz0 aR hparts;refine⟨.agg cs',?_,ts g2 g3⟩;simp only[execOp,ho,Instr.build];simp only[Sem.run_bind,hzero,Result.andThen_ok,run_underlying hu,EOk.size he];have g1':Instr.fill (fun i=>some (i*S,S)) zv.cells (Array.map (fun x=>match x with|(i,x)=>(i,a.eval x)) ps).toList=some cs':=g1;simp at g1'⊢;simp[g1']
end Go.AL
namespace Go.AL
open Go
variable{G:Nat->Option (List D)}{P:Program}{st:St}{o:Oper}
def StepOp(G:Nat->Option (List D))(P:Program)(st:St)(o:Oper)(v:AV)(H':AHeap)(N:Nat->Prop):Prop :=
 ∀(C:Ctx) (a:Act),P0 G C st.heap->Opd G C st a o->(∀ n,N n->¬ C.U n) ->
  ∃(C':Ctx) (r:Next),(execOp a.eval o).run P C.w = .ok r C'.w/\((∃ x,r = .value x/\O9 C' v x)\/(r = .skip/\v = .top))/\P0 G C' H'/\Tr C.U C st.heap C' H' ∧
   (∀ n,C'.U n->C.U n\/N n)
theorem PureOp.step{v:AV}(h:PureOp G P st o v):StepOp G P st o v st.heap (fun _=>False):=by
 intro C a hH hop _;obtain⟨x,h1,h2⟩:=h C a hH hop;exact⟨C,.value x,h1,.inl ⟨x,rfl,h2⟩,hH,Tr.refl (fun _ h=>h),fun n h=>.inl h⟩
def Ctx.alloc(C:Ctx)(nm:Nat)(obj:Obj):Ctx :=
 { U:=fun n=>C.U n\/n=nm,β:=fun n=>if n=nm then some C.w.heap.size else C.β n,RO:=C.RO,w:=C.w.alloc obj }
theorem ao(nm:Nat)(b:Option Blk)(H:AHeap):AHeap.get ((nm,b)::H) nm=b:=by simp[AHeap.get]
theorem ai{nm n:Nat}(b:Option Blk)(H:AHeap)(h:n≠nm):AHeap.get ((nm,b)::H) n=AHeap.get H n:=by
 have:Nat.beq nm n=false:=by cases e:Nat.beq nm n with
  | true=>exact absurd (waf e).symm h
  | false=>rfl
 simp[AHeap.get,this]
theorem kT(w:World)(obj:Obj){k:Nat}(h:k<w.heap.size):(w.alloc obj).heap[k]?=w.heap[k]?:=Go.RowKit.Below.heap_alloc w obj k h
theorem eU(w:World)(obj:Obj):(w.alloc obj).heap[w.heap.size]?=some obj:=by
 show(w.heap.push obj)[w.heap.size]?=_;simp
theorem jE{w:World}{k:Nat}{o:Obj}(h:w.heap[k]?=some o):k<w.heap.size:=(BU.1 h).1
theorem gD{C:Ctx}{nm k:Nat}{b:Blk}(h:iL C nm b)(hk:C.β nm=some k):k<C.w.heap.size:=by
 cases b with
 | arr sz els =>
  rcases h with⟨h1,_⟩|⟨k',cs,e,h1,h2,_⟩
  ·rw[h1]at hk;cases hk
  ·rw[h1]at hk;cases hk;exact jE h2
 | map es =>
  obtain⟨k',en,cl,h1,h2,_⟩:=h;rw[h1]at hk;cases hk;exact jE h2
 | raw o =>
  obtain⟨k',h1,h2,_⟩:=h;rw[h1]at hk;cases hk;exact jE h2
 | lp env n ps assign body state pending dnm =>
  obtain⟨k',r,h1,h2,_⟩:=h;rw[h1]at hk;cases hk;exact jE h2
theorem lX{C:Ctx}{H:AHeap}{nm:Nat}(b:Option Blk)(obj:Obj)(hn:¬ C.U nm):Tr C.U C H (C.alloc nm obj) ((nm,b)::H) where
 os:=rfl
 tape:=rfl
 output:=rfl
 size:=H7
 shape k cs e fz h:=⟨cs,fz,(kT C.w obj (jE h)).trans h,rfl⟩
 frame k hk _:=kT C.w obj hk
 names n hU:=⟨.inl hU,by have e:n≠nm:=fun e=>hn (e ▸ hU);simp only[Ctx.alloc];rw[if_neg e]⟩
 ros k h:=h
 img n b' k hb he hk:=by
  by_cases e:n=nm
  ·subst e;simp[Ctx.alloc]at he;omega
  ·rw[ai _ _ e]at hb;simp only[Ctx.alloc,if_neg e]at he;exact⟨n,b',hb,he⟩
 rob _ h _:=.inl h
theorem bh{α:Type}{sz:Nat}:∀{ls:List (List α)},(∀ l,l∈ls->l.length=sz)->ls.flatten.length=ls.length*sz
 | [],_=>by simp
 | l::ls,h=>by
  rw[VS,LN,h l aR,bh (fun l hl=>h l H5),Ln,Lp];omega
theorem ir{α:Type}{sz:Nat}:∀{ls:List (List α)} {i j:Nat} {l:List α} {v:α},(∀ l,l∈ls->l.length=sz)->ls[i]?=some l->l[j]?=some v->ls.flatten[i*sz+j]?=some v
 | [],i,_,_,_,_,h,_=>by simp at h
 | l::ls,0,j,l',v,hs,h,hj=>by
  simp at h;subst h;rw[VS,Nat.zero_mul,jj,VX (nt.1 hj).1];exact hj
 | l::ls,i+1,j,l',v,hs,h,hj=>by
  have hl:=hs l aR;rw[VS,VV qf2,hl];have:(i+1)*sz+j-sz=i*sz+j:=qg8;rw[this];exact ir (fun l hl=>hs l H5) uz hj
theorem fV{α:Type}{sz:Nat}:∀{ls:List (List α)} {q:Nat} {v:α},(∀ l,l∈ls->l.length=sz)->ls.flatten[q]?=some v->∃(i j:Nat) (l:List α),ls[i]?=some l/\l[j]?=some v/\q=i*sz+j
 | [],q,v,_,h=>by simp at h
 | l::ls,q,v,hs,h=>by
  have hl:=hs l aR;by_cases hq:q<l.length
  ·rw[VS,VX hq]at h;exact⟨0,q,l,by simp,h,by simp⟩
  ·rw[VS,VV qad]at h;obtain⟨i,j,l',h1,h2,h3⟩:=fV (fun l hl=>hs l H5) h;exact⟨i+1,j,l',by simpa using h1,h2,by rw[Lp];omega⟩
theorem ui{C:Ctx}{nm k sz:Nat}{els:List (List AV)}{cs:Array Value}{e:TypeId}(hb:C.β nm=some k)(hh:C.w.heap[k]?=some (.cells cs e (0,0)))(hro:¬ C.RO k)
  (hs:∀ el,el∈els->el.length=sz) (h:∀(q:Nat) (v:AV),els.flatten[q]?=some v->∃ x:Value,cs[q]?=some x/\O9 C v x):iL C nm (.arr sz els):=by
 refine .inr ⟨k,cs,e,hb,hh,hro,?_,hs,fun i j el v h1 h2=>h _ v (ir hs h1 h2)⟩;rw[<- bh hs];rcases Nat.eq_zero_or_pos els.flatten.length with h0|h0
 ·exact qad
 ·obtain⟨x,h1,_⟩:=h (els.flatten.length-1) (els.flatten[els.flatten.length-1]'qad) (by rw[ew]);have:=(BU.1 h1).1;omega
theorem eD{C C':Ctx}{H H':AHeap}(hH:P0 G C H)(ht:Tr C.U C H C' H'){nm:Nat}{b:Blk}(hU:C.U nm)(hb:iL C nm b)(hsame:∀ k,C.β nm=some k->C'.w.heap[k]?=C.w.heap[k]? /\ ¬ C'.RO k):iL C' nm b:=by
 have hn:=(ht.names nm hU).2;cases b with
 | arr sz els =>
  rcases hb with⟨h1,h2⟩|⟨k,cs,e,h1,h2,h3,h4,h5,h6⟩
  ·exact .inl ⟨hn.trans h1,h2⟩
  ·obtain⟨g1,g2⟩:=hsame k h1;refine .inr ⟨k,cs,e,hn.trans h1,g1.trans h2,g2,h4,h5,fun i j el v a1 a2=>?_⟩;obtain⟨x,q1,q2⟩:=h6 i j el v a1 a2;exact⟨x,q1,q2.later ht hH⟩
 | map es =>
  obtain⟨k,ents,cl,h1,h2,h3,h4,h5⟩:=hb;obtain⟨g1,g2⟩:=hsame k h1;refine⟨k,ents,cl,hn.trans h1,g1.trans h2,g2,h4,fun i x y hxy=>?_⟩;obtain⟨en,q1,q2,q3⟩:=h5 i x y hxy;exact⟨en,q1,q2.later ht hH,q3.later ht hH⟩
 | raw o =>
  obtain⟨k,h1,h2,h3,h4⟩:=hb;obtain⟨g1,g2⟩:=hsame k h1;exact⟨k,hn.trans h1,g1.trans h2,g2,h4⟩
 | lp env n ps assign body state pending dnm =>
  obtain⟨k,r,h1,h2,h3,h4,h5,h6,h7,h8,h9,h10,h11,h12⟩:=hb;obtain⟨g1,g2⟩:=hsame k h1;exact⟨k,r,hn.trans h1,g1.trans h2,g2,h4,h5,h6,h7,h8,h9,fun t=>(h10 t).later ht hH,(ht.names dnm h11).1,(ht.names dnm h11).2.trans h12⟩
theorem mv{C:Ctx}{H:AHeap}(hH:P0 G C H){nm:Nat}{b:Blk}{obj:Obj}(hn:¬ C.U nm)(hb:iL (C.alloc nm obj) nm b):P0 G (C.alloc nm obj) ((nm,some b)::H) where
 blk n b' h:=by
  by_cases e:n=nm
  ·subst e;rw[ao]at h;cases h;exact⟨.inr rfl,hb⟩
  ·rw[ai _ _ e]at h;obtain⟨hU,hB⟩:=hH.blk n b' h;refine⟨.inl hU,eD hH (lX (some b) obj hn) hU hB fun k hk=>⟨kT _ _ (gD hB hk),fun hro=>?_⟩⟩;exact hH.ro_apart hro n b' h hk
 inj n n' b1 b2 k h1 h2 e1 e2:=by
  by_cases e:n=nm
  ·by_cases e':n'=nm
   ·rw[e,e']
   ·rw[ai _ _ e']at h2;simp only[Ctx.alloc,if_neg e']at e2;simp only[Ctx.alloc,if_pos e]at e1;have:=gD (hH.blk n' b2 h2).2 e2;cases e1;omega
  ·by_cases e':n'=nm
   ·rw[ai _ _ e]at h1;simp only[Ctx.alloc,if_neg e]at e1;simp only[Ctx.alloc,if_pos e']at e2;have:=gD (hH.blk n b1 h1).2 e1;cases e2;omega
   ·rw[ai _ _ e]at h1;rw[ai _ _ e']at h2;simp only[Ctx.alloc,if_neg e]at e1;simp only[Ctx.alloc,if_neg e']at e2;exact hH.inj n n' b1 b2 k h1 h2 e1 e2
 ro k hk:=by have:=hH.ro k hk;simp[Ctx.alloc];omega
 glob g ds hg:=(hH.glob g ds hg).later (lX (some b) obj hn) hH
end Go.AL
namespace Go.AL
open Go
variable{G:Nat->Option (List D)}{P:Program}{st:St}{o:Oper}
theorem Ol{C:Ctx}{H:AHeap}(hH:P0 G C H){nm sz:Nat}{els:List (List AV)}{cs:Array Value}{e:TypeId}(hn:¬ C.U nm)(hs:∀ el,el∈els->el.length=sz)
  (h:∀(q:Nat) (v:AV),els.flatten[q]?=some v->∃ x:Value,cs[q]?=some x/\O9 C v x) :
  P0 G (C.alloc nm (.cells cs e)) ((nm,some (.arr sz els))::H)/\Tr C.U C H (C.alloc nm (.cells cs e)) ((nm,some (.arr sz els))::H):=by
 have ht:=lX (H:=H) (C:=C) (some (.arr sz els)) (.cells cs e) hn;refine⟨mv hH hn ?_,ht⟩;refine ui (k:=C.w.heap.size) (cs:=cs) (e:=e) H7 (eU _ _) (fun hro=>by have:=hH.ro _ hro;omega) hs ?_;intro q v hq;obtain⟨x,h1,h2⟩:=h q v hq;exact⟨x,h1,h2.later ht hH⟩
theorem yM(C:Ctx)(nm sz:Nat)(obj:Obj):O9 (C.alloc nm obj) (.ptr nm sz 0 0) (.pointer (some ⟨C.w.heap.size,0,none⟩)):=by
 have:=O9.ptr (C:=C.alloc nm obj) nm sz 0 0 C.w.heap.size (.inr rfl) H7;simpa using this
theorem Cr(C:Ctx)(nm sz len:Nat)(cs:Array Value)(e:TypeId)(h:len*sz<=cs.size):O9 (C.alloc nm (.cells cs e)) (.sl nm sz 0 len len true) (.slice (some ⟨C.w.heap.size,0,none⟩) len len):=by
 have:=O9.sl (C:=C.alloc nm (.cells cs e)) nm sz 0 len len true C.w.heap.size len cs e (0,0) (.inr rfl) H7 (cF _) (cF _) (fun _=>rfl) (eU _ _) uz;simpa using this
theorem PU{t:TypeId}{x:Operand}{v:AV}{nm:Nat}(ho:o.op = .box t x)(hx:st.ev G x=v)(hk:v.known=true) :
  StepOp G P st o (.ptr nm v.cells.length 0 0) ((nm,some (.arr v.cells.length [v.cells]))::st.heap) (· = nm):=by
 intro C a hH hop hn;obtain⟨q1,q2⟩:=io hk (hx ▸ hop x fI);obtain⟨h1,h2⟩:=Ol (e:=t) (cs:=(a.eval x).cells) hH (hn nm rfl) (els:=[v.cells]) (sz:=v.cells.length) aR (fun q u hq=>by
  simp at hq;have hlt:q<(a.eval x).cells.size:=qgx;exact⟨(a.eval x).cells.getD q undef,by simp[Array.getD,hlt],q2 q u hq⟩)
 refine⟨_,.value (.pointer (some ⟨C.w.heap.size,0,none⟩)),?_,.inl ⟨_,rfl,yM C nm _ _⟩,h1,h2,fun n hU=>hU⟩;simp only[execOp,ho,Instr.box,newVar,newRow];simp[Ctx.alloc]
theorem Hd{t S B:Nat}{z:D}{nm:Nat}{zs:List AV}(ho:o.op = .alloc t)(hT:EOk P t S B z)(hz:(AV.d z).cells=zs)(hk:(AV.d z).known=true) :
  StepOp G P st o (.ptr nm zs.length 0 0) ((nm,some (.arr zs.length [zs]))::st.heap) (· = nm):=by
 intro C a hH hop hn;obtain⟨ti,h1,h2,h3,zv,h4,h5,h6⟩:=hT;obtain⟨q1,q2⟩:=io (C:=C) hk (.d _ _ (h6 C.w C.RO));rw[hz]at q1 q2;obtain⟨g1,g2⟩:=Ol (e:=t) (cs:=zv.cells) hH (hn nm rfl) (els:=[zs]) (sz:=zs.length) aR (fun q u hq=>by
  simp at hq;have hlt:q<zv.cells.size:=qgx;exact⟨zv.cells.getD q undef,by simp[Array.getD,hlt],q2 q u hq⟩)
 refine⟨_,.value (.pointer (some ⟨C.w.heap.size,0,none⟩)),?_,.inl ⟨_,rfl,yM C nm _ _⟩,g1,g2,fun n hU=>hU⟩;simp only[execOp,ho,Instr.alloc,newVar,newRow];simp[Ctx.alloc,zeroValue,bR h1,h4]
theorem tZ(zs:Array Value)(n q:Nat)(h:q<n*zs.size):((Array.range (n*zs.size)).map fun i=>zs[i%zs.size]!)[q]?=some (zs.getD (q%zs.size) undef):=by
 have hp:0<zs.size:=Nat.pos_of_ne_zero (fun e=>by simp[e]at h);have:=Cm q hp;simp[h,Array.getD,this,getElem!_pos]
theorem xJ{t e S B:Nat}{z:D}{nm n:Nat}{zs:List AV}{x y:Operand}{k k':IntKind}(ho:o.op = .makeSlice t x y)(hT:cH P t e S B z)(hx:st.ev G x = .d (.int k n))(hy:st.ev G y = .d (.int k' n))
  (hz:(AV.d z).cells=zs) (hk:(AV.d z).known=true) (hb:B*n<=281474976710656) (hB:0<B) (hS:0<S) :
  StepOp G P st o (.sl nm S 0 n n true) ((nm,some (.arr S (List.replicate n zs)))::st.heap) (· = nm):=by
 intro C a hH hop hn;have e1:=br (hx ▸ hop x fI);have e2:=br (hy ▸ hop y fI);obtain⟨hu,ti,h1,h2,h3,zv,h4,h5,h6⟩:=hT;obtain⟨q1,q2⟩:=io (C:=C) hk (.d _ _ (h6 C.w C.RO));rw[hz]at q1 q2;have hzl:zs.length=S:=by rw[<- q1,h5]
 have hnle:n<=281474976710656:=Nat.le_trans (Nat.le_mul_of_pos_left n hB) hb;have hwrap:IntKind.i64.wrap (n:Int)=n:=by
  simp[IntKind.wrap,IntKind.bits,IntKind.signed];omega
 have hcells:∀(cs:Array Value),cs=((Array.range (n*S)).map fun i=>zv.cells[i%zv.cells.size]!)->∀(q:Nat) (v:AV),(List.replicate n zs).flatten[q]?=some v->∃ x:Value,cs[q]?=some x/\O9 C v x:=by
  intro cs hcs q v hq;obtain⟨i,j,l,a1,a2,a3⟩:=fV (sz:=S) (fun l hl=>by rw[Ux hl,hzl]) hq;have hl:=Ux (ye a1);subst hl;have hi:i<n:=qf7;have hj:j<S:=qg7;have hlt:q<n*S:=by
   have:=JU S (show i+1<=n from hi);rw[Lp]at this;omega
  have hm:q%S=j:=by rw[a3,Wd,Nat.mul_add_mod,Uz hj]
  refine⟨zv.cells.getD j undef,?_,q2 j v a2⟩;subst hcs;have:=tZ zv.cells n q (by rw[h5];exact hlt);rw[h5]at this⊢;rw[this,hm]
 obtain⟨g1,g2⟩:=Ol (e:=e) (cs:=(Array.range (n*S)).map fun i=>zv.cells[i%zv.cells.size]!) hH (hn nm rfl) (els:=List.replicate n zs) (sz:=S) (fun l hl=>by rw[Ux hl,hzl]) (hcells _ rfl);refine⟨_,.value (.slice (some ⟨C.w.heap.size,0,none⟩) n n),?_,.inl ⟨_,rfl,Cr C nm S n _ _ (by rw[Array.size_map,Array.size_range];exact cF _)⟩,g1,g2,fun n hU=>hU⟩;simp only[execOp,ho,Instr.makeSlice,newRow,e1,e2];have c1:¬((n:Int)<0):=Int.not_lt.2 (mf n);have c2:¬((281474976710656:Int)<(B:Int)*(n:Int)):=by
  have:((B*n:Nat):Int)<=((281474976710656:Nat):Int):=Int.ofNat_le.2 hb;rw[Int.natCast_mul]at this;omega
 by_cases hn0:n*S=0
 ·have hn1:n=0:=by rcases Nat.mul_eq_zero.1 hn0 with h|h<;>omega
  subst hn1;simp[run_underlying hu,asInt,asIntOf,bR h1,h2,h3,hwrap,EOk.size ⟨ti,h1,h2,h3,zv,h4,h5,h6⟩,Ctx.alloc,IntKind.wrap,IntKind.bits,IntKind.signed];rw[show Array.range 0 = #[] from by simp[Array.range],Array.map_empty,Array.map_empty]
 ·simp[run_underlying hu,asInt,asIntOf,bR h1,h2,h3,hwrap,EOk.size ⟨ti,h1,h2,h3,zv,h4,h5,h6⟩,Ctx.alloc,zeroValue,h4,c1,c2,hn0]
end Go.AL
namespace Go.AL
open Go
variable{G:Nat->Option (List D)}{P:Program}{st:St}{o:Oper}
def D.scalar:D->Bool
 | .agg _=>false
 | .tup _=>false
 | .opq v=>v.oneCell'
 | .any=>false
 | _=>true
def AV.scalar:AV->Bool
 | .top=>false
 | .d x=>x.scalar
 | .agg _=>false
 | .tup _=>false
 | _=>true
theorem xH{C:Ctx}{v:AV}{x:Value}(hs:v.scalar=true)(h:O9 C v x):x.oneCell'=true:=by
 cases h with
 | d y _ h=>cases h<;>simp_all[AV.scalar,D.scalar,Value.oneCell']
 | _=>simp_all[AV.scalar,Value.oneCell']
theorem dk{w:World}{k:Nat}{o o':Obj}(h:w.heap[k]?=some o):(w.putObj k o').heap[k]?=some o':=World.putObj_heap_same (jE h)
theorem Ev{w:World}{k off:Nat}{cs:Array Value}{e:TypeId}{fz:Nat×Nat}{v:Value}(h:w.heap[k]?=some (.cells cs e fz)) :
  w.setCell ⟨k,off,none⟩ v=w.putObj k (.cells (cs.setIfInBounds off v) e fz):=by
 have hlt:=jE h;have he:w.heap[k] = .cells cs e fz:=by simpa[hlt] using h
 unfold World.setCell World.putObj;congr 1;apply Array.ext_getElem?;intro i;simp only[Array.getElem?_modify,wdl];by_cases hi:k=i
 ·subst hi;simp[hlt,he]
 ·simp[hi]
theorem GF{w:World}{k:Nat}{o o':Obj}:(w.putObj k o).putObj k o'=w.putObj k o':=by
 simp[World.putObj]
theorem gW{P:Program}{k:Nat}{e:TypeId}(off:Nat):∀(vs:List Value) (i:Nat) (w:World) (cs:Array Value),w.heap[k]?=some (.cells cs e (0,0))->(∀ v,v∈vs->v.oneCell'=true)->off+i+vs.length<=cs.size ->
  ∃ cs':Array Value,(storeCells ⟨k,off,none⟩ vs i).run P w = .ok () (w.putObj k (.cells cs' e (0,0)))/\cs'.toList=bU cs.toList (off+i) vs:=by
 intro vs
 induction vs with
 | nil =>
  intro i w cs h _ hl;refine⟨cs,?_,by simp[bU]⟩;have:w.putObj k (.cells cs e (0,0))=w:=by
   have hlt:=jE h;have he:w.heap[k] = .cells cs e (0,0):=by simpa[hlt] using h
   have:w.heap.setIfInBounds k (.cells cs e (0,0))=w.heap:=by
    apply Array.ext_getElem?;intro i;simp only[wdl];by_cases hi:k=i
    ·subst hi;simp[hlt,he]
    ·simp[hi]
   simp[World.putObj,this]
  rw[this];rfl
 | cons v vs ih =>
  intro i w cs h hone hl;simp only[Ln]at hl;have hcell:w.cell? ⟨k,off+i,none⟩=some (cs.getD (off+i) undef):=by
   have:off+i<cs.size:=qad;simp[World.cell?,h,this,Array.getD]
  have hfz:w.frozen? ⟨k,off+i,none⟩=false:=by simp[World.frozen?,h]
  have hput:=dk (o':=.cells (cs.setIfInBounds (off+i) v) e (0,0)) h;obtain⟨cs',g1,g2⟩:=ih (i+1) (w.putObj k (.cells (cs.setIfInBounds (off+i) v) e (0,0))) (cs.setIfInBounds (off+i) v) hput (fun u hu=>hone u (by simp[hu])) fF;refine⟨cs',?_,?_⟩
  ·simp only[storeCells,Sem.run_bind,dY,run_store P w _ v .plain (hone v aR),hcell,hfz];simp only[QZ,if_false,Result.andThen_ok,Ev h,g1,GF]
  ·rw[g2];apply wea;intro j;have hl1:off+(i+1)+vs.length<=(cs.setIfInBounds (off+i) v).toList.length:=fF;have hl2:off+i+(v::vs).length<=cs.toList.length:=qge;rw[fm hl1,fm hl2];simp only[Ln,Array.toList_setIfInBounds];by_cases h1:j<off+i
   ·rw[if_pos qad,if_pos h1,I9 qad]
   ·rw[if_neg h1];by_cases h2:j=off+i
    ·exact qjn
    ·rw[if_neg qad];by_cases h3:j<off+(i+1)+vs.length
     ·rw[if_pos h3,if_pos qad];have:j-(off+i)=(j-(off+(i+1)))+1:=qad;rw[this];simp
     ·rw[if_neg h3,if_neg qad,I9 qad]
theorem Br{P:Program}{t S B:Nat}{z:D}{k off:Nat}{e:TypeId}{w:World}{cs:Array Value}{v:Value}(hT:EOk P t S B z)(h:w.heap[k]?=some (.cells cs e (0,0)))(hs:v.cells.size=S)(hone:∀ u,u∈v.cells.toList->u.oneCell'=true)
  (hl:off+S<=cs.size):∃ cs':Array Value,(storeVar t ⟨k,off,none⟩ v).run P w = .ok () (w.putObj k (.cells cs' e (0,0)))/\cs'.toList=bU cs.toList off v.cells.toList:=by
 obtain⟨cs',g1,g2⟩:=gW (P:=P) off v.cells.toList 0 w cs h hone (by simp[hs];omega);refine⟨cs',?_,by simpa using g2⟩;simp[storeVar,EOk.size hT,hs,g1]
def Ctx.put(C:Ctx)(k:Nat)(obj:Obj):Ctx:={ C with w:=C.w.putObj k obj }
theorem Hj{C:Ctx}{H H':AHeap}{nm k:Nat}{b0:Blk}{cs cs':Array Value}{e:TypeId}(hh:C.w.heap[k]?=some (.cells cs e (0,0)))(hsz:cs'.size=cs.size)(hg:H.get nm=some b0)(hb:C.β nm=some k)
  (himg:∀ n b k',H'.get n=some b->C.β n=some k'->∃ n0 b0,H.get n0=some b0/\C.β n0=some k'):Tr C.U C H (C.put k (.cells cs' e (0,0))) H' where
 os:=rfl
 tape:=rfl
 output:=rfl
 size:=by simp[Ctx.put]
 shape j a t fz h:=by
  by_cases hj:j=k
  ·subst hj;rw[hh]at h;cases h;exact⟨cs',(0,0),dk hh,hsz⟩
  ·exact qek
 frame j hj hn:=World.putObj_heap_other (fun ej=>hn nm b0 hg (by rw[hb,ej]))
 names n h:=⟨h,rfl⟩
 ros j h:=h
 img n b k' h1 h2 _:=himg n b k' h1 h2
 rob _ h _:=.inl h
theorem Dh{C:Ctx}{H:AHeap}(hH:P0 G C H){nm k:Nat}{b0 b':Blk}{cs cs':Array Value}{e:TypeId}(hh:C.w.heap[k]?=some (.cells cs e (0,0)))(hsz:cs'.size=cs.size)(hg:H.get nm=some b0)(hb:C.β nm=some k)
  (hb':iL (C.put k (.cells cs' e (0,0))) nm b'):P0 G (C.put k (.cells cs' e (0,0))) ((nm,some b')::H)/\Tr C.U C H (C.put k (.cells cs' e (0,0))) ((nm,some b')::H):=by
 have himg:∀ n b k',AHeap.get ((nm,some b')::H) n=some b->C.β n=some k'->∃ n0 b0,H.get n0=some b0/\C.β n0=some k':=fun n b k' h1 h2=>by
  by_cases e:n=nm
  ·subst e;exact⟨n,b0,hg,h2⟩
  ·exact G4
 have ht:=Hj (C:=C) hh hsz hg hb himg;refine⟨⟨?_,?_,fun j hj=>?_,fun g ds hgd=>(hH.glob g ds hgd).later ht hH⟩,ht⟩
 ·intro n b h;by_cases e:n=nm
  ·subst e;rw[ao]at h;cases h;exact⟨(hH.blk n b0 hg).1,hb'⟩
  ·exact qh8
 ·exact qh7
 ·exact qf0
theorem ND{sz:Nat}{els:List (List AV)}{idx off:Nat}{el vs:List AV}(hs:∀ l,l∈els->l.length=sz)(he:els[idx]?=some el)(hl:off+vs.length<=sz) :
  (els.set idx (bU el off vs)).flatten=bU els.flatten (idx*sz+off) vs:=by
 have hlt:=(nt.1 he).1;have hel:=hs el (ye he);have hs':∀ l,l∈els.set idx (bU el off vs)->l.length=sz:=by
  intro l hl';rcases List.mem_or_eq_of_mem_set hl' with h|h
  ·exact hs l h
  ·subst h;rw[eu qad];exact hel
 have hbig:idx*sz+off+vs.length<=els.flatten.length:=by
  rw[bh hs];have:=JU sz (show idx+1<=els.length from hlt);rw[Lp]at this;omega
 have hlen:(els.set idx (bU el off vs)).flatten.length=els.flatten.length:=by rw[bh hs',bh hs];simp
 apply wea;intro q;by_cases hq:q<els.flatten.length
 ·have hx:(els.set idx (bU el off vs)).flatten[q]?=some ((els.set idx (bU el off vs)).flatten[q]'qad):=ew _;obtain⟨i,j,l,a1,a2,a3⟩:=fV hs' hx;have hj:j<sz:=by have:=(nt.1 a2).1;rw[hs' l (ye a1)]at this;exact this
  rw[hx,<- a2,fm hbig];by_cases hi:i=idx
  ·subst hi;rw[List.getElem?_set_self hlt]at a1;cases a1;rw[fm qad];have e0:els.flatten[q]?=el[j]?:=by
    have hjj:j<el.length:=qad;rw[a3,ir hs he (ew hjj),ew hjj]
   rw[e0];by_cases c1:j<off
   ·rw[if_pos c1,if_pos qad]
   ·rw[if_neg c1,if_neg (show ¬ q<i*sz+off by omega)];by_cases c2:j<off+vs.length
    ·rw[if_pos c2,if_pos (show q<i*sz+off+vs.length by omega)];congr 1;omega
    ·rw[if_neg c2,if_neg (show ¬ q<i*sz+off+vs.length by omega)]
  ·rw[I9 (Ne.symm hi)]at a1;have e0:els.flatten[q]?=l[j]?:=by
    have hjj:=(nt.1 a2).1;rw[a3,ir hs a1 (ew hjj),ew hjj]
   rw[e0];rcases Nat.lt_or_gt_of_ne hi with c|c
   ·have:=JU sz (show i+1<=idx from c);rw[Lp]at this;rw[if_pos qad]
   ·have:=JU sz (show idx+1<=i from c);rw[Lp]at this;rw[if_neg qad,if_neg qad]
 ·rw[wdn qad,wdn (by rw[eu hbig];omega)]
theorem lv{C:Ctx}{nm k sz:Nat}{els:List (List AV)}(h:iL C nm (.arr sz els))(hk:C.β nm=some k):∃ cs e,C.w.heap[k]?=some (.cells cs e (0,0)) /\ ¬ C.RO k/\(∀ el,el∈els->el.length=sz)/\els.flatten.length<=cs.size ∧
  ∀(q:Nat) (v:AV),els.flatten[q]?=some v->∃ x:Value,cs[q]?=some x/\O9 C v x:=by
 rcases h with⟨h1,_⟩|⟨k',cs,e,h1,h2,h3,h4,h5,h6⟩
 ·rw[h1]at hk;cases hk
 ·rw[h1]at hk;cases hk;refine⟨cs,e,h2,h3,h5,by rw[bh h5];exact h4,fun q v hq=>?_⟩;obtain⟨i,j,l,a1,a2,a3⟩:=fV h5 hq;rw[a3];exact h6 i j l v a1 a2
theorem sR{C C':Ctx}{H H':AHeap}(hH:P0 G C H)(ht:Tr C.U C H C' H'){nm' k sz:Nat}{els els':List (List AV)}{cs cs':Array Value}{e:TypeId}{at_:Nat}{vs:List AV}{xs:List Value}
  (hb':C'.β nm'=some k) (hh':C'.w.heap[k]?=some (.cells cs' e (0,0))) (hro:¬ C'.RO k) (hs:∀ el,el∈els'->el.length=sz)
  (hcs:∀(q:Nat) (v:AV),els.flatten[q]?=some v->∃ x:Value,cs[q]?=some x/\O9 C v x) (hov:cs'.toList=bU cs.toList at_ xs) (hxl:xs.length=vs.length) (hfit:at_+xs.length<=cs.size)
  (hxs:∀(i:Nat) (v:AV),vs[i]?=some v->O9 C v (xs.getD i undef))
  (hfl:∀(q:Nat) (v:AV),els'.flatten[q]?=some v->(at_<=q/\vs[q-at_]?=some v)\/((q<at_\/at_+vs.length<=q)/\els.flatten[q]?=some v)):iL C' nm' (.arr sz els'):=by
 refine ui hb' hh' hro hs fun q v hq=>?_;have hget:cs'[q]?=(bU cs.toList at_ xs)[q]?:=by rw[<- hov];simp
 have hfit':at_+xs.length<=cs.toList.length:=by simpa using hfit
 rw[hget,fm hfit'];rcases hfl q v hq with⟨c1,c2⟩|⟨c1,c2⟩
 ·have hlt:=(nt.1 c2).1;rw[if_neg qad,if_pos qad];refine⟨xs.getD (q-at_) undef,?_,(hxs _ v c2).later ht hH⟩;rw[jI,ew qad];rfl
 ·obtain⟨x,g1,g2⟩:=hcs q v c2;refine⟨x,?_,g2.later ht hH⟩;rcases c1 with c1|c1
  ·rw[if_pos c1];simpa using g1
  ·rw[if_neg qad,if_neg qad];simpa using g1
theorem mU{t S B:Nat}{z:D}{x y:Operand}{nm sz idx off:Nat}{els:List (List AV)}{el:List AV}{v:AV}(ho:o.op = .store t x y)(hT:EOk P t S B z)(hx:st.ev G x = .ptr nm sz idx off)(hy:st.ev G y=v)
  (hH0:st.heap.get nm=some (.arr sz els)) (he:els[idx]?=some el) (hk:v.known=true) (hlen:v.cells.length=S) (hsc:v.cells.all AV.scalar=true) (hfit:off+S<=sz) :
  StepOp G P st o .top ((nm,some (.arr sz (els.set idx (bU el off v.cells))))::st.heap) (fun _=>False):=by
 intro C a hH hop _;obtain⟨k,hU,hb,hxv⟩:=jg (hx ▸ hop x fI);have hyr:=hy ▸ hop y fI;obtain⟨q1,q2⟩:=io hk hyr;obtain⟨_,hB⟩:=hH.blk nm _ hH0;obtain⟨cs,e,hh,hro,hs,hcl,hcs⟩:=lv hB hb;have hidx:=(nt.1 he).1;have hbig:idx*sz+off+S<=cs.size:=by
  rw[bh hs]at hcl;have:=JU sz (show idx+1<=els.length from hidx);rw[Lp]at this;omega
 have hone:∀ u,u∈(a.eval y).cells.toList->u.oneCell'=true:=by
  intro u hu;obtain⟨i,hi,rfl⟩:=Uy hu;simp at hi;have hi':i<v.cells.length:=qad;have hv:=q2 i v.cells[i] (ew hi');have hsv:(v.cells[i]).scalar=true:=by simp only[lh]at hsc;exact hsc _ (ey hi')
  have:=xH hsv hv;simpa[Array.getD,hi] using this
 obtain⟨cs',g1,g2⟩:=Br (P:=P) (off:=idx*sz+off) hT hh (q1.trans hlen) hone hbig;have hszs:cs'.size=cs.size:=by
  have:=congrArg List.length g2;rw[eu (by simp[q1,hlen];omega)]at this;simpa using this
 have hel:=hs el (ye he);have hs':∀ l,l∈els.set idx (bU el off v.cells)->l.length=sz:=by
  intro l hl';rcases List.mem_or_eq_of_mem_set hl' with h|h
  ·exact hs l h
  ·subst h;rw[eu qad];exact hel
 have himg:∀ n b k',AHeap.get ((nm,some (.arr sz (els.set idx (bU el off v.cells))))::st.heap) n=some b->C.β n=some k'->∃ n0 b0,st.heap.get n0=some b0/\C.β n0=some k':=fun n b k' h1 h2=>by
  by_cases e:n=nm
  ·subst e;exact⟨n,_,hH0,h2⟩
  ·exact G4
 have ht:=Hj (C:=C) hh hszs hH0 hb himg;have hbr:iL (C.put k (.cells cs' e (0,0))) nm (.arr sz (els.set idx (bU el off v.cells))):=by
  refine sR (vs:=v.cells) hH ht hb (dk hh) hro hs' hcs g2 (by simpa using q1) (by simp[q1,hlen];omega) (fun i u hu=>by have:=q2 i u hu;simpa[JT,jI] using this) ?_;intro q u hq;rw[ND hs he qad]at hq;have hbg:idx*sz+off+v.cells.length<=els.flatten.length:=by
   rw[bh hs];have:=JU sz (show idx+1<=els.length from hidx);rw[Lp]at this;omega
  rw[fm hbg]at hq;by_cases c1:q<idx*sz+off
  ·rw[if_pos c1]at hq;exact .inr ⟨.inl c1,hq⟩
  ·rw[if_neg c1]at hq;by_cases c2:q<idx*sz+off+v.cells.length
   ·rw[if_pos c2]at hq;exact .inl ⟨by omega,hq⟩
   ·rw[if_neg c2]at hq;exact .inr ⟨.inr qad,hq⟩
 obtain⟨r1,r2⟩:=Dh hH hh hszs hH0 hb hbr;refine⟨_,.skip,?_,.inr ⟨rfl,rfl⟩,r1,r2,fun n h=>.inl h⟩;simp only[execOp,ho,Instr.storeAt,hxv];simp[Instr.sureAddr,g1,Ctx.put]
end Go.AL
namespace Go.AL
open Go
variable{G:Nat->Option (List D)}{P:Program}{st:St}{o:Oper}
inductive Els (H:AHeap) (sz:Nat):AV->List (List AV)->Prop
 | sl (nm lo len room:Nat) (t:Bool) (els:List (List AV)) (h:H.get nm=some (.arr sz els)) (hf:lo+len<=els.length):Els H sz (.sl nm sz lo len room t) ((els.drop lo).take len)
 | d (es:List (List D)) (t:Bool) (h:∀ el,el∈es->el.length=sz):Els H sz (.d (.sl es t)) (es.map (·.map .d))
theorem gf{C:Ctx}{H:AHeap}(hH:P0 G C H){sz:Nat}{v:AV}{ys:List (List AV)}{x:Value}(hE:Els H sz v ys)(h:O9 C v x) :
  (∀ el,el∈ys->el.length=sz) /\ ∃(a:Option Addr) (c:Nat) (vs:List Value),x = .slice a ys.length c/\vs.length=ys.length*sz/\(Builtin.firstCells sz ys.length x).run P C.w = .ok vs.toArray C.w ∧
   (∀(q:Nat) (u:AV),ys.flatten[q]?=some u->O9 C u (vs.getD q undef)) ∧
   (∀ n,n<=ys.length->(Builtin.firstCells sz n x).run P C.w = .ok (vs.take (n*sz)).toArray C.w):=by
 cases hE with
 | d es t hs =>
  have hs':∀ el,el∈es.map (fun l=>l.map AV.d)->el.length=sz:=by
   intro el hel;obtain⟨l,hl,rfl⟩:=bm.1 hel;simpa using hs l hl
  refine⟨hs',?_⟩;have hd:=bZ h;cases hd with
  | sl0 _ a c ht=>exact⟨a,c,[],by simp,by simp,by cases a<;>simp[Builtin.firstCells,loadCells,loadCellsFrom],by simp,fun n hn=>by
    have:n=0:=TM;subst this;cases a<;>simp[Builtin.firstCells,loadCells,loadCellsFrom]⟩
  | sl _ _ b o c sz' vs hro hc ht hsz hm hr =>
   have key:∀(q:Nat) (u:AV),(es.map (fun l=>l.map AV.d)).flatten[q]?=some u->∃ y:Value,C.w.cell? ⟨b,o+q,none⟩=some y/\O9 C u y:=by
    intro q u hq;obtain⟨i,j,l,a1,a2,a3⟩:=fV hs' hq;simp only[mV,tT]at a1;obtain⟨el,b1,rfl⟩:=a1;simp only[mV,tT]at a2;obtain⟨d,b2,rfl⟩:=a2;have e1:sz'=sz:=by rw[<- hsz el (ye b1)];exact hs el (ye b1)
    subst e1;refine⟨vs i j,?_,.d _ _ (hr i j el d b1 b2)⟩;rw[a3,<- Wa];exact hm i j el d b1 b2
   obtain⟨ws,g1,g2,g3⟩:=lN (O9 C) (es.map (fun l=>l.map AV.d)).flatten (fun q=>C.w.cell? ⟨b,o+q,none⟩) key;have hlen:ws.length=(es.map (fun l=>l.map AV.d)).length*sz:=by rw[g1,bh hs']
   refine⟨some ⟨b,o,none⟩,c,ws,by simp,hlen,?_,g3,fun n hn=>?_⟩
   ·have:=fQ (P:=P) b o ws g2;rw[hlen]at this;simpa[Builtin.firstCells] using this
   ·have:=fQ (P:=P) b o (ws.take (n*sz)) (fun j v hj=>g2 j v qe4);have e2:(ws.take (n*sz)).length=n*sz:=by
     rw[BZ,hlen];exact Uv (JU sz hn)
    rw[e2]at this;simpa[Builtin.firstCells] using this
 | sl nm lo len room t els hg hf =>
  obtain⟨_,hB⟩:=hH.blk nm _ hg;have hlen0:((els.drop lo).take len).length=len:=fF;rcases fS h with⟨k,c,cs,e',fz,hU,hb,hl,hr,ht,hh,hs,hxv⟩|⟨hU,h1,h2,a,hxv⟩
  ·obtain⟨cs',e,hh',hro,hsz,hcl,hcs⟩:=lv hB hb;have hs':∀ el,el∈(els.drop lo).take len->el.length=sz:=fun el hel=>hsz el (wds (Ci hel));refine⟨hs',?_⟩;have key:∀(q:Nat) (u:AV),((els.drop lo).take len).flatten[q]?=some u->∃ y:Value,C.w.cell? ⟨k,lo*sz+q,none⟩=some y/\O9 C u y:=by
    intro q u hq;obtain⟨i,j,l,a1,a2,a3⟩:=fV hs' hq;have a1':els[lo+i]?=some l:=by
     rw[Fb]at a1;split at a1
     ·simpa using a1
     ·cases a1
    obtain⟨y,y1,y2⟩:=hcs _ u (ir hsz a1' a2);refine⟨y,?_,y2⟩;have e1:lo*sz+q=(lo+i)*sz+j:=by rw[a3,QH];omega
    rw[e1];simp[World.cell?,hh',y1]
   obtain⟨ws,g1,g2,g3⟩:=lN (O9 C) ((els.drop lo).take len).flatten (fun q=>C.w.cell? ⟨k,lo*sz+q,none⟩) key;have hlen:ws.length=((els.drop lo).take len).length*sz:=by rw[g1,bh hs']
   refine⟨_,c,ws,by rw[hlen0,hxv],hlen,?_,g3,fun n hn=>?_⟩
   ·have:=fQ (P:=P) k (lo*sz) ws g2;rw[hlen]at this;simpa[Builtin.firstCells,hxv] using this
   ·have:=fQ (P:=P) k (lo*sz) (ws.take (n*sz)) (fun j v hj=>g2 j v qe4);have e2:(ws.take (n*sz)).length=n*sz:=by
     rw[BZ,hlen];exact Uv (JU sz hn)
    rw[e2]at this;simpa[Builtin.firstCells,hxv] using this
  ·subst h1;refine⟨fun el hel=>by simp at hel,a,0,[],by simpa using hxv,by simp,?_,by simp,fun n hn=>?_⟩
   ·subst hxv;cases a<;>simp[Builtin.firstCells,loadCells,loadCellsFrom]
   ·have:n=0:=by simpa using hn
    subst this hxv;cases a<;>simp[Builtin.firstCells,loadCells,loadCellsFrom]
theorem mq{α:Type}{sz:Nat}:∀{ls:List (List α)} (n:Nat),(∀ l,l∈ls->l.length=sz)->(ls.take n).flatten=ls.flatten.take (n*sz)
 | [],n,_=>by simp
 | l::ls,0,h=>by simp
 | l::ls,n+1,h=>by
  have hl:=h l aR;rw[List.take_succ_cons,VS,VS,mq n (fun l hl=>h l H5),List.take_append,hl];have e1:l.take ((n+1)*sz)=l:=pT qf2;have e2:(n+1)*sz-sz=n*sz:=qg8;rw[e1,e2]
theorem rb{α:Type}{sz:Nat}:∀{ls:List (List α)} (n:Nat),(∀ l,l∈ls->l.length=sz)->(ls.drop n).flatten=ls.flatten.drop (n*sz)
 | [],n,_=>by simp
 | l::ls,0,h=>by simp
 | l::ls,n+1,h=>by
  have hl:=h l aR;rw[List.drop_succ_cons,VS,rb n (fun l hl=>h l H5),List.drop_append,hl];have e1:l.drop ((n+1)*sz)=[]:=List.drop_of_length_le qf2;have e2:(n+1)*sz-sz=n*sz:=qg8;rw[e1,e2,uV]
theorem Ar{α:Type}{sz:Nat}{ls ys:List (List α)}{i0:Nat}(h:∀ l,l∈ls->l.length=sz)(hy:∀ l,l∈ys->l.length=sz) :
  (bU ls i0 ys).flatten=bU ls.flatten (i0*sz) ys.flatten:=by
 unfold bU;rw[List.flatten_append,List.flatten_append,mq _ h,rb _ h,bh hy,QH]
theorem OS{α:Type}{l vs:List α}{i0:Nat}{x:α}(h:x∈bU l i0 vs):x∈l\/x∈vs:=by
 unfold bU at h;simp only[ft]at h;rcases h with(h|h)|h
 ·exact .inl (Ci h)
 ·exact .inr h
 ·exact .inl (wds h)
theorem vA{C:Ctx}{ys:List (List AV)}{vs:List Value}(hsc:∀ el,el∈ys->∀ v,v∈el->v.scalar=true)(hl:vs.length=ys.flatten.length)(h:∀(q:Nat) (u:AV),ys.flatten[q]?=some u->O9 C u (vs.getD q undef)) :
  ∀ v,v∈vs->v.oneCell'=true:=by
 intro v hv;obtain⟨i,hi,rfl⟩:=Uy hv;have hi':i<ys.flatten.length:=qad;have hr:=h i ys.flatten[i] (ew hi');have hmem:ys.flatten[i]∈ys.flatten:=ey hi';obtain⟨el,h1,h2⟩:=List.mem_flatten.1 hmem;have:=xH (hsc el h1 _ h2) hr;simpa[jI,hi] using this
theorem AE{C:Ctx}{H:AHeap}(hH:P0 G C H){nm k sz i0:Nat}{els ys:List (List AV)}{vs:List Value}(hg:H.get nm=some (.arr sz els))(hb:C.β nm=some k)(hy:∀ el,el∈ys->el.length=sz)
  (hfit:i0+ys.length<=els.length) (hl:vs.length=ys.length*sz) (hone:∀ v,v∈vs->v.oneCell'=true) (hr:∀(q:Nat) (u:AV),ys.flatten[q]?=some u->O9 C u (vs.getD q undef)) :
  ∃(cs':Array Value) (e:TypeId),(∀ P:Program,(storeCells ⟨k,i0*sz,none⟩ vs).run P C.w = .ok () (C.w.putObj k (.cells cs' e (0,0)))) ∧
   P0 G (C.put k (.cells cs' e (0,0))) ((nm,some (.arr sz (bU els i0 ys)))::H)/\Tr C.U C H (C.put k (.cells cs' e (0,0))) ((nm,some (.arr sz (bU els i0 ys)))::H):=by
 obtain⟨_,hB⟩:=hH.blk nm _ hg;obtain⟨cs,e,hh,hro,hs,hcl,hcs⟩:=lv hB hb;have hbig:i0*sz+ys.length*sz<=els.flatten.length:=by rw[bh hs,<- QH];exact JU sz hfit
 obtain⟨cs',g1,g2⟩:=gW (P:=default) (i0*sz) vs 0 C.w cs hh hone (by simp[hl];omega);simp only[Lq]at g2;have hszs:cs'.size=cs.size:=by
  have:=congrArg List.length g2;rw[eu (by simp[hl];omega)]at this;simpa using this
 have hs':∀ l,l∈bU els i0 ys->l.length=sz:=fun l hl=>by
  rcases OS hl with h|h
  ·exact hs l h
  ·exact hy l h
 have himg:∀ n b k',AHeap.get ((nm,some (.arr sz (bU els i0 ys)))::H) n=some b->C.β n=some k'->∃ n0 b0,H.get n0=some b0/\C.β n0=some k':=fun n b k' h1 h2=>by
  by_cases e:n=nm
  ·subst e;exact⟨n,_,hg,h2⟩
  ·exact G4
 have ht:=Hj (C:=C) hh hszs hg hb himg;have hbr:iL (C.put k (.cells cs' e (0,0))) nm (.arr sz (bU els i0 ys)):=by
  refine sR (vs:=ys.flatten) hH ht hb (dk hh) hro hs' hcs g2 (by rw[hl,bh hy]) (by rw[hl];omega) hr ?_;intro q u hq;rw[Ar hs hy,fm (by rw[bh hy];omega)]at hq;by_cases c1:q<i0*sz
  ·rw[if_pos c1]at hq;exact .inr ⟨.inl c1,hq⟩
  ·rw[if_neg c1]at hq;by_cases c2:q<i0*sz+ys.flatten.length
   ·rw[if_pos c2]at hq;exact .inl ⟨by omega,hq⟩
   ·rw[if_neg c2]at hq;exact .inr ⟨.inr qad,hq⟩
 obtain⟨r1,r2⟩:=Dh hH hh hszs hg hb hbr;refine⟨cs',e,fun P=>?_,r1,r2⟩;obtain⟨cs2,q1,q2⟩:=gW (P:=P) (i0*sz) vs 0 C.w cs hh hone (by simp[hl];omega);simp only[Lq]at q2;have:cs2=cs':=by
  have:=q2.trans g2.symm;exact Array.toList_inj.1 this
 rw[<- this];exact q1
end Go.AL
namespace Go.AL
open Go
variable{G:Nat->Option (List D)}{P:Program}{st:St}{o:Oper}
def lF(o:Oper)(x y:Operand)(t t2:TypeId):Prop:=o.op = .call { callee:=.builtin .append,args:=#[x,y],argTypes:=#[t,t2] }
theorem ze:∀(rounds c need:Nat),c<=need->Builtin.growBy need rounds c<=2*need+192
 | 0,c,need,h=>by simp[Builtin.growBy];omega
 | r+1,c,need,h=>by
  simp only[Builtin.growBy];split
  ·exact qad
  ·by_cases h2:c+(c+768) / 4<=need
   ·exact ze r _ need h2
   ·have:Builtin.growBy need r (c+(c+768) / 4)=c+(c+768) / 4:=by
     cases r with
     | zero=>rfl
     | succ r=>simp only[Builtin.growBy];rw[if_pos qad]
    rw[this];omega
theorem uL(need old:Nat)(h:old<need):Builtin.nextslicecap need old<=2*need+192:=by
 unfold Builtin.nextslicecap;split
 ·exact qad
 ·split
  ·exact qad
  ·exact ze 4 old need qad
section runs
variable{w:World}{t t2 e S B:Nat}{ti:TypeInfo}{zv:Value}{e2 t':TypeId}{os:List Value}
 {base:Option Addr} {len c n:Nat} {x:Value} {vs:List Value}
theorem fP(hu:P.underlying t=some (.slice e))(hi:P.info? e=some ti)(h2:P.underlying t2=some (.slice e2))(hs:ti.size=S)
  (hl:(Builtin.lenOf x).run P w = .ok n w) (hf:(Builtin.firstCells S n x).run P w = .ok vs.toArray w) (hfit:len+n<=c) :
  (Builtin.append_ #[t,t2] t' #[.slice base len c,x]).run P w=(match base with
   | some a=>(storeCells (a.add (len*S)) vs).run P w
   | none=>.ok () w).andThen fun _ w'=>.ok (.slice base (len+n) c) w':=by
 simp only[Builtin.append_];cases base<;>simp[run_underlying hu,run_underlying h2,sizeOf,bR hi,hs,hl,hf,hfit]
theorem uQ(hu:P.underlying t=some (.slice e))(hi:P.info? e=some ti)(h2:P.underlying t2=some (.slice e2))(hs:ti.size=S)(hb:ti.bytes=B)(hz:ti.zero=some zv)
  (hl:(Builtin.lenOf x).run P w = .ok n w) (hf:(Builtin.firstCells S n x).run P w.drew = .ok vs.toArray w.drew)
  (ho:(Builtin.firstCells S len (.slice base len c)).run P w.drew = .ok os.toArray w.drew) (hfit:c<len+n) (hB:0<B) (hmax:(2*(len+n)+192)*B<=281474976710656) :
  ∃(newCap:Nat) (rest:Array Value),len+n<=newCap/\rest.size=(newCap-(len+n))*zv.cells.size ∧
   (Builtin.append_ #[t,t2] t' #[.slice base len c,x]).run P w = .ok (.slice (some ⟨w.heap.size,0,none⟩) (len+n) newCap) (w.drew.alloc (.cells (os.toArray++vs.toArray++rest) e)):=by
 have hn1:¬(len+n<=c):=qad;have hcap:=uL (len+n) c hfit;have hbig:¬(281474976710656<Builtin.nextslicecap (len+n) c*B):=by
  have:=JU B hcap;omega
 have hB0:¬(B=0):=qad;obtain⟨K,hK⟩:∃ K,K=(len+n)+(w.tape w.drawn (.appendCap (len+n) c e))%(2^63-(len+n)):=⟨_,rfl⟩
 refine⟨K,Builtin.zeroCells zv.cells (K-(len+n)),by omega,by simp[Builtin.zeroCells],?_⟩;simp only[Builtin.append_];have hq:(Question.appendCap (len+n) c e).forced=false:=rfl;simp[run_underlying hu,run_underlying h2,sizeOf,bR hi,hs,hb,hl,hn1,hbig,hB0,hq,Question.cut,zeroValue,hz];rw[ho];simp only[Result.andThen_ok];rw[hf];have hK2:w.tape w.drawn (.appendCap (len+n) c e)%(9223372036854775808-(len+n))=K-(len+n):=by
  rw[hK,show(2:Nat)^63=9223372036854775808 from by decide];omega
 simp[newRow,<- hK];rw[hK2,<- Array.append_assoc];simp
end runs
end Go.AL
namespace Go.AL
open Go
variable{G:Nat->Option (List D)}{P:Program}{st:St}{o:Oper}
theorem Ul{C:Ctx}{H:AHeap}(nm:Nat):Tr C.U C H C ((nm,none)::H) where
 os:=rfl
 tape:=rfl
 output:=rfl
 size:=cF _
 shape _ cs _ fz h:=⟨cs,fz,h,rfl⟩
 frame _ _ _:=rfl
 names _ h:=⟨h,rfl⟩
 ros _ h:=h
 img n b k h1 h2 _:=by
  by_cases e:n=nm
  ·subst e;rw[ao]at h1;cases h1
  ·exact G4
 rob _ h _:=.inl h
theorem fM{H:AHeap}{nm n:Nat}{b:Blk}(h:AHeap.get ((nm,none)::H) n=some b):n≠nm/\H.get n=some b:=by
 by_cases e:n=nm
 ·subst e;rw[ao]at h;cases h
 ·rw[ai _ _ e]at h;exact⟨e,h⟩
theorem Ky{C:Ctx}{H:AHeap}(hH:P0 G C H)(nm:Nat):P0 G C ((nm,none)::H) where
 blk n b h:=hH.blk n b (fM h).2
 inj n n' b b' k h1 h2:=hH.inj n n' b b' k (fM h1).2 (fM h2).2
 ro:=hH.ro
 glob:=hH.glob
def Ctx.drew(C:Ctx):Ctx:={ C with w:=C.w.drew }
theorem jH{C:Ctx}{H:AHeap}:Tr C.U C H C.drew H where
 os:=rfl
 tape:=rfl
 output:=rfl
 size:=cF _
 shape _ cs _ fz h:=⟨cs,fz,h,rfl⟩
 frame _ _ _:=rfl
 names _ h:=⟨h,rfl⟩
 ros _ h:=h
 img n b _ h1 h2 _:=⟨n,b,h1,h2⟩
 rob _ h _:=.inl h
theorem iu{C:Ctx}{H:AHeap}(hH:P0 G C H):P0 G C.drew H where
 blk n b h:=⟨(hH.blk n b h).1,eD hH jH (hH.blk n b h).1 (hH.blk n b h).2 fun _ hk=>⟨rfl,fun hro=>hH.ro_apart hro n b h hk⟩⟩
 inj:=hH.inj
 ro:=hH.ro
 glob g ds h:=(hH.glob g ds h).later jH hH
theorem vC{C C' C'':Ctx}{H H' H'':AHeap}(h:Tr C.U C H C' H')(k:Tr C'.U C' H' C'' H''):Tr C.U C H C'' H'' :=
 h.trans (k.weaken fun nm hU=>(h.names nm hU).1)
theorem ut{w:World}{a:Option Addr}{n c:Nat}:(Builtin.lenOf (.slice a n c)).run P w = .ok n w:=rfl
theorem yC(C:Ctx)(nm S len newCap:Nat)(cs:Array Value)(e:TypeId)(hl:len<=newCap)(h:newCap*S<=cs.size) :
  O9 (C.alloc nm (.cells cs e)) (.sl nm S 0 len len false) (.slice (some ⟨C.w.heap.size,0,none⟩) len newCap):=by
 have:=O9.sl (C:=C.alloc nm (.cells cs e)) nm S 0 len len false C.w.heap.size newCap cs e (0,0) (.inr rfl) H7 hl hl (fun h=>by cases h) (eU _ _) uz;simpa using this
theorem ue{C:Ctx}{H:AHeap}(hH:P0 G C H){t t2 e e2 S B:Nat}{z:D}{nm':Nat}{els ys:List (List AV)}{base:Option Addr}{len c:Nat}{x:Value}{tys:Nat}{ad:Option Addr}{c2:Nat}
  (hT:cH P t e S B z) (h2:P.underlying t2=some (.slice e2)) (hn:¬ C.U nm') (hlen:els.length=len) (hels:∀ el,el∈els->el.length=S) (hys:∀ el,el∈ys->el.length=S)
  (hx:x = .slice ad ys.length c2) {os vs:List Value} (ho:(Builtin.firstCells S len (.slice base len c)).run P C.w.drew = .ok os.toArray C.w.drew) (hol:os.length=len*S)
  (hor:∀(q:Nat) (u:AV),els.flatten[q]?=some u->O9 C.drew u (os.getD q undef))
  (hv:(Builtin.firstCells S ys.length x).run P C.w.drew = .ok vs.toArray C.w.drew) (hvl:vs.length=ys.length*S) (hvr:∀(q:Nat) (u:AV),ys.flatten[q]?=some u->O9 C.drew u (vs.getD q undef))
  (hfit:c<len+ys.length) (hB:0<B) (hmax:(2*(len+ys.length)+192)*B<=281474976710656) :
  ∃(C':Ctx) (r:Value),(Builtin.append_ #[t,t2] tys #[.slice base len c,x]).run P C.w = .ok r C'.w/\O9 C' (.sl nm' S 0 (len+ys.length) (len+ys.length) false) r ∧
   P0 G C' ((nm',some (.arr S (els++ys)))::H)/\Tr C.U C H C' ((nm',some (.arr S (els++ys)))::H)/\(∀ n,C'.U n->C.U n\/n=nm'):=by
 obtain⟨hu,ti,i1,i2,i3,zv,i4,i5,i6⟩:=hT;obtain⟨newCap,rest,g1,g2,g3⟩:=uQ (P:=P) (w:=C.w) (t':=tys) (len:=len) (n:=ys.length) (c:=c) (base:=base) (x:=x) (vs:=vs) (os:=os) hu i1 h2 i2 i3 i4
  (by rw[hx];rfl) hv ho hfit hB hmax
 have hall:∀ el,el∈els++ys->el.length=S:=fun el h=>by
  rcases ft.1 h with h|h
  ·exact hels el h
  ·exact hys el h
 have hfe:els.flatten.length=len*S:=by rw[bh hels,hlen]
 have hrel:∀(q:Nat) (v:AV),(els++ys).flatten[q]?=some v->∃ y:Value,(os.toArray++vs.toArray++rest)[q]?=some y/\O9 C.drew v y:=by
  intro q v hq;rw[List.flatten_append]at hq;by_cases hlt:q<len*S
  ·rw[VX qad]at hq;refine⟨os.getD q undef,?_,hor q v hq⟩;rw[wdu fF,wdu fF];simp[jI,ew (show q<os.length by omega)]
  ·rw[VV qad,hfe]at hq;have hq2:=(nt.1 hq).1;rw[bh hys]at hq2;refine⟨vs.getD (q-len*S) undef,?_,hvr _ v hq⟩;rw[wdu fF,Array.getElem?_append_right fF];simp[jI,hol,ew (show q-len*S<vs.length by omega)]
 obtain⟨m1,m2⟩:=Ol (e:=e) (cs:=os.toArray++vs.toArray++rest) (iu hH) (nm:=nm') hn hall hrel;refine⟨_,_,g3,yC C.drew nm' S (len+ys.length) newCap _ e g1 ?_,m1,vC jH m2,fun n h=>h⟩;simp only[Array.size_append,List.size_toArray,hol,hvl,g2,i5,<- QH];apply JU;omega
theorem fe{a:Act}{x y:Operand}{t t2:TypeId}{w w':World}{s u r:Value}(ho:lF o x y t t2)(hx:a.eval x=s)(hy:a.eval y=u)(h:(Builtin.append_ #[t,t2] o.type #[s,u]).run P w = .ok r w') :
  (execOp a.eval o).run P w = .ok (.value r) w':=by
 unfold lF at ho;simp only[execOp,ho,resolve,invoke,builtin];simp[hx,hy,h]
theorem EA{t t2 e e2 S B:Nat}{z:D}{x y:Operand}{nm nm' len room:Nat}{tg:Bool}{els ys:List (List AV)}(ho:lF o x y t t2)(hT:cH P t e S B z)(h2:P.underlying t2=some (.slice e2))
  (hx:st.ev G x = .sl nm S 0 len room tg) (hg:st.heap.get nm=some (.arr S els)) (hlen:els.length=len) (hroom:room<=len) (hy:Els st.heap S (st.ev G y) ys)
  (hsc:∀ el,el∈ys->∀ v,v∈el->v.scalar=true) (hB:0<B) (hmax:(2*(len+ys.length)+192)*B<=281474976710656) :
  StepOp G P st o (.sl nm' S 0 (len+ys.length) (len+ys.length) false) ((nm',some (.arr S (els++ys)))::(nm,none)::st.heap) (· = nm'):=by
 intro C a hH hop hn;have hn':=hn nm' rfl;have hmx:x∈o.op.operands:=G5;have hmy:y∈o.op.operands:=G5;have hxr:=hx ▸ hop x hmx;have hyr:=hop y hmy;have hEx:Els st.heap S (.sl nm S 0 len room tg) ((els.drop 0).take len):=.sl nm 0 len room tg els hg qad;have e0:(els.drop 0).take len=els:=by simp[pT,hlen]
 rw[e0]at hEx;obtain⟨hysz,ad,c2,vs,y1,y2,y3,y4,_⟩:=gf (P:=P) hH hy hyr;obtain⟨helsz,ad1,c1,os,x1,x2,x3,x4,_⟩:=gf (P:=P) (iu hH) hEx (hxr.later jH hH);obtain⟨_,ad3,c3,vs3,w1,w2,w3,w4,_⟩:=gf (P:=P) (iu hH) hy (hyr.later jH hH);have grow:∀ base c,a.eval x = .slice base len c->c<len+ys.length->∃(C':Ctx) (r:Next),(execOp a.eval o).run P C.w = .ok r C'.w/\((∃ x,r = .value x/\O9 C' (.sl nm' S 0 (len+ys.length) (len+ys.length) false) x)\/(r = .skip/\AV.sl nm' S 0 (len+ys.length) (len+ys.length) false = .top)) ∧
   P0 G C' ((nm',some (.arr S (els++ys)))::(nm,none)::st.heap)/\Tr C.U C st.heap C' ((nm',some (.arr S (els++ys)))::(nm,none)::st.heap)/\(∀ n,C'.U n->C.U n\/n=nm'):=by
  intro base c hxv hc;rw[hxv]at x1 x3;have hlen2:(Builtin.firstCells S len (.slice base len c)).run P C.w.drew = .ok os.toArray C.w.drew:=by rw[<- hlen];exact(hlen ▸ x3)
  obtain⟨C',r,q1,q2,q3,q4,q5⟩:=ue (P:=P) (tys:=o.type) (Ky hH nm) hT h2 hn' hlen helsz hysz y1 hlen2 (by rw[x2,hlen]) x4 (w3) w2 w4 hc hB hmax;exact⟨C',.value r,fe ho hxv rfl q1,.inl ⟨r,rfl,q2⟩,q3,vC (Ul nm) q4,q5⟩
 rcases fS hxr with⟨k,c,cs,e',fz,hU,hb,hl,hr,ht,hh,hs,hxv⟩|⟨hU,hl0,hr0,ad0,hxv⟩
 ·by_cases hc:len+ys.length<=c
  ·-- in place
   obtain⟨cs0,e1,hh0,hro,hsz,hcl,hcs⟩:=lv (hH.blk nm _ hg).2 hb;rw[hh]at hh0;cases hh0;simp only[jj]at hs;have hfitn:(len+ys.length)*S<=cs.size:=Nat.le_trans (JU S hc) hs;have hfit0:len*S+ys.length*S<=cs.size:=by rw[<- QH];exact hfitn
   have hone:=vA (C:=C) hsc qgd y4;obtain⟨cs',s1,s2⟩:=gW (P:=P) (len*S) vs 0 C.w cs hh hone (by simp[y2];omega);simp only[Lq]at s2;have hszs:cs'.size=cs.size:=by
    have:=congrArg List.length s2;rw[eu (by simp[y2];omega)]at this;simpa using this
   let C':Ctx:={ U:=fun n=>C.U n\/n=nm',β:=fun n=>if n=nm' then some k else C.β n,RO:=C.RO,w:=C.w.putObj k (.cells cs' e' (0,0)) }
   have hb':C'.β nm'=some k:=by simp[C']
   have hβ:∀ n,n≠nm'->C'.β n=C.β n:=fun n h=>by simp[C',h]
   have himg:∀ n b k',AHeap.get ((nm',some (.arr S (els++ys)))::(nm,none)::st.heap) n=some b->C'.β n=some k'->k'<C.w.heap.size->∃ n0 b0,st.heap.get n0=some b0/\C.β n0=some k':=by
    intro n b k' a1 a2 _;by_cases en:n=nm'
    ·subst en;rw[hb']at a2;cases a2;exact⟨nm,_,hg,hb⟩
    ·rw[ai _ _ en]at a1;rw[hβ n en]at a2;exact⟨n,b,(fM a1).2,a2⟩
   have htr:Tr C.U C st.heap C' ((nm',some (.arr S (els++ys)))::(nm,none)::st.heap):={
    os:=rfl,tape:=rfl,output:=rfl,size:=by simp[C'],
    shape:=fun j A t fz' hA=>by
     by_cases hj:j=k
     ·subst hj;rw[hh]at hA;cases hA;exact⟨cs',(0,0),dk hh,hszs⟩
     ·exact⟨A,fz',(World.putObj_heap_other hj).trans hA,rfl⟩
    frame:=fun j hj hnn=>World.putObj_heap_other (fun ej=>hnn nm _ hg (by rw[hb,ej]))
    names:=fun n h=>⟨.inl h,hβ n (fun en=>hn' (en ▸ h))⟩
    ros:=fun j h=>h
    img:=himg
    rob:=fun _ h _=>.inl h }
   have hall:∀ el,el∈els++ys->el.length=S:=fun el h=>by
    rcases ft.1 h with h|h
    ·exact hsz el h
    ·exact hysz el h
   have hfe:els.flatten.length=len*S:=by rw[bh hsz,hlen]
   have hbr:iL C' nm' (.arr S (els++ys)):=by
    refine sR (vs:=ys.flatten) hH htr hb' (dk hh) hro hall hcs s2 qgd (by rw[y2];omega) y4 ?_;intro q v hq;rw[List.flatten_append]at hq;by_cases hlt:q<len*S
    ·rw[VX qad]at hq;exact .inr ⟨.inl hlt,hq⟩
    ·rw[VV qad,hfe]at hq;exact .inl ⟨by omega,hq⟩
   refine⟨C',.value (.slice (some ⟨k,0*S,none⟩) (len+ys.length) c),?_,.inl ⟨_,rfl,?_⟩,⟨?_,?_,?_,?_⟩,htr,fun n h=>h⟩
   ·have:=fP (P:=P) (w:=C.w) (t':=o.type) (base:=some ⟨k,0*S,none⟩) (len:=len) (c:=c) (n:=ys.length) (x:=a.eval y) (vs:=vs) hT.1 hT.2.choose_spec.1 h2 hT.2.choose_spec.2.1
     qgc y3 hc
    refine fe ho hxv rfl (this.trans ?_);simp only[dY,Nat.zero_mul,jj,s1,Result.andThen_ok];rfl
   ·have:=O9.sl (C:=C') nm' S 0 (len+ys.length) (len+ys.length) false k c cs' e' (0,0) (.inr rfl) hb' hc hc (fun h=>by cases h) (dk hh) (by rw[hszs];simpa using hs);simpa using this
   ·intro n b hgn;by_cases en:n=nm'
    ·subst en;rw[ao]at hgn;cases hgn;exact⟨.inr rfl,hbr⟩
    ·rw[ai _ _ en]at hgn;obtain⟨en2,hgn⟩:=fM hgn;obtain⟨hU2,hB2⟩:=hH.blk n b hgn;refine⟨.inl hU2,eD hH htr hU2 hB2 fun j hj=>⟨World.putObj_heap_other (fun ej=>en2 ?_),fun hro2=>hH.ro_apart hro2 n b hgn hj⟩⟩;exact hH.inj n nm b _ k hgn hg (ej ▸ hj) hb
   ·intro n n' b1 b2 j a1 a2 e1 e2;have old:∀ n b,AHeap.get ((nm',some (.arr S (els++ys)))::(nm,none)::st.heap) n=some b->n≠nm'->n≠nm/\st.heap.get n=some b:=fun n b h en=>by
     rw[ai _ _ en]at h;exact fM h
    by_cases en:n=nm'
    ·by_cases en':n'=nm'
     ·rw[en,en']
     ·obtain⟨f1,f2⟩:=old n' b2 a2 en';rw[hβ n' en']at e2;rw[en,hb']at e1;cases e1;exact absurd (hH.inj n' nm b2 _ k f2 hg e2 hb) f1
    ·obtain⟨f1,f2⟩:=old n b1 a1 en;rw[hβ n en]at e1;by_cases en':n'=nm'
     ·rw[en',hb']at e2;cases e2;exact absurd (hH.inj n nm b1 _ k f2 hg e1 hb) f1
     ·obtain⟨f3,f4⟩:=old n' b2 a2 en';rw[hβ n' en']at e2;exact hH.inj n n' b1 b2 j f2 f4 e1 e2
   ·intro j hj;have:=hH.ro j hj;simpa[C'] using this
   ·intro g ds hgd;exact(hH.glob g ds hgd).later htr hH
  ·exact grow _ c hxv qad
 ·subst hl0;have hels0:els=[]:=QE.1 hlen;by_cases hy0:ys.length=0
  ·have hys0:ys=[]:=QE.1 hy0;subst hels0 hys0
   let C':Ctx:={ U:=fun n=>C.U n\/n=nm',β:=fun n=>if n=nm' then none else C.β n,RO:=C.RO,w:=C.w }
   have hβ:∀ n,n≠nm'->C'.β n=C.β n:=fun n h=>by simp[C',h]
   have htr:Tr C.U C st.heap C' ((nm',some (.arr S ([]++[])))::(nm,none)::st.heap):={
    os:=rfl,tape:=rfl,output:=rfl,size:=cF _,
    shape:=fun j A t fz' hA=>⟨A,fz',hA,rfl⟩
    frame:=fun j hj hnn=>rfl
    names:=fun n h=>⟨.inl h,hβ n (fun en=>hn' (en ▸ h))⟩
    ros:=fun j h=>h
    img:=fun n b k' a1 a2 _=>by
     by_cases en:n=nm'
     ·subst en;simp[C']at a2
     ·rw[ai _ _ en]at a1;rw[hβ n en]at a2;exact⟨n,b,(fM a1).2,a2⟩
    rob:=fun _ h _=>.inl h }
   refine⟨C',.value (.slice ad0 0 0),?_,.inl ⟨_,rfl,.sl0 nm' S 0 false ad0 (.inr rfl)⟩,⟨?_,?_,?_,?_⟩,htr,fun n h=>h⟩
   ·have:=fP (P:=P) (w:=C.w) (t':=o.type) (base:=ad0) (len:=0) (c:=0) (n:=0) (x:=a.eval y) (vs:=vs) hT.1 hT.2.choose_spec.1 h2 hT.2.choose_spec.2.1
     qgc y3 (cF _)
    have hvs:vs=[]:=QE.1 (by simpa using y2);refine fe ho hxv rfl (this.trans ?_);subst hvs;cases ad0<;>simp[storeCells,C']
   ·intro n b hgn;by_cases en:n=nm'
    ·exact qfm
    ·rw[ai _ _ en]at hgn;obtain⟨en2,hgn⟩:=fM hgn;obtain⟨hU2,hB2⟩:=hH.blk n b hgn;exact⟨.inl hU2,eD hH htr hU2 hB2 fun j hj=>⟨rfl,fun hro2=>hH.ro_apart hro2 n b hgn hj⟩⟩
   ·intro n n' b1 b2 j a1 a2 e1 e2;by_cases en:n=nm'
    ·rw[en]at e1;simp[C']at e1
    ·by_cases en':n'=nm'
     ·rw[en']at e2;simp[C']at e2
     ·rw[ai _ _ en]at a1;rw[ai _ _ en']at a2;rw[hβ n en]at e1;rw[hβ n' en']at e2;exact hH.inj n n' b1 b2 j (fM a1).2 (fM a2).2 e1 e2
   ·exact hH.ro
   ·intro g ds hgd;exact(hH.glob g ds hgd).later htr hH
  ·exact grow ad0 0 hxv qad
end Go.AL
namespace Go.AL
open Go
variable{G:Nat->Option (List D)}{P:Program}{st:St}{o:Oper}
theorem gM{C:Ctx}{H:AHeap}(hH:P0 G C H){nm' S:Nat}(hn':¬ C.U nm') :
  ∃ C':Ctx,C'.w=C.w/\P0 G C' ((nm',some (.arr S []))::H)/\Tr C.U C H C' ((nm',some (.arr S []))::H)/\(∀ n,C'.U n->C.U n\/n=nm')/\C'.U nm':=by
 let C':Ctx:={ U:=fun n=>C.U n\/n=nm',β:=fun n=>if n=nm' then none else C.β n,RO:=C.RO,w:=C.w }
 have hβ:∀ n,n≠nm'->C'.β n=C.β n:=fun n h=>by simp[C',h]
 have htr:Tr C.U C H C' ((nm',some (.arr S []))::H):={
  os:=rfl,tape:=rfl,output:=rfl,size:=cF _,
  shape:=fun j A t fz' hA=>⟨A,fz',hA,rfl⟩
  frame:=fun j hj hnn=>rfl
  names:=fun n h=>⟨.inl h,hβ n (fun en=>hn' (en ▸ h))⟩
  ros:=fun j h=>h
  img:=fun n b k' a1 a2 _=>by
   by_cases en:n=nm'
   ·subst en;simp[C']at a2
   ·rw[ai _ _ en]at a1;rw[hβ n en]at a2;exact⟨n,b,a1,a2⟩
  rob:=fun _ h _=>.inl h }
 refine⟨C',rfl,⟨?_,?_,hH.ro,fun g ds hgd=>(hH.glob g ds hgd).later htr hH⟩,htr,fun n h=>h,.inr rfl⟩
 ·intro n b hgn;by_cases en:n=nm'
  ·exact qfm
  ·rw[ai _ _ en]at hgn;obtain⟨hU2,hB2⟩:=hH.blk n b hgn;exact⟨.inl hU2,eD hH htr hU2 hB2 fun j hj=>⟨rfl,fun hro2=>hH.ro_apart hro2 n b hgn hj⟩⟩
 ·intro n n' b1 b2 j a1 a2 e1 e2;by_cases en:n=nm'
  ·rw[en]at e1;simp[C']at e1
  ·by_cases en':n'=nm'
   ·rw[en']at e2;simp[C']at e2
   ·rw[ai _ _ en]at a1;rw[ai _ _ en']at a2;rw[hβ n en]at e1;rw[hβ n' en']at e2;exact hH.inj n n' b1 b2 j a1 a2 e1 e2
theorem xI{t t2 e e2 S B:Nat}{z:D}{x y:Operand}{nm':Nat}{es:List (List D)}{ys:List (List AV)}(ho:lF o x y t t2)(hT:cH P t e S B z)(h2:P.underlying t2=some (.slice e2))
  (hx:st.ev G x = .d (.sl es true)) (hes:∀ el,el∈es->el.length=S) (hy:Els st.heap S (st.ev G y) ys) (hne:ys≠[]\/es=[])
  (hB:0<B) (hmax:(2*(es.length+ys.length)+192)*B<=281474976710656) :
  StepOp G P st o (.sl nm' S 0 (es.length+ys.length) (es.length+ys.length) false) ((nm',some (.arr S (es.map (·.map .d)++ys)))::st.heap) (· = nm'):=by
 intro C a hH hop hn;have hn':=hn nm' rfl;have hmx:x∈o.op.operands:=G5;have hmy:y∈o.op.operands:=G5;have hxr:=hx ▸ hop x hmx;have hyr:=hop y hmy;have hEx:Els st.heap S (.d (.sl es true)) (es.map (·.map .d)):=.d es true hes;obtain⟨_,ad,c2,vs,y1,y2,y3,y4,_⟩:=gf (P:=P) hH hy hyr;obtain⟨helsz,ad1,c1,os,x1,x2,x3,x4,_⟩:=gf (P:=P) (iu hH) hEx (hxr.later jH hH);obtain⟨hysz,ad3,c3,vs3,w1,w2,w3,w4,_⟩:=gf (P:=P) (iu hH) hy (hyr.later jH hH);obtain⟨ad0,c0,hxv,_,htight⟩:=vj (bZ hxr);have hc0:=htight rfl;subst hc0;have hml:(es.map (fun l:List D=>l.map AV.d)).length=es.length:=aR;by_cases hy0:ys=[]
 ·subst hy0;have hes0:es=[]:=hne.resolve_left (fun h=>h rfl);subst hes0;obtain⟨C',g1,g2,g3,g4,g5⟩:=gM (S:=S) hH hn';refine⟨C',.value (.slice ad0 0 0),?_,.inl ⟨_,rfl,.sl0 nm' S 0 false ad0 g5⟩,g2,g3,g4⟩;have:=fP (P:=P) (w:=C.w) (t':=o.type) (base:=ad0) (len:=0) (c:=0) (n:=0) (x:=a.eval y) (vs:=vs) hT.1 hT.2.choose_spec.1 h2 hT.2.choose_spec.2.1
   qgc y3 (cF _)
  have hvs:vs=[]:=QE.1 (by simpa using y2);rw[g1];refine fe ho hxv rfl (this.trans ?_);subst hvs;cases ad0<;>simp[storeCells]
 ·have hlt:es.length<es.length+ys.length:=by
   have:ys.length≠0:=fun h=>hy0 (QE.1 h);omega
  rw[hxv]at x1 x3;rw[hml]at x2 x3;obtain⟨C',r,q1,q2,q3,q4,q5⟩:=ue (P:=P) (tys:=o.type) hH hT h2 hn' hml helsz hysz y1 x3 x2 x4 w3 w2 w4 hlt hB hmax;exact⟨C',.value r,fe ho hxv rfl q1,.inl ⟨r,rfl,q2⟩,q3,q4,q5⟩
theorem tH{t t2 e e2 S B:Nat}{z:D}{x y:Operand}{nm lo len room:Nat}{tg:Bool}{els ys:List (List AV)}(ho:lF o x y t t2)(hT:cH P t e S B z)(h2:P.underlying t2=some (.slice e2))
  (hx:st.ev G x = .sl nm S lo len room tg) (hg:st.heap.get nm=some (.arr S els)) (hroom:len+ys.length<=room) (hfit:lo+(len+ys.length)<=els.length) (hy:Els st.heap S (st.ev G y) ys)
  (hsc:∀ el,el∈ys->∀ v,v∈el->v.scalar=true) :
  StepOp G P st o (.sl nm S lo (len+ys.length) room tg) ((nm,some (.arr S (bU els (lo+len) ys)))::st.heap) (fun _=>False):=by
 intro C a hH hop _;have hmx:x∈o.op.operands:=G5;have hmy:y∈o.op.operands:=G5;have hxr:=hx ▸ hop x hmx;have hyr:=hop y hmy;obtain⟨hysz,ad,c2,vs,y1,y2,y3,y4,_⟩:=gf (P:=P) hH hy hyr;rcases fS hxr with⟨k,c,cs,e',fz,hU,hb,hl,hr,ht,hh,hs,hxv⟩|⟨hU,hl0,hr0,ad0,hxv⟩
 ·have hone:=vA (C:=C) hsc qgd y4;obtain⟨cs',e1,g1,g2,g3⟩:=AE (C:=C) hH hg hb hysz (i0:=lo+len) qad y2 hone y4;refine⟨_,.value (.slice (some ⟨k,lo*S,none⟩) (len+ys.length) c),?_,.inl ⟨_,rfl,?_⟩,g2,g3,fun n h=>.inl h⟩
  ·have:=fP (P:=P) (w:=C.w) (t':=o.type) (base:=some ⟨k,lo*S,none⟩) (len:=len) (c:=c) (n:=ys.length) (x:=a.eval y) (vs:=vs) hT.1 hT.2.choose_spec.1 h2 hT.2.choose_spec.2.1
    qgc y3 qad
   refine fe ho hxv rfl (this.trans ?_);simp only[dY];rw[<- QH,g1 P];rfl
  ·have h0:=O9.sl (C:=C) nm S lo (len+ys.length) room tg k c cs e' fz hU hb qad hr ht hh hs;exact h0.later g3 hH
 ·subst hl0 hr0;have hys:ys=[]:=wdi qad;subst hys;have hvs:vs=[]:=wdi (by simpa using y2);subst hvs;have hov:bU els (lo+0) ([]:List (List AV))=els:=by simp[bU]
  refine⟨C,.value (.slice ad0 0 0),?_,.inl ⟨_,rfl,.sl0 _ _ _ _ _ hU⟩,?_,?_,fun n h=>.inl h⟩
  ·have:=fP (P:=P) (w:=C.w) (t':=o.type) (base:=ad0) (len:=0) (c:=0) (n:=0) (x:=a.eval y) (vs:=[]) hT.1 hT.2.choose_spec.1 h2 hT.2.choose_spec.2.1
    qgc y3 qad
   refine fe ho hxv rfl (this.trans ?_);cases ad0<;>simp[storeCells]
  ·exact qib
  ·exact qip
theorem Ji(a b:Nat):Nat.min a b=min a b:=rfl
theorem KW{t e S B:Nat}{z:D}{x y:Operand}{tys:Array TypeId}{nm lo len room:Nat}{tg:Bool}{els ys:List (List AV)}(ho:o.op = .call { callee:=.builtin .copy,args:=#[x,y],argTypes:=tys })(ht:tys[0]?=some t)(hT:cH P t e S B z)
  (hx:st.ev G x = .sl nm S lo len room tg) (hg:st.heap.get nm=some (.arr S els)) (hy:Els st.heap S (st.ev G y) ys) (hfit:lo+len<=els.length)
  (hsc:∀ el,el∈ys->∀ v,v∈el->v.scalar=true) :
  StepOp G P st o (.d (.int .i64 ((min ys.length len:Nat):Int))) ((nm,some (.arr S (bU els lo (ys.take len))))::st.heap) (fun _=>False):=by
 intro C a hH hop _;have hxr:=hx ▸ hop x Pu;have hyr:=hop y Pu;obtain⟨hysz,ad,c2,vs,y1,y2,y3,y4,y5⟩:=gf (P:=P) hH hy hyr;have hm:(ys.take len).length=min ys.length len:=by rw[BZ,Nat.min_comm]
 have htake:∀ el,el∈ys.take len->el.length=S:=fun el h=>hysz el (Ci h);have hvl:(vs.take (min ys.length len*S)).length=(ys.take len).length*S:=by
  rw[BZ,y2,hm];exact Uv (JU S (Nat.min_le_left _ _))
 have hvr:∀(q:Nat) (u:AV),(ys.take len).flatten[q]?=some u->O9 C u ((vs.take (min ys.length len*S)).getD q undef):=by
  intro q u hq;have hq2:=(nt.1 hq).1;rw[bh htake]at hq2;rw[mq _ hysz,Fb]at hq;split at hq
  ·have:=y4 q u hq;rw[jI]at this⊢;rw[Fb,if_pos (by rw[<- hm];exact hq2)];exact this
  ·cases hq
 have h5:=y5 (min ys.length len) (Nat.min_le_left _ _);have hsc':∀ el,el∈ys.take len->∀ v,v∈el->v.scalar=true:=fun el h=>hsc el (Ci h);rcases fS hxr with⟨k,c,cs,e',fz,hU,hb,hl,hr,htt,hh,hs,hxv⟩|⟨hU,hl0,hr0,ad0,hxv⟩
 ·have hone:=vA (C:=C) hsc' (by rw[hvl,bh htake]) hvr;obtain⟨cs',e1,g1,g2,g3⟩:=AE (C:=C) hH hg hb htake (i0:=lo) (by rw[hm];have:=Nat.min_le_right ys.length len;omega) hvl hone hvr;refine⟨_,.value (.int .i64 ((min ys.length len:Nat):Int)),?_,.inl ⟨_,rfl,fw _ _⟩,g2,g3,fun n h=>.inl h⟩
  ·simp only[execOp,ho,resolve,invoke,builtin,Builtin.copy_];rw[y1]at h5;simp[ht,hxv,y1,run_underlying hT.1,EOk.size hT.2,ut,Ji,h5,g1 P,goInt,Ctx.put]
 ·subst hl0;have hov:bU els lo (ys.take 0)=els:=by simp[bU]
  refine⟨C,.value (.int .i64 0),?_,.inl ⟨_,rfl,?_⟩,?_,?_,fun n h=>.inl h⟩
  ·simp only[execOp,ho,resolve,invoke,builtin,Builtin.copy_];have h0:=y5 0 (dW _);rw[y1]at h0;simp[ht,hxv,y1,run_underlying hT.1,EOk.size hT.2,ut,Ji,h0,goInt];cases ad0<;>simp[storeCells]
  ·simpa using fw (C:=C) .i64 0
  ·exact qib
  ·exact qip
end Go.AL
namespace Go.AL
open Go
variable{G:Nat->Option (List D)}{P:Program}{st:St}{o:Oper}
theorem qy{α:Type}{zs:List α}{S:Nat}(hzl:zs.length=S){n q:Nat}{v:α}(hq:(List.replicate n zs).flatten[q]?=some v):q<n*S/\zs[q%S]?=some v:=by
 obtain⟨i,j,l,a1,a2,a3⟩:=fV (sz:=S) (fun l hl=>by rw[Ux hl,hzl]) hq;have hl:=Ux (ye a1);subst hl;have hi:i<n:=qf7;have hj:j<S:=qg7;have hlt:q<n*S:=by
  have:=JU S (show i+1<=n from hi);rw[Lp]at this;omega
 exact⟨hlt,by rw[a3,Wd,Nat.mul_add_mod,Uz hj];exact a2⟩
theorem ng{t e S B len:Nat}{z:D}{ps:Array (Nat×Operand)}{zs:List AV}{els:List (List AV)}{nm:Nat}(ho:o.op = .buildSlice t len ps)(hT:cH P t e S B z)
  (hz:(AV.d z).cells=zs) (hk:(AV.d z).known=true) (hf:pI ((List.range len).map fun i=>(i*S,S)) (List.replicate len zs).flatten (ps.toList.map fun p=>(p.1,st.ev G p.2))=some els.flatten)
  (hel:∀ el,el∈els->el.length=S) (hlen:els.length=len) (hbig:len*S<=16777216) :
  StepOp G P st o (.sl nm S 0 len len true) ((nm,some (.arr S els))::st.heap) (· = nm):=by
 intro C a hH hop hn;obtain⟨hu,ti,i1,i2,i3,zv,i4,i5,i6⟩:=hT;obtain⟨q1,q2⟩:=io (C:=C) hk (.d _ _ (i6 C.w C.RO));rw[hz]at q1 q2;have hzl:zs.length=S:=by rw[<- q1,i5]
 have hsize:(sizeOf e).run P C.w = .ok S C.w:=by simp[sizeOf,bR i1,i2]
 have hparts:∀(j i:Nat) (v:AV),(ps.toList.map fun p=>(p.1,st.ev G p.2))[j]?=some (i,v)->∃ x:Value,(ps.map (fun p=>(p.1,a.eval p.2))).toList[j]?=some (i,x)/\O9 C v x:=by
  intro j i v h;simp only[mV,tT]at h;obtain⟨p,hp,h⟩:=h;simp only[Cl]at h;obtain⟨rfl,rfl⟩:=h;refine⟨a.eval p.2,by simp at hp;simp[hp],hop p.2 ?_⟩;simp only[ho,Op.operands];simp only[List.mem_toArray,bm];exact⟨p,ye hp,rfl⟩
 obtain⟨zc,hzc,hzr⟩:∃ zc:Array Value,((if len*S=0 then pure #[] else do pure (<- zeroValue e).cells:Sem (Array Value)).run P C.w).andThen (fun zero w=>.ok ((Array.range (len*S)).map (zero[· % zero.size]!)) w) = .ok zc C.w ∧
   zc.size=len*S /\ ∀(q:Nat) (v:AV),(List.replicate len zs).flatten[q]?=some v->O9 C v (zc.getD q undef):=by
  by_cases h0:len*S=0
  ·refine⟨#[],by simp[h0,Array.range],by simp[h0],fun q v hq=>?_⟩;have:=(qy hzl hq).1;omega
  ·refine⟨(Array.range (len*S)).map (fun x=>zv.cells[x%zv.cells.size]!),by simp[h0,zeroValue,bR i1,i4],by simp,fun q v hq=>?_⟩;obtain⟨hlt,hm⟩:=qy hzl hq;have:=tZ zv.cells len q (by rw[i5];exact hlt);rw[i5]at this;rw[JT,i5,this];exact q2 _ v hm
 have hpl:∀(i:Nat) (x:Nat×Nat),((List.range len).map fun i=>(i*S,S))[i]?=some x->some (i*S,S)=some x:=by
  intro i x h;simp only[mV,tT]at h;obtain⟨j,hj,rfl⟩:=h;have:=nt.1 hj;obtain⟨h1,h2⟩:=this;simp at h2;subst h2;rfl
 have hrl:(List.replicate len zs).flatten.length=len*S:=by rw[bh (fun l hl=>by rw[Ux hl,hzl])];simp
 obtain⟨cs',g1,g2,g3⟩:=ra (C:=C) (fun i=>some (i*S,S)) _ hpl _ (ps.map (fun p=>(p.1,a.eval p.2))).toList _ els.flatten zc hf (by rw[hzr.1,hrl]) hzr.2 aR hparts;obtain⟨m1,m2⟩:=Ol (e:=e) (cs:=cs') hH (hn nm rfl) hel (fun q v hq=>by
  have hlt:q<cs'.size:=by rw[g2];exact(nt.1 hq).1
  exact⟨cs'.getD q undef,by simp[Array.getD,hlt],g3 q v hq⟩)
 refine⟨_,.value (.slice (some ⟨C.w.heap.size,0,none⟩) len len),?_,.inl ⟨_,rfl,Cr C nm S len _ _ (by rw[g2,bh hel,hlen];exact cF _)⟩,m1,m2,fun n hU=>hU⟩;simp only[execOp,ho,Instr.buildSlice,newRow];have hb2:¬(len*S>2^24):=by rw[show(2:Nat)^24=16777216 from by decide];omega
 have g1':Instr.fill (fun i=>some (i*S,S)) zc (Array.map (fun x=>match x with|(i,x)=>(i,a.eval x)) ps).toList=some cs':=g1;simp only[Sem.run_bind,run_underlying hu,Result.andThen_ok,hsize];rw[if_neg hb2];have hz3:=hzc;by_cases h0:len*S=0
 ·simp only[h0,if_true]at hz3⊢;simp at hz3 g1'⊢;rw[hz3];simp[g1',Ctx.alloc]
 ·simp only[h0,if_false]at hz3⊢;simp[zeroValue,bR i1,i4]at hz3 g1'⊢;rw[hz3];simp[g1',Ctx.alloc]
def ZH(f:FuncId)(first cap:List AV):AV:=match mh first,mh cap with
 | some a,some b=>.d (.fn f a b)
 | _,_=>.fn f first cap
theorem yq{f:FuncId}{first cap:Array Operand}(ho:o.op = .makeFunc (.func f) first cap):PureOp G P st o (ZH f (first.toList.map (st.ev G)) (cap.toList.map (st.ev G))):=by
 intro C a hH hop;have h1:∀ i d,(first.toList.map (st.ev G))[i]?=some d->O9 C d ((first.map a.eval).getD i undef):=by
  intro i d h;simp only[mV,tT]at h;obtain⟨p,hp,rfl⟩:=h;have hp':first[i]?=some p:=qhu
  have hlt:=(BU.1 hp').1;have hm:p∈first:=xW hp'
  have:(first.map a.eval).getD i undef=a.eval p:=by
   have he:=(BU.1 hp').2;simp[Array.getD,hlt,he]
  rw[this];exact hop p (by simp only[ho,Op.operands];exact Array.mem_append.2 (.inl hm))
 have h2:∀ i d,(cap.toList.map (st.ev G))[i]?=some d->O9 C d ((cap.map a.eval).getD i undef):=by
  intro i d h;simp only[mV,tT]at h;obtain⟨p,hp,rfl⟩:=h;have hp':cap[i]?=some p:=qhu;have hlt:=(BU.1 hp').1;have hm:p∈cap:=xW hp';have:(cap.map a.eval).getD i undef=a.eval p:=by
   have he:=(BU.1 hp').2;simp[Array.getD,hlt,he]
  rw[this];exact hop p (by simp only[ho,Op.operands];exact Array.mem_append.2 (.inr hm))
 refine⟨.func (.func f) (first.map a.eval) (cap.map a.eval),by simp[execOp,ho,Instr.makeFunc],?_⟩;unfold ZH;split
 ·rename_i A B hA hB;have eA:=fu _ _ hA;have eB:=fu _ _ hB;have l1:=congrArg List.length eA;have l2:=congrArg List.length eB;refine .d _ _ (.fn f A B _ _ (by simpa using l1) (by simpa using l2) (fun i d hi=>?_) (fun i d hi=>?_))
  ·exact bZ (h1 i (.d d) (by rw[eA];simp[hi]))
  ·exact bZ (h2 i (.d d) (by rw[eB];simp[hi]))
 ·exact .fn f _ _ _ _ aR aR h1 h2
theorem Pk{x y:Operand}{tys:Array TypeId}{k k':IntKind}{p q:Int}(ho:o.op = .call { callee:=.builtin .min,args:=#[x,y],argTypes:=tys })(hx:st.ev G x = .d (.int k p))(hy:st.ev G y = .d (.int k' q)) :
  PureOp G P st o (.d (.int k (if q<p then q else p))):=by
 intro C a hH hop;have h1:=br (hx ▸ hop x Pu);have h2:=br (hy ▸ hop y Pu);exact⟨_,by simp[execOp,ho,resolve,invoke,builtin,Builtin.min_,h1,h2,Builtin.min2],fw _ _⟩
theorem Pj{x y:Operand}{tys:Array TypeId}{k k':IntKind}{p q:Int}(ho:o.op = .call { callee:=.builtin .max,args:=#[x,y],argTypes:=tys })(hx:st.ev G x = .d (.int k p))(hy:st.ev G y = .d (.int k' q)) :
  PureOp G P st o (.d (.int k (if q>p then q else p))):=by
 intro C a hH hop;have h1:=br (hx ▸ hop x Pu);have h2:=br (hy ▸ hop y Pu);exact⟨_,by simp[execOp,ho,resolve,invoke,builtin,Builtin.max_,h1,h2,Builtin.max2],fw _ _⟩
theorem Aj{w:World}{t:TypeId}(ht:P.underlying t=some .bool)(d:Nat)(p q:Bool):(Op.equalIn (d+1) t (.bool p) (.bool q)).run P w = .ok (p==q) w:=by
 simp[Op.equalIn,run_underlying ht]
theorem wt{w:World}{t:TypeId}(ht:P.underlying t=some .bool)(p q:Bool):(Op.equal t (.bool p) (.bool q)).run P w = .ok (p==q) w:=Aj ht 9999 p q
theorem Bj{t t':TypeId}{x y:Operand}{p q:Bool}(ho:o.op = .binOp .eql t x y t')(ht:P.underlying t=some .bool)(hx:st.ev G x = .d (.bool p))(hy:st.ev G y = .d (.bool q)) :
  PureOp G P st o (.d (.bool (p==q))):=by
 intro C a hH hop;have h1:=fC (hx ▸ hop x fI);have h2:=fC (hy ▸ hop y fI);refine⟨_,?_,fh _⟩;simp only[execOp,ho,h1,h2,eqGuard,binOp,Sem.run_bind,wt ht,Result.andThen_ok,Sem.run_pure];rfl
theorem yr{t t':TypeId}{x y:Operand}{p q:Bool}(ho:o.op = .binOp .neq t x y t')(ht:P.underlying t=some .bool)(hx:st.ev G x = .d (.bool p))(hy:st.ev G y = .d (.bool q)) :
  PureOp G P st o (.d (.bool (!(p==q)))):=by
 intro C a hH hop;have h1:=fC (hx ▸ hop x fI);have h2:=fC (hy ▸ hop y fI);refine⟨_,?_,fh _⟩;simp only[execOp,ho,h1,h2,eqGuard,binOp,Sem.run_bind,wt ht,Result.andThen_ok,Sem.run_pure];rfl
theorem yt{t e S B:Nat}{z:D}{x:Operand}{lo' hi':Option Operand}{es:List (List D)}{l h:Nat}{tg:Bool}(ho:o.op = .slice t x lo' hi' none)(hT:cH P t e S B z)(hx:st.ev G x = .d (.sl es tg))
  (hl:Fz G st lo' 0 l) (hh:Fz G st hi' es.length h) (h1:l<=h) (h2:h<=es.length) (hes:∀ el,el∈es->el.length=S):PureOp G P st o (.d (.sl ((es.drop l).take (h-l)) (tg&&decide (h=es.length)))):=by
 intro C a hR hop;have hxr:=bZ (hx ▸ hop x fI);have key:∀ c,es.length<=c->(Instr.sliceBounds true es.length c (lo'.map a.eval) (hi'.map a.eval) none).run P C.w = .ok (l,h,c) C.w:=by
  intro c hc1;have b2:((match hi'.map a.eval with
   | some v=>Instr.sliceBound v c (if true=true then .sliceAcap else .sliceAlen)
   | none=>pure es.length):Sem Nat).run P C.w = .ok h C.w:=by
   cases hi' with
   | none=>simp only[Fz]at hh;subst hh;rfl
   | some y =>
    obtain⟨k,i,e1,e2,e3⟩:=hh;have:=br (e1 ▸ hop y fI);simp only[LP,this];rw[dA e2 qad,e3]
  have b3:((match lo'.map a.eval with
   | some v=>Instr.sliceBound v h .sliceB
   | none=>pure 0):Sem Nat).run P C.w = .ok l C.w:=by
   cases lo' with
   | none=>simp only[Fz]at hl;subst hl;rfl
   | some y =>
    obtain⟨k,i,e1,e2,e3⟩:=hl;have:=br (e1 ▸ hop y fI);simp only[LP,this];rw[dA e2 qad,e3]
  simp only[Instr.sliceBounds];cases hi'<;>cases lo'<;>simp_all
 have hlen:((es.drop l).take (h-l)).length=h-l:=fF;generalize hxv:a.eval x=xv at hxr;cases hxr with
 | sl0 _ ad c ht =>
  have hk:=key c aR;have e0:l=0:=by simp at h2;omega
  have e1:h=0:=qf4;subst e0 e1;simp at hk;refine⟨.slice ad 0 c,?_,.d _ _ ?_⟩
  ·simp only[execOp,ho,Instr.sliceAt,Instr.slice,hxv];simp[run_underlying hT.1,hk,EOk.size hT.2,dY];by_cases hc:c=0
   ·simp[hc]
   ·simp only[hc,if_false];cases ad with
    | none=>simp
    | some b=>simp[Addr.add]
  ·exact .sl0 _ ad c (fun q=>ht (by simp at q;exact q))
 | sl _ _ b o' c sz vs hro hc ht hsz hm hr =>
  have hk:=key c hc;refine⟨.slice (if c=l then some ⟨b,o',none⟩ else some ⟨b,o'+l*S,none⟩) (h-l) (c-l),?_,.d _ _ ?_⟩
  ·exact qjg
  ·by_cases hcl:c=l
   ·have e1:h-l=0:=by omega
    rw[if_pos hcl,e1,List.take_zero];exact .sl0 _ _ _ (fun q=>by omega)
   ·rw[if_neg hcl];have hget:∀ i el,((es.drop l).take (h-l))[i]?=some el->es[l+i]?=some el:=fun i el hi=>by
     rw[Fb]at hi;split at hi
     ·exact B3
     ·cases hi
    have hshift:∀ i j el d,((es.drop l).take (h-l))[i]?=some el->el[j]?=some d->C.w.cell? ⟨b,o'+l*S+i*S+j,none⟩=some (vs (l+i) j):=fun i j el d a1 a2=>by
     have hg:=hget i el a1;have e1:sz=S:=by rw[<- hsz el (ye hg)];exact hes el (ye hg)
     subst e1;have:=hm _ j el d hg a2;rw[<- this];congr 2;rw[QH];omega
    have:=P1.sl (w:=C.w) (RO:=C.RO) ((es.drop l).take (h-l)) (tg&&decide (h=es.length)) b (o'+l*S) (c-l) S (fun i j=>vs (l+i) j) hro (by rw[hlen];omega)
     (fun q=>by simp at q;have:=ht q.1;rw[hlen];omega) (fun el hel=>hes el (wds (Ci hel))) hshift (fun i j el d a1 a2=>hr _ j el d (hget i el a1) a2)
    rw[hlen]at this;exact this
theorem na{t e S B:Nat}{z:D}{x p q r:Operand}{v:AV}{k1 k2 k3:IntKind}(ho:o.op = .slice t x none (some q) (some r))(hT:cH P t e S B z)(hx:st.ev G x=v)
  (hv:(∃ es tg,v = .d (.sl es tg)) \/ ∃ nm sz lo len room tg,v = .sl nm sz lo len room tg) (hq:st.ev G q = .d (.int k2 0)) (hr:st.ev G r = .d (.int k3 0)):PureOp G P st o (.d (.sl [] true)):=by
 intro C a hR hop;have h0:=hx ▸ hop x fI;have e2:=br (hq ▸ hop q fI);have e3:=br (hr ▸ hop r fI);obtain⟨ad,n,c,hxv⟩:∃ ad n c,a.eval x = .slice ad n c:=by
  rcases hv with⟨es,tg,rfl⟩|⟨nm,sz,lo,len,room,tg,rfl⟩
  ·obtain⟨ad,c,h,_⟩:=vj (bZ h0);exact⟨ad,_,c,h⟩
  ·rcases fS h0 with⟨k,c,cs,e',fz,_,_,_,_,_,_,_,hxv⟩|⟨_,_,_,ad,hxv⟩
   ·exact⟨_,_,c,hxv⟩
   ·exact⟨ad,0,0,hxv⟩
 refine⟨.slice ad 0 0,?_,.d _ _ (.sl0 true ad 0 (fun _=>rfl))⟩;simp only[execOp,ho,Instr.sliceAt,Instr.slice,hxv];simp[run_underlying hT.1,EOk.size hT.2,Instr.sliceBounds,e2,e3,Instr.sliceBound,asIntOf]
end Go.AL
namespace Go.AL
open Go
variable{G:Nat->Option (List D)}{P:Program}{st:St}{o:Oper}
theorem xD{C:Ctx}{H:AHeap}{nm:Nat}{b:Blk}(hH:P0 G C H)(hg:H.get nm=some b):P0 G C ((nm,some b)::H)/\Tr C.U C H C ((nm,some b)::H):=by
 have old:∀ n b',AHeap.get ((nm,some b)::H) n=some b'->H.get n=some b':=fun n b' h=>by
  by_cases en:n=nm
  ·exact qew
  ·exact qhe
 refine⟨⟨fun n b' h=>hH.blk n b' (old n b' h),fun n n' b1 b2 k h1 h2 e1 e2=>hH.inj n n' b1 b2 k (old n b1 h1) (old n' b2 h2) e1 e2,hH.ro,hH.glob⟩,?_⟩;exact{ Tr.refl (fun _ h=>h) with img:=fun n b' k h1 h2 _=>⟨n,b',old n b' h1,h2⟩ }
theorem Hf{t e S B:Nat}{z:D}{x:Operand}{tys:Array TypeId}{zs:List AV}{nm lo len room:Nat}{tg:Bool}{els:List (List AV)}(ho:o.op = .call { callee:=.builtin .clear,args:=#[x],argTypes:=tys })(ht:tys[0]?=some t)(hT:cH P t e S B z)
  (hx:st.ev G x = .sl nm S lo len room tg) (hg:st.heap.get nm=some (.arr S els)) (hfit:lo+len<=els.length) (hz:(AV.d z).cells=zs) (hk:(AV.d z).known=true) (hsc:zs.all AV.scalar=true) :
  StepOp G P st o (.d (.tup [])) ((nm,some (.arr S (bU els lo (List.replicate len zs))))::st.heap) (fun _=>False):=by
 intro C a hH hop _;have hxr:=hx ▸ hop x Pu;obtain⟨hu,ti,h1,h2,h3,zv,h4,h5,h6⟩:=hT;obtain⟨q1,q2⟩:=io hk (C:=C) (v:=.d z) (x:=zv) (.d _ _ (h6 _ _));have hzl:zs.length=S:=by rw[<- hz,<- q1,h5]
 have hzero:(zeroValue e).run P C.w = .ok zv C.w:=by simp[zeroValue,bR h1,h4]
 have htup:O9 C (.d (.tup [])) (.tuple #[]):=.d _ _ (.tup _ _ rfl fun i d h=>by simp at h);rcases fS hxr with⟨k,c,cs,e',fz,hU,hb,hl,hr,htt,hh,hs,hxv⟩|⟨hU,hl0,hr0,ad0,hxv⟩
 ·have hys:∀ el,el∈List.replicate len zs->el.length=S:=fun el h=>by rw[Ux h,hzl]
  have hflat:(List.replicate len zs).flatten.length=len*S:=by rw[bh hys,I4]
  have hvl:(Builtin.zeroCells zv.cells len).toList.length=(List.replicate len zs).length*S:=by simp[Builtin.zeroCells,h5]
  have hvr:∀(q:Nat) (u:AV),(List.replicate len zs).flatten[q]?=some u->O9 C u ((Builtin.zeroCells zv.cells len).toList.getD q undef):=by
   intro q u hq;obtain⟨z1,z2⟩:=qy hzl hq;have:=q2 (q%S) u (by rw[hz];exact z2);have hlt:q<len*zv.cells.size:=by rw[h5];exact z1
   have hg2:=tZ zv.cells len q hlt;have:(Builtin.zeroCells zv.cells len).toList.getD q undef=zv.cells.getD (q%S) undef:=by
    unfold Builtin.zeroCells;rw[jI,Array.getElem?_toList,hg2,h5];rfl
   rw[this];assumption
  have hone:=vA (C:=C) (ys:=List.replicate len zs) (fun el h v hv=>by rw[Ux h]at hv;exact lh.1 hsc v hv) (by rw[hvl,I4,hflat]) hvr;obtain⟨cs',e1,g1,g2,g3⟩:=AE (C:=C) hH hg hb hys (i0:=lo) (by rw[I4];exact hfit) hvl hone hvr;by_cases h0:len=0
  ·subst h0;have hov:bU els lo (List.replicate 0 zs)=els:=by simp[bU]
   rw[hov];obtain⟨s1,s2⟩:=xD hH hg;refine⟨C,.value (.tuple #[]),?_,.inl ⟨_,rfl,htup⟩,s1,s2,fun n h=>.inl h⟩;simp only[execOp,ho,resolve,invoke,builtin,Builtin.clear_];simp[ht,hxv,run_underlying hu]
  ·refine⟨_,.value (.tuple #[]),?_,.inl ⟨_,rfl,?_⟩,g2,g3,fun n h=>.inl h⟩
   ·simp only[execOp,ho,resolve,invoke,builtin,Builtin.clear_];have g1:=g1 P;obtain⟨n,rfl⟩:=Nat.exists_eq_succ_of_ne_zero h0;simp[ht,hxv,run_underlying hu,hzero,g1,Ctx.put]
   ·exact .d _ _ (.tup _ _ rfl fun i d h=>by simp at h)
 ·subst hl0;have hov:bU els lo (List.replicate 0 zs)=els:=by simp[bU]
  rw[hov];obtain⟨s1,s2⟩:=xD hH hg;refine⟨C,.value (.tuple #[]),?_,.inl ⟨_,rfl,htup⟩,s1,s2,fun n h=>.inl h⟩;simp only[execOp,ho,resolve,invoke,builtin,Builtin.clear_];cases ad0<;>simp[ht,hxv,run_underlying hu]
theorem EB{t e S B:Nat}{z:D}{x:Operand}{tys:Array TypeId}{tg:Bool}(ho:o.op = .call { callee:=.builtin .clear,args:=#[x],argTypes:=tys })(ht:tys[0]?=some t)(hT:cH P t e S B z)
  (hx:st.ev G x = .d (.sl [] tg)):StepOp G P st o (.d (.tup [])) st.heap (fun _=>False):=by
 intro C a hH hop _;have hxr:=hx ▸ hop x Pu;obtain⟨hu,_⟩:=hT;have htup:O9 C (.d (.tup [])) (.tuple #[]):=.d _ _ (.tup _ _ rfl fun i d h=>by simp at h);refine⟨C,.value (.tuple #[]),?_,.inl ⟨_,rfl,htup⟩,hH,Tr.refl (fun _ h=>h),fun n h=>.inl h⟩;have key:∀ v,O9 C (.d (.sl [] tg)) v->∃ ad c,v = .slice ad 0 c:=fun v h=>by
  have hd:=bZ h;cases hd with
  | sl0 _ ad c h2=>exact⟨_,_,rfl⟩
  | sl _ _ b o2 c sz vs hro hc h2 hsz hm hr=>exact⟨_,_,rfl⟩
 obtain⟨ad,c,hxv⟩:=key _ hxr;simp only[execOp,ho,resolve,invoke,builtin,Builtin.clear_];cases ad<;>simp[ht,hxv,run_underlying hu]
end Go.AL
namespace Go.AL
open Go
variable{G:Nat->Option (List D)}{P:Program}{st:St}{o:Oper}
def kW(C:Ctx)(nm:Nat):Deferred:={ target:=.collected ((C.β nm).getD 0),args:=#[] }
structure Rel (G:Nat->Option (List D)) (n:Nat) (st:St) (ms:List Nat) (C:Ctx) (a:Act):Prop where
 heap:P0 G C st.heap
 env:P9 C st n a
 names:∀ m,C.U m->m<st.nx
 marks:∀ m,m∈ms->C.U m
 defers:a.defers=ms.map (kW C)
def Fr(r:Option Nat):Fence:={ Fence.wide with round:=r }
theorem vH{r:Option Nat}{f:FuncId}{args:Array Value}{w:World}{R:Ending->World->Prop}(h:Calls P f args w R):CallsIn (Fr r) 0 P f args w R:=(callsIn_wide (n:=0)).2 h
theorem yH{f:FuncId}{args:Array Value}{w:World}{R:Ending->World->Prop}(h:CallsIn (Fr none) 0 P f args w R):Calls P f args w R:=(callsIn_wide (n:=0)).1 h
def uc(G:Nat->Option (List D))(X:Nat->Prop)(n:Nat)(C:Ctx)(H:AHeap)(Q:Exit->St->List Nat->Prop):Exit->Act->World->Prop :=
 fun e a' w'=>∃ st' ms' C',C'.w=w'/\Q e st' ms'/\Rel G n st' ms' C' a'/\Tr X C H C' st'.heap
def kw(r:Option Nat)(P:Program)(G:Nat->Option (List D))(n b:Nat)(c:Code)(st:St)(ms:List Nat)(Q:Exit->St->List Nat->Prop):Prop :=
 ∀(X:Nat->Prop) (C:Ctx) (a:Act),Rel G n st ms C a->(∀ m,X m->C.U m/\m<b)->c.wpIn (Fr r) 0 P (uc G X n C st.heap Q) a C.w
variable{r:Option Nat}{n b:Nat}{ms:List Nat}{Q:Exit->St->List Nat->Prop}
theorem xu{X:Nat->Prop}{C C':Ctx}{H H':AHeap}{b:Nat}(h:∀ m,X m->C.U m/\m<b)(t:Tr X C H C' H'):∀ m,X m->C'.U m/\m<b:=fun m hx=>⟨(t.names m hx).1,(h m hx).2⟩
theorem bd{c:Code}{Q':Exit->St->List Nat->Prop}(h:kw r P G n b c st ms Q)(hq:∀ e s m,Q e s m->Q' e s m):kw r P G n b c st ms Q':=by
 intro X C a hR hX;refine wpIn_mono (h X C a hR hX) ?_;rintro e a' w' ⟨st',ms',C',h1,h2,h3,h4⟩;exact⟨st',ms',C',h1,hq _ _ _ h2,h3,h4⟩
theorem vR(h:Q .normal st ms):kw r P G n b .skip st ms Q :=
 fun _ C _ hR hX=>wpIn_skip ⟨st,ms,C,rfl,h,hR,Tr.refl fun m hm=>(hX m hm).1⟩
theorem qN(h:Q .ret st ms):kw r P G n b .ret st ms Q :=
 fun _ C _ hR hX=>wpIn_ret ⟨st,ms,C,rfl,h,hR,Tr.refl fun m hm=>(hX m hm).1⟩
theorem vP{id:Nat}(h:Q (.exit id) st ms):kw r P G n b (.exit id) st ms Q :=
 fun _ C _ hR hX=>wpIn_exit ⟨st,ms,C,rfl,h,hR,Tr.refl fun m hm=>(hX m hm).1⟩
def Jk(N:St->List Nat->Prop)(Q:Exit->St->List Nat->Prop):Exit->St->List Nat->Prop
 | .normal,s,m=>N s m
 | e,s,m=>Q e s m
theorem jx{c d:Code}(h:kw r P G n b c st ms (Jk (fun s m=>kw r P G n b d s m Q) Q)):kw r P G n b (.seq c d) st ms Q:=by
 intro X C a hR hX;refine wpIn_seq (wpIn_mono (h X C a hR hX) ?_);rintro e a' w' ⟨st',ms',C',rfl,h2,h3,h4⟩;cases e with
 | normal =>
  refine wpIn_mono (h2 X C' a' h3 (xu hX h4)) ?_;rintro e a'' w'' ⟨st'',ms'',C'',rfl,g2,g3,g4⟩;exact⟨st'',ms'',C'',rfl,g2,g3,h4.trans g4⟩
 | exit id=>exact⟨st',ms',C',rfl,h2,h3,h4⟩
 | goto l=>exact⟨st',ms',C',rfl,h2,h3,h4⟩
 | ret=>exact⟨st',ms',C',rfl,h2,h3,h4⟩
 | panic ch=>exact⟨st',ms',C',rfl,h2,h3,h4⟩
 | outgrown=>exact⟨st',ms',C',rfl,h2,h3,h4⟩
theorem iP{c:Operand}{x y:Code}{t:Bool}(hc:st.ev G c = .d (.bool t))(h1:t=true->kw r P G n b x st ms Q)(h2:t=false->kw r P G n b y st ms Q):kw r P G n b (.cond c x y) st ms Q:=by
 intro X C a hR hX;have hv:=fC (hc ▸ nS hR.heap hR.env c);exact wpIn_cond_split hv (fun ht=>h1 ht X C a hR hX) (fun ht=>h2 ht X C a hR hX)
def sQ(id:Nat)(Q:Exit->St->List Nat->Prop):Exit->St->List Nat->Prop
 | .exit i,s,m=>match Nat.beq i id with
  | true=>Q .normal s m
  | false=>Q (.exit i) s m
 | e,s,m=>Q e s m
theorem oM{id:Nat}{c:Code}(h:kw r P G n b c st ms (sQ id Q)):kw r P G n b (.block id c) st ms Q:=by
 intro X C a hR hX;refine wpIn_block (wpIn_mono (h X C a hR hX) ?_);rintro e a' w' ⟨st',ms',C',rfl,h2,h3,h4⟩;cases e with
 | exit i =>
  simp only[Exit.inBlock];simp only[sQ]at h2;by_cases hi:i=id
  ·subst hi;rw[if_pos rfl];have:Nat.beq i i=true:=aR;rw[this]at h2;exact⟨st',ms',C',rfl,h2,h3,h4⟩
  ·rw[if_neg hi];have:Nat.beq i id=false:=by cases e:Nat.beq i id with
    | true=>exact absurd (waf e) hi
    | false=>rfl
   rw[this]at h2;exact⟨st',ms',C',rfl,h2,h3,h4⟩
 | normal=>exact⟨st',ms',C',rfl,h2,h3,h4⟩
 | goto l=>exact⟨st',ms',C',rfl,h2,h3,h4⟩
 | ret=>exact⟨st',ms',C',rfl,h2,h3,h4⟩
 | panic ch=>exact⟨st',ms',C',rfl,h2,h3,h4⟩
 | outgrown=>exact⟨st',ms',C',rfl,h2,h3,h4⟩
def Sub(G:Nat->Option (List D))(b:Nat)(ms:List Nat)(st st':St):Prop :=
 ∀(n:Nat) (C:Ctx) (a:Act),Rel G n st ms C a->∃ C',C'.w=C.w/\Rel G n st' ms C' a /\ ∀ X:Nat->Prop,(∀ m,X m->C.U m/\m<b)->Tr X C st.heap C' st'.heap
theorem Sub.refl:Sub G b ms st st:=fun _ C _ hR=>⟨C,rfl,hR,fun _ hX=>Tr.refl fun m hm=>(hX m hm).1⟩
theorem Sub.trans{s1 s2 s3:St}(h:Sub G b ms s1 s2)(k:Sub G b ms s2 s3):Sub G b ms s1 s3:=by
 intro n C a hR;obtain⟨C',e1,r1,t1⟩:=h n C a hR;obtain⟨C'',e2,r2,t2⟩:=k n C' a r1;exact⟨C'',e2.trans e1,r2,fun X hX=>(t1 X hX).trans (t2 X (xu hX (t1 X hX)))⟩
theorem zS{st':St}{c:Code}(hs:Sub G b ms st st')(h:kw r P G n b c st' ms Q):kw r P G n b c st ms Q:=by
 intro X C a hR hX;obtain⟨C',e1,r1,t1⟩:=hs n C a hR;rw[<- e1];refine wpIn_mono (h X C' a r1 (xu hX (t1 X hX))) ?_;rintro e a' w' ⟨st',ms',C'',rfl,h2,h3,h4⟩;exact⟨st',ms',C'',rfl,h2,h3,(t1 X hX).trans h4⟩
theorem HB{F:Fence}{n:Nat}{c:Code}{Q:Exit->Act->World->Prop}{a:Act}{w:World}(I:Nat->Act->World->Prop)(j0:Nat)(h₀:I j0 a w)
  (round:∀ j a w,I j a w->c.wpIn F n P (Exit.then (fun a' w'=>∃ j',j'<j/\I j' a' w') Q) a w):(Code.loop c).wpIn F n P Q a w:=by
 intro b k cs hro hb hr;have key:∀ j a w,I j a w ->
   ∃ e a' w',Q e a' w'/\ArrivesIn (Machine.fenced P F) P (lone (b.atR a (.code c :: .inLoop c::k)) cs w) b k cs e a' w':=by
  intro j
  induction j using Nat.strongRecOn with
  | _ j ih =>
   intro a w hI;obtain⟨e,a₁,w₁,hq,harr⟩:=round j a w hI b (.inLoop c::k) cs hro hb hr;cases e with
   | normal =>
    obtain⟨j',hlt,hI₁⟩:=hq;obtain⟨e₂,a₂,w₂,hq₂,harr₂⟩:=ih j' hlt a₁ w₁ hI₁;exact⟨e₂,a₂,w₂,hq₂,.of_steps (StepsIn.trans harr (.one (fenced_calm hb hr rfl) stepR_inLoop)) harr₂⟩
   | exit id=>exact⟨_,a₁,w₁,hq,.pass (x:=.inLoop c) rfl (fun _ _=>.inl aR) harr⟩
   | goto l=>exact⟨_,a₁,w₁,hq,.pass (x:=.inLoop c) rfl (fun _ _=>.inl aR) harr⟩
   | ret=>exact⟨_,a₁,w₁,hq,.pass (x:=.inLoop c) rfl (fun _ _=>.inl aR) harr⟩
   | panic ch=>exact⟨_,a₁,w₁,hq,.pass (x:=.inLoop c) rfl (fun _ _=>.inl aR) harr⟩
   | outgrown=>exact⟨_,a₁,w₁,hq,.pass (x:=.inLoop c) rfl (fun _ _=>.inl aR) harr⟩
 obtain⟨e,a',w',hq,harr⟩:=key j0 a w h₀;exact⟨e,a',w',hq,.of_steps (.one (fenced_calm hb hr rfl) stepR_loop) harr⟩
theorem nJ{σ:Type}{c:Code}(I:σ->St)(μ:σ->Nat)(s0:σ)(h0:Sub G b ms st (I s0))
  (round:∀ s,kw r P G n b c (I s) ms (Jk (fun s' m'=>m'=ms /\ ∃ t,Sub G b ms s' (I t)/\μ t<μ s) Q)):kw r P G n b (.loop c) st ms Q:=by
 refine zS h0 ?_;intro X C a hR hX;refine HB (Q:=uc G X n C (I s0).heap Q)
  (fun j a' w'=>∃ s C',μ s=j/\C'.w=w'/\Rel G n (I s) ms C' a'/\Tr X C (I s0).heap C' (I s).heap) (μ s0) ⟨s0,C,rfl,rfl,hR,Tr.refl fun m hm=>(hX m hm).1⟩ ?_
 rintro j a1 w1 ⟨s,C1,rfl,rfl,hR1,hT1⟩;refine wpIn_mono (round s X C1 a1 hR1 (xu hX hT1)) ?_;rintro e a2 w2 ⟨st2,ms2,C2,rfl,h2,h3,h4⟩;cases e with
 | normal =>
  obtain⟨rfl,t,hs,hlt⟩:=h2;obtain⟨C3,e3,r3,t3⟩:=hs n C2 a2 h3;exact⟨μ t,hlt,t,C3,rfl,e3,r3,(hT1.trans h4).trans (t3 X (xu hX (hT1.trans h4)))⟩
 | exit id=>exact⟨st2,ms2,C2,rfl,h2,h3,hT1.trans h4⟩
 | goto l=>exact⟨st2,ms2,C2,rfl,h2,h3,hT1.trans h4⟩
 | ret=>exact⟨st2,ms2,C2,rfl,h2,h3,hT1.trans h4⟩
 | panic ch=>exact⟨st2,ms2,C2,rfl,h2,h3,hT1.trans h4⟩
 | outgrown=>exact⟨st2,ms2,C2,rfl,h2,h3,hT1.trans h4⟩
def St.put(st:St)(d:Option Tmp)(v:AV):St:=match d with
 | some t=>{ st with env:=(t,v)::st.env }
 | none=>st
def eO(d:Option Tmp)(n:Nat):Bool:=match d with
 | some t=>Nat.blt t n
 | none=>true
theorem ba(t:Nat)(v:AV)(e:List (Nat×AV)):lk ((t,v)::e) t=v:=by simp[Du]
theorem aV{t m:Nat}(v:AV)(e:List (Nat×AV))(h:m≠t):lk ((t,v)::e) m=lk e m:=by
 have:Nat.beq t m=false:=by cases q:Nat.beq t m with
  | true=>exact absurd (waf q).symm h
  | false=>rfl
 simp[Du,this]
theorem ly{C:Ctx}{st:St}{n:Nat}{a:Act}(hE:P9 C st n a){d:Option Tmp}{v:AV}{x:Value}(hd:eO d n=true)(hv:O9 C v x):P9 C (st.put d v) n (a.put d x):=by
 cases d with
 | none=>exact hE
 | some t =>
  have ht:t<n:=by simpa[eO] using hd
  refine⟨by simp[Act.put,hE.size],fun m=>?_⟩;simp only[St.put,Act.put];by_cases e:m=t
  ·subst e;rw[ba];simp[Array.getD,hE.size,ht,hv]
  ·rw[aV _ _ e];have:=hE.env m;have h2:(a.tmps.setIfInBounds t x).getD m undef=a.tmps.getD m undef:=by
    simp[JT,wdl,Ne.symm e]
   rw[h2];exact this
theorem jX{C C':Ctx}{st st':St}{H':AHeap}{n:Nat}{a:Act}(hH:P0 G C st.heap)(ht:Tr C.U C st.heap C' H')(hE:P9 C st n a)(he:st'.env=st.env):P9 C' st' n a :=
 ⟨hE.size,fun m=>by rw[he];exact(hE.env m).later ht hH⟩
theorem eo{C C':Ctx}{H H':AHeap}{ms:List Nat}(ht:Tr C.U C H C' H')(hm:∀ m,m∈ms->C.U m):ms.map (kW C')=ms.map (kW C):=by
 apply xX;intro m h;simp[kW,(ht.names m (hm m h)).2]
def nF(r:Option Nat)(P:Program)(G:Nat->Option (List D))(n b:Nat)(o:Oper)(st:St)(ms:List Nat)(K:St->Prop):Prop :=
 ∀(X:Nat->Prop) (C:Ctx) (a:Act) (next:Act->World->Prop) (Q:Exit->Act->World->Prop),Rel G n st ms C a->(∀ m,X m->C.U m/\m<b) ->
  (∀ st' C' a',K st'->Rel G n st' ms C' a'->Tr X C st.heap C' st'.heap->next a' C'.w)->o.wpIn (Fr r) 0 P a C.w next Q
theorem iM{o:Oper}{a:Act}{w:World}(r:Option Nat):∀ f,o.about P w a.eval=some f->(Fr r).fn f:=fun _ _=>trivial
theorem gm{v:AV}{H':AHeap}{k:Nat}{K:St->Prop}(hd:∀ c,o.op ≠ .defer c)(h:StepOp G P st o v H' (fun m=>st.nx<=m/\m<st.nx+k))(hdst:eO o.dst n=true)
  (hK:K ({ env:=st.env,heap:=H',nx:=st.nx+k:St }.put o.dst v)):nF r P G n b o st ms K:=by
 intro X C a next Q hR hX hn
 refine⟨iM r,?_⟩;obtain⟨C',rr,h1,h2,h3,h4,h5⟩:=h C a hR.heap (fun x _=>nS hR.heap hR.env x) (fun m hm hU=>by have:=hR.names m hU;omega);rw[Oper.semAt_eq _ _ _ hd,h1];have hE':P9 C' { env:=st.env,heap:=H',nx:=st.nx+k } n a:=jX hR.heap h4 hR.env rfl;have fin:∀ x,O9 C' v x->next (a.put o.dst x) C'.w:=fun x hx=>by
  refine hn _ C' _ hK ⟨?_,ly hE' hdst hx,?_,?_,?_⟩ ?_
  ·cases o.dst<;>exact h3
  ·intro m hm;have:m<st.nx+k:=by
    rcases h5 m hm with q|q
    ·have:=hR.names m q;omega
    ·exact q.2
   cases o.dst<;>exact this
  ·exact fun m hm=>(h4.names m (hR.marks m hm)).1
  ·exact qhp
  ·have:=h4.weaken (Y:=X) (fun m hm=>(hX m hm).1);cases o.dst<;>exact this
 rcases h2 with⟨x,rfl,hx⟩|⟨rfl,hv⟩
 ·exact fin x hx
 ·exact fin undef (hv ▸ .top _)
theorem aL{v:AV}{K:St->Prop}(hd:∀ c,o.op ≠ .defer c)(h:PureOp G P st o v)(hdst:eO o.dst n=true)(hK:K (st.put o.dst v)):nF r P G n b o st ms K:=by
 have hs:StepOp G P st o v st.heap (fun m=>st.nx<=m/\m<st.nx+0):=by
  intro C a hH hop hn;obtain⟨C',r,h1,h2,h3,h4,h5⟩:=h.step C a hH hop (fun _ h=>h.elim);exact⟨C',r,h1,h2,h3,h4,fun m hm=>(h5 m hm).imp id (fun h=>h.elim)⟩
 exact gm hd hs hdst (by simpa using hK)
def bq(P:Program)(G:Nat->Option (List D))(f:FuncId)(args:List AV)(H:AHeap)(nx:Nat)(K:AV->AHeap->Nat->Prop):Prop :=
 ∀(C:Ctx) (vs:Array Value),P0 G C H->(∀ m,C.U m->m<nx)->vs.size=args.length->(∀ i v,args[i]?=some v->O9 C v (vs.getD i undef)) ->
  Calls P f vs C.w fun e w'=>∃ x v H' nx' C',e = .returned x/\C'.w=w'/\K v H' nx'/\O9 C' v x/\P0 G C' H'/\(∀ m,C'.U m->m<nx')/\Tr C.U C H C' H'
def jw (P : Program) (f : FuncId) : Prop := ∃ fn, P.funcs[f]? = some fn ∧ (fn.name == "runtime.NumGoroutine") = false ∧ fn.body.isNone = false
theorem mQ{f:FuncId}{args:Array Value}{w:World}(h:jw P f):(callFunc f args).run P w = .ok (.enter f args) w:=by
 obtain⟨fn,h1,h2,h3⟩:=h;simp only[callFunc,Sem.run_bind,run_program,Result.andThen_ok,h1,h2,h3,QZ,if_false];rfl
def Aw:AV->Option (FuncId×List AV×List AV)
 | .fn f a c=>some (f,a,c)
 | .d (.fn f a c)=>some (f,a.map .d,c.map .d)
 | _=>none
theorem wD{C:Ctx}{v:AV}{x:Value}{f:FuncId}{fi ca:List AV}(h:Aw v=some (f,fi,ca))(hv:O9 C v x) :
  ∃ A B,x = .func (.func f) A B/\A.size=fi.length/\B.size=ca.length/\(∀ i d,fi[i]?=some d->O9 C d (A.getD i undef))/\(∀ i d,ca[i]?=some d->O9 C d (B.getD i undef)):=by
 unfold Aw at h;split at h
 ·simp only[tU,Cl]at h;obtain⟨rfl,rfl,rfl⟩:=h;cases hv with|fn _ _ _ A B h1 h2 h3 h4=>exact⟨A,B,rfl,h1,h2,h3,h4⟩
 ·simp only[tU,Cl]at h;obtain⟨rfl,rfl,rfl⟩:=h;have hd:=bZ hv;cases hd with
  | fn _ _ _ A B h1 h2 h3 h4 =>
   refine⟨A,B,rfl,by simpa using h1,by simpa using h2,fun i d hi=>?_,fun i d hi=>?_⟩
   ·simp only[mV,tT]at hi;obtain⟨y,hy,rfl⟩:=hi;exact .d _ _ (h3 i y hy)
   ·simp only[mV,tT]at hi;obtain⟨y,hy,rfl⟩:=hi;exact .d _ _ (h4 i y hy)
 ·cases h
theorem nV{A B:Array Value}{i:Nat}:(A++B).getD i undef=if i<A.size then A.getD i undef else B.getD (i-A.size) undef:=by
 simp only[JT];by_cases h:i<A.size
 ·rw[if_pos h,wdu h]
 ·rw[if_neg h,Array.getElem?_append_right qad]
theorem iB{C:Ctx}{A B:Array Value}{l m:List AV}(hA:A.size=l.length)(h1:∀ i d,l[i]?=some d->O9 C d (A.getD i undef))(h2:∀ i d,m[i]?=some d->O9 C d (B.getD i undef)) :
  ∀ i d,(l++m)[i]?=some d->O9 C d ((A++B).getD i undef):=by
 intro i d hi;rw[nV];by_cases h:i<A.size
 ·rw[if_pos h];rw[VX qad]at hi;exact h1 i d hi
 ·rw[if_neg h];rw[VV qad]at hi;rw[hA];exact h2 _ d hi
theorem lK{g:Operand}{args:Array Operand}{tys:Array TypeId}{f:FuncId}{fi ca l:List AV}{K:St->Prop}(ho:o.op = .call { callee:=.value g,args:=args,argTypes:=tys })(hg:Aw (st.ev G g)=some (f,fi,ca))
  (hf:jw P f) (hl:fi++args.toList.map (st.ev G)++ca=l) (hdst:eO o.dst n=true)
  (hc:bq P G f l st.heap st.nx fun v H' nx'=>K ({ env:=st.env,heap:=H',nx:=nx':St }.put o.dst v)):nF r P G n b o st ms K:=by
 intro X C a next Q hR hX hn
 refine⟨iM r,?_⟩;have hd:∀ c,o.op ≠ .defer c:=fun c h=>by rw[ho]at h;cases h
 obtain⟨A,B,e1,e2,e3,e4,e5⟩:=wD hg (nS hR.heap hR.env g);have hargs:∀ i d,(args.toList.map (st.ev G))[i]?=some d->O9 C d ((args.map a.eval).getD i undef):=by
  intro i d h;simp only[mV,tT]at h;obtain⟨p,hp,rfl⟩:=h;have hp':args[i]?=some p:=qhu;have hlt:=(BU.1 hp').1;have:(args.map a.eval).getD i undef=a.eval p:=by
   have he:=(BU.1 hp').2;simp[Array.getD,hlt,he]
  rw[this];exact nS hR.heap hR.env p
 have hrun:(execOp a.eval o).run P C.w = .ok (.enter f (A++args.map a.eval++B)) C.w:=by
  simp only[execOp,ho,resolve,e1,Deferred.ofValue];simp[invoke,mQ hf]
 have hcall:=hc C (A++args.map a.eval++B) hR.heap hR.names (by rw[<- hl];simp[e2,e3]) (by
  rw[<- hl];exact iB (by simp[e2]) (iB e2 e4 hargs) e5)
 rw[Oper.semAt_eq _ _ _ hd,hrun];refine⟨(fun h=>by cases h),(vH hcall).mono ?_⟩;rintro e w' ⟨x,v,H',nx',C',rfl,rfl,hK,hx,h3,h5,h4⟩;have hE':P9 C' { env:=st.env,heap:=H',nx:=nx' } n a:=jX hR.heap h4 hR.env rfl;refine hn _ C' _ hK ⟨?_,ly hE' hdst hx,?_,?_,?_⟩ ?_
 ·cases o.dst<;>exact h3
 ·intro m hm;have:=h5 m hm;cases o.dst<;>exact this
 ·exact fun m hm=>(h4.names m (hR.marks m hm)).1
 ·exact qhp
 ·have:=h4.weaken (Y:=X) (fun m hm=>(hX m hm).1);cases o.dst<;>exact this
end Go.AL
namespace Go.AL
open Go
variable{G:Nat->Option (List D)}{P:Program}{st:St}{o:Oper}
variable{r:Option Nat}{n b:Nat}{ms:List Nat}{Q:Exit->St->List Nat->Prop}
def mu(ops:Array Oper)(st:St)(j:Nat):Option Bool:=match (ops[j]?).bind (·.dst) with
 | some d=>match lk st.env d with
  | .d (.bool b)=>some b
  | _=>none
 | none=>none
def mt(ops:Array Oper)(st:St)(j:Nat):Bool:=match (ops[j]?).bind (·.dst) with
 | some d=>match lk st.env d with
  | .d (.tup [])=>true
  | _=>false
 | none=>false
def Ft(ops:Array Oper)(st:St)(o:Oper)(A B:Prop):Prop:=match o.guard with
 | none=>A
 | some (j,want)=>(∃ t,mu ops st j=some t/\(t=want->A)/\(t≠want->B))\/(mt ops st j=true/\B)
theorem zB{C:Ctx}{x:Value}(h:O9 C (.d (.tup [])) x):x = .tuple #[]:=by
 have h:=bZ h;cases h with
 | tup _ cs hs _ =>
  have:cs = #[]:=Array.eq_empty_of_size_eq_zero (by simpa using hs);rw[this]
theorem pV{ops:Array Oper}{tmps:Array Value}{j d:Nat}(hd:(ops[j]?).bind (·.dst)=some d)(h:tmps.getD d undef = .tuple #[]):yielded ops tmps j=none:=by
 unfold yielded;rw[hd];simp only[Option.bind_some];rcases wa1 d tmps.size with q|q
 ·simp[Array.getD,q]at h;simp[q,h]
 ·simp[Nat.not_lt.2 q]
theorem FV{C:Ctx}{a:Act}{ops:Array Oper}{j:Nat}(hE:P9 C st n a)(h:mt ops st j=true):yielded ops a.tmps j=none:=by
 unfold mt at h;split at h
 ·rename_i d hd;split at h
  ·rename_i hb;exact pV hd (zB (hb ▸ hE.env d))
  ·cases h
 ·cases h
theorem Kv{C:Ctx}{a:Act}{ops:Array Oper}{j:Nat}{t:Bool}(hE:P9 C st n a)(h:mu ops st j=some t):yielded ops a.tmps j=some t:=by
 unfold mu at h;unfold yielded;split at h
 ·rename_i d hd;split at h
  ·rename_i b hb;cases h;have:=hE.env d;rw[hb]at this;have hv:=fC this;rw[hd];have hlt:d<a.tmps.size:=by
    rcases wa1 d a.tmps.size with q|q
    ·exact q
    ·simp[Array.getD,Nat.not_lt.2 q]at hv;simp[undef]at hv
   simp only[Option.bind_some];simp[Array.getD,hlt]at hv;simp[hlt,hv]
  ·cases h
 ·cases h
def vF(r:Option Nat)(P:Program)(G:Nat->Option (List D))(n b:Nat)(ops:Array Oper)(ms:List Nat)(K:St->Prop):List Oper->St->Prop
 | [],st=>K st
 | o::rest,st=>Ft ops st o (nF r P G n b o st ms (vF r P G n b ops ms K rest)) (eO o.dst n=true/\vF r P G n b ops ms K rest (st.put o.dst (.d (.tup []))))
theorem Ep{C:Ctx}{a:Act}{d:Option Tmp}(hR:Rel G n st ms C a)(hd:eO d n=true):Rel G n (st.put d (.d (.tup []))) ms C (a.put d undef):=by
 refine⟨?_,ly hR.env hd (.d _ _ (.tup _ _ rfl fun i d h=>by simp at h)),?_,hR.marks,?_⟩
 ·cases d<;>exact hR.heap
 ·intro m hm;have:=hR.names m hm;cases d<;>exact this
 ·rw[<- hR.defers];cases d<;>rfl
theorem vM{ops:Array Oper}{K:St->Prop}:∀(rest:List Oper) (k:Nat) (st:St),ops.toList.drop k=rest->vF r P G n b ops ms K rest st ->
  ∀(X:Nat->Prop) (C:Ctx) (a:Act) (Q:Exit->Act->World->Prop),Rel G n st ms C a->(∀ m,X m->C.U m/\m<b) ->
  (∀ st' C' a',K st'->Rel G n st' ms C' a'->Tr X C st.heap C' st'.heap->Q .normal a' C'.w)->wpOpsIn (Fr r) 0 P ops Q (List.range' k rest.length) a C.w:=by
 intro rest
 induction rest with
 | nil =>
  intro k st _ h X C a Q hR hX hn;exact hn st C a h hR (Tr.refl fun m hm=>(hX m hm).1)
 | cons o rest ih =>
  intro k st hk h X C a Q hR hX hn;have ho:ops[k]?=some o:=by
   have:(ops.toList.drop k)[0]?=some o:=by rw[hk];rfl
   simpa using this
  have hk':ops.toList.drop (k+1)=rest:=by
   rw[<- List.drop_drop,hk];rfl
  simp only[Ln,List.range'_succ,wpOpsIn,ho];have goA:nF r P G n b o st ms (vF r P G n b ops ms K rest)->o.wpIn (Fr r) 0 P a C.w (wpOpsIn (Fr r) 0 P ops Q (List.range' (k+1) rest.length)) Q:=fun hA =>
   hA X C a _ Q hR hX fun st' C' a' h1 h2 h3=>ih (k+1) st' hk' h1 X C' a' Q h2 (xu hX h3) fun st'' C'' a'' g1 g2 g3=>hn st'' C'' a'' g1 g2 (h3.trans g3)
  simp only[vF,Ft]at h;split at h
  ·rename_i hg;simp only[Region.wanted,hg,if_true];exact goA h
  ·rename_i j want hg;have skip:yielded ops a.tmps j≠some want->(eO o.dst n=true/\vF r P G n b ops ms K rest (st.put o.dst (.d (.tup []))))->(if Region.wanted o (yielded ops a.tmps)=true then o.wpIn (Fr r) 0 P a C.w (wpOpsIn (Fr r) 0 P ops Q (List.range' (k+1) rest.length)) Q else(∀ f,o.about P C.w a.eval=some f->(Fr r).fn f)/\wpOpsIn (Fr r) 0 P ops Q (List.range' (k+1) rest.length) (a.put o.dst undef) C.w):=fun hne ⟨hd,hB⟩=>by
    have:¬(Region.wanted o (yielded ops a.tmps)=true):=by simp[Region.wanted,hg,hne]
    rw[if_neg this];refine⟨iM r,ih (k+1) _ hk' hB X C _ Q (Ep hR hd) hX fun st'' C'' a'' g1 g2 g3=>hn st'' C'' a'' g1 g2 ?_⟩;cases e:o.dst<;>(rw[e]at g3;exact g3)
   rcases h with⟨t,h1,h2,h3⟩|⟨hu,hB⟩
   rotate_left
   ·exact skip (by rw[FV hR.env hu];simp) hB
   have hy:=Kv hR.env h1;by_cases ht:t=want
   ·subst ht;have hw:Region.wanted o (yielded ops a.tmps)=true:=by simp[Region.wanted,hg,hy]
    rw[if_pos hw];exact goA (h2 rfl)
   ·exact skip (by rw[hy];simpa using ht) (h3 ht)
theorem vQ{id:Nat}{ops:Array Oper}(h:vF r P G n b ops ms (fun st'=>Q .normal st' ms) ops.toList st):kw r P G n b (.region id ops false) st ms Q:=by
 intro X C a hR hX;refine wpIn_region ?_;have:=vM (r:=r) (P:=P) ops.toList 0 st rfl h X C a (uc G X n C st.heap Q) hR hX fun st' C' a' h1 h2 h3=>⟨st',ms,C',rfl,h1,h2,h3⟩
 rw[List.range_eq_range'];simpa using this
inductive P6 (P:Program) (G:Nat->Option (List D)) (st:St):ResultVar->AV->Prop
 | tmp (t:Tmp):P6 P G st (.tmp t) (lk st.env t)
 | cell (a:Tmp) (t S B:Nat) (ag:Bool) (z:D) (nm sz idx off:Nat) (els:List (List AV)) (el l:List AV) (hT:TOk P t ag S B z) (hS:ag=false->S=1) (hx:lk st.env a = .ptr nm sz idx off)
   (hH:st.heap.get nm=some (.arr sz els)) (he:els[idx]?=some el) (hl:(el.drop off).take S=l) (hlen:l.length=S):P6 P G st (.cell a t) (iG ag l)
def GU(tmps:Array Value):ResultVar->Sem Value
 | .tmp t=>pure (tmps.getD t undef)
 | .cell a t=>do loadVar t (<- asAddr (tmps.getD a undef))
theorem iJ{C:Ctx}{a:Act}{rv:ResultVar}{v:AV}(hH:P0 G C st.heap)(hE:P9 C st n a)(h:P6 P G st rv v):∃ x,(GU a.tmps rv).run P C.w = .ok x C.w/\O9 C v x:=by
 cases h with
 | tmp t=>exact⟨_,rfl,hE.env t⟩
 | cell at_ t S B ag z nm sz idx off els el l hT hS hx hH0 he hl hlen =>
  obtain⟨k,hU,hb,hxv⟩:=jg (hx ▸ hE.env at_);obtain⟨_,hB⟩:=hH.blk nm _ hH0;obtain⟨_,hc⟩:=oQ hB hb he;obtain⟨vs,g1,g2,g3⟩:=lN (O9 C) l (fun j=>C.w.cell? ⟨k,idx*sz+off+j,none⟩) (fun j v hv=>by
   obtain⟨y,q1,q2⟩:=hc _ v (iK hl hv);exact⟨y,by rw[<- q1];congr 2;omega,q2⟩)
  refine⟨if ag then .agg vs.toArray else vs.getD 0 undef,?_,nZ g1 g3⟩;simp only[GU,hxv];simp[asAddr,oo hT k (idx*sz+off) vs (g1.trans hlen) hS g2]
def rD(l:List AV):AV:=match mh l with
 | some ds=>.d (.tup ds)
 | none=>.tup l
theorem KD{C:Ctx}{l:List AV}{cs:Array Value}(hs:cs.size=l.length)(h:∀ i d,l[i]?=some d->O9 C d (cs.getD i undef)):O9 C (rD l) (.tuple cs):=by
 unfold rD;split
 ·rename_i ds hd;have:=fu l ds hd;subst this;refine .d _ _ (.tup _ _ (by simpa using hs) fun i d hi=>bZ (h i (.d d) (by simp[hi])))
 ·exact .tup l cs hs h
inductive Q2 (P:Program) (G:Nat->Option (List D)) (st:St):Array ResultVar->AV->Prop
 | zero:Q2 P G st #[] (.d (.tup []))
 | one (a:ResultVar) (v:AV) (h:P6 P G st a v):Q2 P G st #[a] v
 | two (a b:ResultVar) (v u:AV) (h:P6 P G st a v) (h':P6 P G st b u):Q2 P G st #[a,b] (rD [v,u])
 | three (a b c:ResultVar) (v u x:AV) (h:P6 P G st a v) (h':P6 P G st b u) (h'':P6 P G st c x):Q2 P G st #[a,b,c] (rD [v,u,x])
 | four (a b c d:ResultVar) (v u x y:AV) (h:P6 P G st a v) (h':P6 P G st b u) (h'':P6 P G st c x) (h3:P6 P G st d y):Q2 P G st #[a,b,c,d] (rD [v,u,x,y])
theorem GV(fn:Func)(tmps:Array Value):results fn tmps=(do let vs <- fn.results.mapM (GU tmps);pure (if h:vs.size=1 then vs[0] else .tuple vs)):=by
 unfold results;congr 1
theorem Er{C:Ctx}{a:Act}{fn:Func}{v:AV}(hH:P0 G C st.heap)(hE:P9 C st n a)(h:Q2 P G st fn.results v):∃ x,(results fn a.tmps).run P C.w = .ok x C.w/\O9 C v x:=by
 rw[GV];generalize fn.results=rs at h;have two:∀{l:List AV} {vs:List Value},vs.length=l.length->(∀ i d,l[i]?=some d->O9 C d (vs.getD i undef))->O9 C (rD l) (.tuple vs.toArray):=fun h1 h2 =>
  KD A6 (fun i d hi=>by have:=h2 i d hi;simpa[JT,jI] using this)
 cases h with
 | zero=>exact⟨.tuple #[],by simp,.d _ _ (.tup [] #[] rfl (fun i d h=>by simp at h))⟩
 | one rv v h =>
  obtain⟨x,h1,h2⟩:=iJ hH hE h;exact⟨x,by simp[h1],h2⟩
 | two r1 r2 v u h h' =>
  obtain⟨x,h1,h2⟩:=iJ hH hE h;obtain⟨y,h3,h4⟩:=iJ hH hE h';refine⟨.tuple [x,y].toArray,by simp[h1,h3],two rfl ?_⟩;intro i d hi
  match i,hi with
  | 0,hi=>simp at hi;subst hi;simpa using h2
  | 1,hi=>simp at hi;subst hi;simpa using h4
 | three r1 r2 r3 v u t h h' h'' =>
  obtain⟨x,h1,h2⟩:=iJ hH hE h;obtain⟨y,h3,h4⟩:=iJ hH hE h';obtain⟨z,h5,h6⟩:=iJ hH hE h'';refine⟨.tuple [x,y,z].toArray,by simp[h1,h3,h5],two rfl ?_⟩;intro i d hi
  match i,hi with
  | 0,hi=>simp at hi;subst hi;simpa using h2
  | 1,hi=>simp at hi;subst hi;simpa using h4
  | 2,hi=>simp at hi;subst hi;simpa using h6
 | four r1 r2 r3 r4 v u t s h h' h'' h3' =>
  obtain⟨x,h1,h2⟩:=iJ hH hE h;obtain⟨y,h3,h4⟩:=iJ hH hE h';obtain⟨z,h5,h6⟩:=iJ hH hE h'';obtain⟨q,h7,h8⟩:=iJ hH hE h3';refine⟨.tuple [x,y,z,q].toArray,by simp[h1,h3,h5,h7],two rfl ?_⟩;intro i d hi
  match i,hi with
  | 0,hi=>simp at hi;subst hi;simpa using h2
  | 1,hi=>simp at hi;subst hi;simpa using h4
  | 2,hi=>simp at hi;subst hi;simpa using h6
  | 3,hi=>simp at hi;subst hi;simpa using h8
def yl(i:Nat):List AV->List (Nat×AV)
 | []=>[]
 | v::r=>(i,v)::yl (i+1) r
theorem AK:∀(l:List AV) (i t:Nat),lk (yl i l) t=if i<=t then(l[t-i]?).getD .top else .top
 | [],i,t=>by simp[yl,Du]
 | v::l,i,t=>by
  simp only[yl];by_cases h:t=i
  ·subst h;rw[ba];simp
  ·rw[aV _ _ h,AK l (i+1) t];by_cases h2:i<=t
   ·rw[if_pos qad,if_pos h2];have:t-i=(t-(i+1))+1:=qad;rw[this];simp
   ·rw[if_neg qad,if_neg h2]
theorem vJ{f:FuncId}{fn:Func}{c:Code}{args:List AV}{H:AHeap}{nx:Nat}{K:AV->AHeap->Nat->Prop}(hf:P.funcs[f]?=some fn)(hb:fn.body=some c)(hn:args.length<=fn.ntmps)
  (h:kw none P G fn.ntmps nx c { env:=yl 0 args,heap:=H,nx:=nx } [] fun e st' ms'=>(e = .normal\/e = .ret)/\ms'=[] /\ ∃ v,Q2 P G st' fn.results v/\K v st'.heap st'.nx):bq P G f args H nx K:=by
 intro C vs hH hU hs hr;refine yH (callsIn_of_wp hf hb trivial ?_);have hR:Rel G fn.ntmps { env:=yl 0 args,heap:=H,nx:=nx } [] C { tmps:=vs++Array.replicate (fn.ntmps-vs.size) undef,defers:=[] }:=by
  refine⟨hH,⟨by simp;omega,fun t=>?_⟩,hU,(fun m hm=>by cases hm),rfl⟩;rw[AK,if_pos (dW _)];cases hg:args[t-0]? with
  | none=>exact .top _
  | some v =>
   simp only[Wb]at hg;have hlt:=(nt.1 hg).1;rw[nV,if_pos qad];exact hr t v hg
 refine wpIn_mono (h C.U C _ hR fun m hm=>⟨hm,hU m hm⟩) ?_;rintro e a' w' ⟨st',ms',C',rfl,⟨he,rfl,v,hv,hK⟩,hR',hT⟩;obtain⟨x,h1,h2⟩:=Er hR'.heap hR'.env hv;have hd:a'.defers=[]:=by rw[hR'.defers];rfl
 rcases he with rfl|rfl
 ·exact qfy
 ·exact qfy
end Go.AL
