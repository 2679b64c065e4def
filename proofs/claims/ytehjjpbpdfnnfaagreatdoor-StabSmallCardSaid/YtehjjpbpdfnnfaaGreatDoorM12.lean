import Derived.Test.YtehjjpbpdfnnfaaGreatDoorM00
import Derived.Test.YtehjjpbpdfnnfaaGreatDoorM11
namespace Go.Tz
open Go Go.AL Go.Proofs Go.Ma
theorem L2:aq Tryz.f22=true:=ar
theorem Qx{val:Nat->Option Nat}{m N k:Nat}(h:k<N):(pv val m N)[(k:Int).toNat]?=some (J9 (val k) m):=by
 simp[List.getElem?_range h]
theorem RQ(val:Nat->Option Nat)(m N:Nat)(hN:N<=4096):PC Pr GG 22 [.sl (pv val m N) false,.sl (pv val m N) false] (.bool true):=by
 have hl:(pv val m N).length=N:=aR;have hg:=fun k (h:k<N)=>Qx (val:=val) (m:=m) h;generalize pv val m N=V at hl hg⊢;subst hl;have hne:(((V.length:Nat):Int) != ((V.length:Nat):Int))=false:=aR;refine ae pok Tryz.func22 L2 ?_;conv=>whnf
 repeat' first|((first|refine O6.mk _ rfl ?_|refine O8.mk _ aK ?_|refine aJ ny ?_|refine bp hne ?_|refine HpP.force ?_);conv=>whnf)|(intro t ht;cases t<;>conv=>whnf)
 refine ax pok (fun k=>⟨[(0,.d (.sl V false)),(1,.d (.sl V false)),(12,.d (iD V.length)),(13,.d (iD k))],[],0⟩) (V.length) (fun _=>True) (trivial) ?_ ar ?_ ?_
 ·exact nr
 ·intro k A_k h_k I_k N_k;have e_k:aD .i64 (k:Int) 1=((k+1:Nat):Int):=ak eH;have hgk:=hg k h_k;generalize val k=v at hgk;conv=>whnf
  repeat (refine O6.mk _ rfl ?_;conv=>whnf)
  intro t ht;cases t
  ·exact bu
  conv=>whnf
  cases v with
  | none =>
   repeat' first|((first|refine O6.mk _ (by first|rfl|exact hgk) ?_|refine O8.mk _ aK ?_|refine aJ ny ?_|refine HpP.force ?_);conv=>whnf)|(intro t ht;cases t<;>conv=>whnf)
   ·refine N_k _ ?_ ?_
    ·exact cY
    ·exact I1
   ·exact Fl
  | some p =>
   repeat' first|((first|refine O6.mk _ (by first|rfl|exact hgk) ?_|refine O8.mk _ aK ?_|refine aJ ny ?_|refine HpP.force ?_);conv=>whnf)|(intro t ht;cases t<;>conv=>whnf)
   ·refine N_k _ ?_ ?_
    ·exact cY
    ·exact I1
   ·exact Fl
 ·exact qif
theorem CS:PC Pr GG 22 [.sl [] true,.sl [] true] (.bool true):=kL ar
theorem Kg:aq Tryz.f3=true:=ar
theorem QA(w:Int)(l:List Ps)(t:Bool)(b:Int):PC Pr GG 3 [cf w l t,iD b] (.bool true):=by
 by_cases h:l.length>20
 ·refine ae pok Tryz.func3 Kg ?_;conv=>whnf
  repeat' first|((first|refine O6.mk _ rfl ?_|refine O8.mk _ aK ?_|refine aJ ny ?_|refine aa av ?_|refine ab av ?_|refine HpP.force ?_);conv=>whnf)|(intro t ht;cases t<;>conv=>whnf)
  ·exact lQ
  ·exact GL
 ·have hgt:decide (((l.map Ps.l).length:Int)>20)=false:=decide_eq_false qga;have c16:=DN (G:=GG) w l t qad;have c18:=lW (G:=GG) w l t qad;have c17:=oq (G:=GG) w l false qad;have c23:=xE (G:=GG) w w l l false t qad;rw[decide_eq_true ⟨rfl,rfl⟩]at c23;by_cases hc:bD w l=0
  ·obtain⟨W,rfl,hs⟩:=jT hc;rw[hc]at c17;obtain⟨lst,m,val,hm,ha,c19⟩:=Hv hs false;have hp:=Pc hs;obtain⟨_,e2,e3⟩:=LY (cN hs).good (bK hs).2 ha hp.amp;have hp12:2^W<=4096:=js qaj hs.hi;have hvc:pv (oC W (DT W l) (LA W l)) (DT W l).length (2^W)=pv val m (2^W):=by
    unfold pv;rw[<- e2];exact xX fun k hk=>by rw[e3 k (cJ.1 hk)]
   have c20:PC Pr GG 20 [cf W l false] (.tup [.sl (if W<=6 then pv val m (2^W) else []) (if W<=6 then false else true),iD (if W<=6 then 0 else 3)]):=by
    by_cases h6:W<=6
    ·have:=Qz false hs h6;rw[hvc]at this;rw[if_pos h6,if_pos h6,if_pos h6];exact this
    ·rw[if_neg h6,if_neg h6,if_neg h6];exact Lk false hs qad
   have c22:PC Pr GG 22 [.sl (if W<=6 then pv val m (2^W) else []) (if W<=6 then false else true),.sl (if W<=6 then pv val m (2^W) else []) (if W<=6 then false else true)] (.bool true):=by
    by_cases h6:W<=6
    ·rw[if_pos h6,if_pos h6];exact RQ val m _ hp12
    ·rw[if_neg h6,if_neg h6];exact CS
   have hvl:(pv val m (2^W)).length=2^W:=aR;by_cases hb:0<=b/\b<((2^W:Nat):Int)
   ·obtain⟨B,rfl⟩:∃ B:Nat,b=B:=⟨b.toNat,by omega⟩
    have hB:B<2^W:=qad;have c21:=Ct false B hs hB;rw[<- e3 B hB,<- e2]at c21;have hg:=Qx (val:=val) (m:=m) hB;clear e2 e3 hvc hp ha;generalize 2^W=N at *;have hb0:decide ((B:Int)>=0)=true:=decide_eq_true qad;have hbN:decide ((B:Int)<(((pv val m N).length:Nat):Int))=true:=decide_eq_true (by rw[hvl];omega);generalize pv val m N=V at *;generalize val B=v at c21 hg;by_cases h6:W<=6
    ·rw[if_pos h6,if_pos h6,if_pos h6]at c20;rw[if_pos h6,if_pos h6]at c22;have hd6:decide ((W:Int)<=6)=true:=decide_eq_true qad;refine ae pok Tryz.func3 Kg ?_;conv=>whnf
     cases v;all_goals
      repeat' first|((first|refine O6.mk _ qeo ?_|refine O8.mk _ aK ?_|refine aJ qcj ?_|refine bp hgt ?_|refine bp hd6 ?_|refine bp hb0 ?_|refine bp hbN ?_|refine aQ ?_|refine aa c16 ?_|refine ab c16 ?_|refine aa c18 ?_|refine ab c18 ?_|refine aa c17 ?_|refine ab c17 ?_|refine aa c19 ?_|refine ab c19 ?_|refine aa c20 ?_|refine ab c20 ?_|refine aa c21 ?_|refine ab c21 ?_|refine aa c22 ?_|refine ab c22 ?_|refine aa c23 ?_|refine ab c23 ?_|refine aa av ?_|refine ab av ?_|refine HpP.force ?_);conv=>whnf)|(intro t ht;cases t<;>conv=>whnf)
      exact fin rfl
    ·rw[if_neg h6,if_neg h6,if_neg h6]at c20;rw[if_neg h6,if_neg h6]at c22;have hd6:decide ((W:Int)<=6)=false:=decide_eq_false qad;refine ae pok Tryz.func3 Kg ?_;conv=>whnf
     cases v;all_goals
      repeat' first|((first|refine O6.mk _ qeo ?_|refine O8.mk _ aK ?_|refine aJ qcj ?_|refine bp hgt ?_|refine bp hd6 ?_|refine bp hb0 ?_|refine bp hbN ?_|refine aQ ?_|refine aa c16 ?_|refine ab c16 ?_|refine aa c18 ?_|refine ab c18 ?_|refine aa c17 ?_|refine ab c17 ?_|refine aa c19 ?_|refine ab c19 ?_|refine aa c20 ?_|refine ab c20 ?_|refine aa c21 ?_|refine ab c21 ?_|refine aa c22 ?_|refine ab c22 ?_|refine aa c23 ?_|refine ab c23 ?_|refine aa av ?_|refine ab av ?_|refine HpP.force ?_);conv=>whnf)|(intro t ht;cases t<;>conv=>whnf)
      exact fin rfl
   ·have c21:=zO false b hs qad;clear e2 e3 hvc hp ha;generalize 2^W=N at *;generalize pv val m N=V at *;have hbb:decide (b>=0)=false\/(decide (b>=0)=true/\decide (b<((V.length:Nat):Int))=false):=by
     by_cases q:0<=b
     ·exact .inr ⟨decide_eq_true q,decide_eq_false (by rw[hvl];omega)⟩
     ·exact .inl (decide_eq_false q)
    by_cases h6:W<=6
    ·rw[if_pos h6,if_pos h6,if_pos h6]at c20;rw[if_pos h6,if_pos h6]at c22;have hd6:decide ((W:Int)<=6)=true:=decide_eq_true qad;rcases hbb with hb0|⟨hb0,hbN⟩
     ·exact qh4
     ·exact qh2
    ·rw[if_neg h6,if_neg h6,if_neg h6]at c20;rw[if_neg h6,if_neg h6]at c22;have hd6:decide ((W:Int)<=6)=false:=decide_eq_false qad;rcases hbb with hb0|⟨hb0,hbN⟩
     ·exact qh4
     ·exact qh2
  ·have c20:=Li (w:=w) (l:=l) false qad hc;have c21:=zN (w:=w) (l:=l) false b qad hc;have c22:=CS;generalize bD w l=e at c17 c20 c21 hc;have hne:(e==0)=false:=by simpa using hc
   refine ae pok Tryz.func3 Kg ?_;conv=>whnf
   repeat' first|((first|refine O6.mk _ rfl ?_|refine O8.mk _ aK ?_|refine aJ ny ?_|refine bp hgt ?_|refine bp hne ?_|refine aQ ?_|refine aa c16 ?_|refine ab c16 ?_|refine aa c18 ?_|refine ab c18 ?_|refine aa c17 ?_|refine ab c17 ?_|refine aa c20 ?_|refine ab c20 ?_|refine aa c21 ?_|refine ab c21 ?_|refine aa c22 ?_|refine ab c22 ?_|refine aa c23 ?_|refine ab c23 ?_|refine aa av ?_|refine ab av ?_|refine HpP.force ?_);conv=>whnf)|(intro t ht;cases t<;>conv=>whnf)
   exact fin rfl
end Go.Tz
namespace Go.AL
open Go
variable{G:Nat->Option (List D)}
structure Chg (w w':World) (k:Nat) (cs cs':Array Value):Prop where
 os:w'.os=w.os
 tape:w'.tape=w.tape
 output:w'.output=w.output
 size:w'.heap.size=w.heap.size
 other:∀ j,j≠k->w'.heap[j]?=w.heap[j]?
 at_:∃ e,w.heap[k]?=some (.cells cs e (0,0))/\w'.heap[k]?=some (.cells cs' e (0,0))
 csz:cs'.size=cs.size
theorem Chg.trans{w w' w'':World}{k:Nat}{cs cs' cs'':Array Value}(h:Chg w w' k cs cs')(h2:Chg w' w'' k cs' cs''):Chg w w'' k cs cs'':=by
 refine⟨h2.os.trans h.os,h2.tape.trans h.tape,h2.output.trans h.output,h2.size.trans h.size,fun j hj=>(h2.other j hj).trans (h.other j hj),?_,h2.csz.trans h.csz⟩;obtain⟨e,a,b⟩:=h.at_;obtain⟨e',a',b'⟩:=h2.at_;rw[b]at a';cases a';exact⟨e,a,b'⟩
end Go.AL
namespace Go.Tz
open Go Go.AL Go.Proofs
abbrev Bx(bs:List Int)(u:Bool)(nx st:Int):Blk:=.arr 3 [[.d (.sl (bs.map fun b=>[.int .u8 b]) u),.d (iD nx),.d (.int .u32 st)]]
structure SC {ι:Type} (f:FuncId) (args:List D) (bs:List Int) (u:Bool) (cnt n0:Nat) (dof:ι->D) (Q:ι->Prop):Prop where
 fn:jw Pr f
 call:∀(nx:Nat) (st:Int),nx+cnt<=4611686018427387904->bq Pr GG f (.ptr 0 3 0 0::args.map .d) [(0,some (Bx bs u nx st))] n0 fun v H n=>∃(i:ι) (st':Int) (nx':Nat),nx'<=nx+cnt/\Q i/\v = .d (dof i)/\H=[(0,some (Bx bs u nx' st'))]/\n=n0
variable{ι:Type}{f:FuncId}{args:List D}{bs:List Int}{u:Bool}{cnt n0:Nat}{dof:ι->D}{Q:ι->Prop}
end Go.Tz
namespace Go.Tz
open Go Go.AL Go.Proofs
def cfL:List Int:=[1,2,3,4,5,6,9,10,11]
abbrev cfD:D:=.sl (cfL.map fun k=>[iD k]) false
end Go.Tz
namespace Go.AL
open Go
variable{P:Program}{G G2:Nat->Option (List D)}{f:FuncId}
theorem Kx(hG:∀ g ds,G g=some ds->G2 g=some ds){C:Ctx}{H:AHeap}(h:P0 G2 C H):P0 G C H:=⟨h.blk,h.inj,h.ro,fun g ds e=>h.glob g ds (hG g ds e)⟩
theorem LR(hG:∀ g ds,G g=some ds->G2 g=some ds){args:List AV}{H:AHeap}{nx:Nat}{K:AV->AHeap->Nat->Prop}(h:bq P G f args H nx K):bq P G2 f args H nx K:=by
 intro C vs hH hU hl hr;refine(h C vs (Kx hG hH) hU hl hr).mono ?_;rintro e w' ⟨x,v,H',n',C',rfl,rfl,hk,hv,h1,hU',hT⟩;exact⟨x,v,H',n',C',rfl,rfl,hk,hv,⟨h1.blk,h1.inj,h1.ro,fun g ds e=>(hH.glob g ds e).later hT hH⟩,hU',hT⟩
end Go.AL
namespace Go.Tz
open Go Go.AL Go.Proofs
def GK:Nat->Option (List D):=fun g=>match Nat.beq g 0 with
 | true=>some [cfD]
 | false=>GG g
theorem gk_up:∀ g ds,GG g=some ds->GK g=some ds:=fun g ds h=>by
 match g,h with
 | g+1,h=>exact h
structure SK {ι:Type} (f:FuncId) (args:List D) (bs:List Int) (u:Bool) (cnt n0:Nat) (dof:ι->D) (Q:ι->Prop):Prop where
 fn:jw Pr f
 call:∀(nx:Nat) (st:Int),nx+cnt<=4611686018427387904->bq Pr GK f (.ptr 0 3 0 0::args.map .d) [(0,some (Bx bs u nx st))] n0 fun v H n=>∃(i:ι) (st':Int) (nx':Nat),nx'<=nx+cnt/\Q i/\v = .d (dof i)/\H=[(0,some (Bx bs u nx' st'))]/\n=n0
variable{ι:Type}{f:FuncId}{args:List D}{bs:List Int}{u:Bool}{cnt n0:Nat}{dof:ι->D}{Q:ι->Prop}
theorem SC.k(h:SC f args bs u cnt n0 dof Q):SK f args bs u cnt n0 dof Q:=⟨h.fn,fun nx st hb=>LR gk_up (h.call nx st hb)⟩
end Go.Tz
namespace Go.Tz
open Go Go.AL Go.Proofs Go.Ma
theorem q0:cO IntKind.i64 (fH IntKind.i64 2 0) 1 = -1:=ar
theorem q1:cO IntKind.i64 (fH IntKind.i64 2 1) 1=1:=ar
end Go.Tz
namespace Go.Ma
variable{k:Nat}{f:Nat->Nat}
variable{M M' w:Nat}
def cw(M:Nat):Nat->Nat
 | 0=>0
 | w+1=>cw M w+(M.testBit w).toNat
variable{L:List Nat}
end Go.Ma
