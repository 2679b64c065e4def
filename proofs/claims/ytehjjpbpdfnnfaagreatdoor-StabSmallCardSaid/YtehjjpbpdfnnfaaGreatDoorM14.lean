import Derived.Test.YtehjjpbpdfnnfaaGreatDoorM00
import Derived.Test.YtehjjpbpdfnnfaaGreatDoorM13
import Derived.Deep.Slices
import Derived.LaidMore
import Derived.OpenShut
import Derived.ProofKit
import Derived.Test.YtehjjpbpdfnnfaaGreatDoorCards
import Derived.Test.YtehjjpbpdfnnfaaGreatDoorTie
namespace Go.Tz
open Go Go.AL Go.Proofs Go.ChangeShapes Go.WideShapes Go.ChangeAt Go.RowKit Go.Deep
variable{H:Type}{enc:TypeId×Value->H}{W:World}{spare:Nat->Bool}{held:Bool}
theorem Ib{b o:Nat}{v:Value}(h:W.cell? ⟨b,o,none⟩=some v):b<W.heap.size:=by
 refine Fp fun hn=>?_;have:W.heap[b]?=none:=Array.getElem?_eq_none qad;unfold World.cell? at h;simp[this]at h
def Ps.v(q:Ps)(j:Nat):Value:=match j with
 | 0=>.int .i64 q.w
 | 1=>.int .i64 q.x
 | 2=>.int .i64 q.z
 | _=>.int .i64 q.p
instance:Inhabited Ps:=⟨Ps.z0⟩
end Go.Tz
namespace Go.Tz
open Go Go.AL Go.Proofs Go.ChangeShapes Go.WideShapes Go.ChangeAt Go.RowKit Go.Deep
variable{H:Type}{enc:TypeId×Value->H}{W:World}{spare:Nat->Bool}{held:Bool}
abbrev laid2 : List (String × DataW Unit) := [("math/bits.deBruijn32tab", YtehjjpbpdfnnfaaGreatDoor.Rows.laid_math_bits_deBruijn32tab), ("math/bits.deBruijn64tab", YtehjjpbpdfnnfaaGreatDoor.Rows.laid_math_bits_deBruijn64tab)]
theorem g1 : Pr.globalNamed "math/bits.deBruijn32tab" = some 1 := by kernel_rfl
theorem g2 : Pr.globalNamed "math/bits.deBruijn64tab" = some 2 := by kernel_rfl
theorem Dp{t N:Nat}{fuel:Nat}{cs:List Value}{x:DataW H×List MemPlace}{ks:List Int}(ht:Pr.underlying t=some (.array N 5))(h:DataW.trod enc Pr W 0 spare held fuel t cs=some x)(hx:x.1 = .agg (ks.map fun k:Int=>DataW.lit (Lit.int .u8 k))) :
  ∀(j:Nat) (k:Int),ks[j]?=some k->cs[j]?=some (Value.int .u8 k):=by
 obtain⟨xs,m,_,rfl,hl,hn,hel⟩:=DataW.trod_array ht h;have c5:Pr.cellsOf 5=1:=ar;have u5:Pr.underlying 5=some (.int .u8):=ar;intro j k hk;have hxe:xs.map (·.1)=ks.map fun k=>DataW.lit (Lit.int .u8 k):=by
  simpa using hx
 have hj:j<xs.length:=by
  have h1:=(nt.1 hk).1;have h2:=congrArg List.length hxe;simp at h2;omega
 have h0:=hel j qad;rw[c5,UA,ew hj]at h0;obtain⟨n,e1,e2,_⟩:=DataW.trod_int u5 h0;have h3:(xs[j]).1=DataW.lit (Lit.int .u8 k):=by
  have:=congrArg (fun l=>l[j]?) hxe;simp only[mV,ew hj,hk,LP]at this;exact ku this
 rw[e2]at h3;have hnk:n=k:=by cases h3;rfl
 subst hnk;have h4:=congrArg (fun l:List Value=>l[0]?) e1;simp only[Fb,List.getElem?_drop]at h4;simpa using h4
def k32:List Int:=VN.map fun d=>match d with
 | .int _ n=>n
 | _=>0
def k64:List Int:=xL.map fun d=>match d with
 | .int _ n=>n
 | _=>0
theorem d32:(YtehjjpbpdfnnfaaGreatDoor.Rows.laid_math_bits_deBruijn32tab:DataW H) = .agg (k32.map fun k:Int=>DataW.lit (Lit.int .u8 k)):=rfl
theorem d64:(YtehjjpbpdfnnfaaGreatDoor.Rows.laid_math_bits_deBruijn64tab:DataW H) = .agg (k64.map fun k:Int=>DataW.lit (Lit.int .u8 k)):=rfl
theorem PE{RO:Nat->Prop}{g:Nat}(hg:RO g){ks:List Int}(h:∀(j:Nat) (k:Int),ks[j]?=some k->W.cell? ⟨g,j,none⟩=some (Value.int .u8 k)):P1 W RO (.rop (ks.map fun k=>.int .u8 k) 0) (.pointer (some ⟨g,0,none⟩)):=by
 have:=P1.rop (w:=W) (RO:=RO) (ks.map fun k=>D.int .u8 k) 0 g 0 (fun j=>.int .u8 (ks.getD j 0)) hg (fun j d hd=>by
  rw[mV,tT]at hd;obtain⟨k,hk,rfl⟩:=hd;rw[jj,h j k hk,jI,hk];rfl) (fun j d hd=>by
  rw[mV,tT]at hd;obtain⟨k,hk,rfl⟩:=hd;rw[jI,hk];exact .int _ _)
 exact this
theorem Sk(h:laidMetH Pr laid2 W):∀ g ds,GG g=some ds->P1 W (fun k=>k<W.heap.size) (.rop ds 0) (.pointer (some ⟨g,0,none⟩)):=by
 rw[MakeChecks.laidMetH_plain _ _ _ ar]at h;obtain⟨ps,⟨g0,t0,cs0,f0,p0,q0,hg0,ht0,hv0,hd0,⟨h1g,h1t,cs1,f1,p1,q1,hg1,ht1,hv1,hd1,_,_⟩,_⟩,_,_⟩:=h;obtain rfl:=ku (g1.symm.trans hg0);obtain rfl:=ku (g2.symm.trans hg1);have u1:(Pr.globals[1]?).map (·.type)=some 312:=ar;have u2:(Pr.globals[2]?).map (·.type)=some 313:=ar;have v1:Pr.underlying 312=some (.array 32 5):=ar;have v2:Pr.underlying 313=some (.array 64 5):=ar;have w1:(312:Nat)=t0:=ku (u1.symm.trans ht0);have w2:(313:Nat)=h1t:=ku (u2.symm.trans ht1);rw[w1]at v1;rw[w2]at v2;have c0:=Dp (ks:=k32) v1 hd0 d32;have c1:=Dp (ks:=k64) v2 hd1 d64;have e0:∀(j:Nat) (k:Int),k32[j]?=some k->W.cell? ⟨1,j,none⟩=some (Value.int .u8 k):=fun j k hk=>by
  rw[World.var?_cell hg0 hv0 j];have:=c0 j k hk
  rwa [Array.getElem?_toList]at this
 have e1:∀(j:Nat) (k:Int),k64[j]?=some k->W.cell? ⟨2,j,none⟩=some (Value.int .u8 k):=fun j k hk=>by
  rw[World.var?_cell hg1 hv1 j];have:=c1 j k hk
  rwa [Array.getElem?_toList]at this
 have r1:=PE (RO:=fun k=>k<W.heap.size) (Ib (e0 0 0 rfl)) e0;have r2:=PE (RO:=fun k=>k<W.heap.size) (Ib (e1 0 0 rfl)) e1;intro g ds hg;unfold GG at hg;split at hg
 ·rename_i e;obtain rfl:=waf e;cases hg;exact r1
 ·split at hg
  ·rename_i e;obtain rfl:=waf e;cases hg;exact r2
  ·cases hg
end Go.Tz
