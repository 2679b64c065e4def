import Derived.Test.YtehjjpbpdfnnfaaGreatDoorM00
import Derived.Test.YtehjjpbpdfnnfaaGreatDoorM12
namespace Go.Tz
open Go Go.AL Go.Proofs
theorem EC{G:Nat->Option (List D)}{P:Program}{st:St}{o:Oper}{nm sz N:Nat}{t:Bool}{es:List (List D)}{H0:AHeap}{nms:Nat->Prop}(h:StepOp G P st o (.sl nm sz 0 N N t) ((nm,some (ap sz es))::H0) nms)(hN:N=es.length) :
  StepOp G P st o (.d (.sl es t)) (gF [nm] ((nm,some (ap sz es))::H0)) nms:=by
 intro C a hH hop hn;obtain⟨C',r,h1,h2,h3,h4,h5⟩:=h C a hH hop hn;obtain⟨C2,e1,e2,e3,g,tt,rr,q⟩:=gH [nm] h3;have hHL:P0 G C' [(nm,some (ap sz es))]:=iv h3 fun m bl h=>by
  by_cases em:m=nm
  ·subst em;rw[ao]at h⊢;exact h
  ·exact qhd
 have hAs:AsD [(nm,some (ap sz es))] (.sl nm sz 0 N N t) (.sl es t):=fR (ao nm _ []) hN;refine⟨C2,r,by rw[e1];exact h1,?_,g,h4.trans (tt.weaken fun m hm=>(h4.names m hm).1),fun m hm=>h5 m (e2 ▸ hm)⟩;rcases h2 with⟨x,rfl,hx⟩|⟨_,h⟩
 ·refine .inl ⟨x,rfl,.d _ _ ?_⟩;have:=jR hHL (RO:=C2.RO) rr (fun m bl j h1 h2=>by
   by_cases em:m=nm
   ·subst em;exact q m _ j aR (ao _ _ _) h2
   ·rw[ai _ _ em]at h1;cases h1) hAs x hx
  rw[e1];exact this
 ·cases h
end Go.Tz
