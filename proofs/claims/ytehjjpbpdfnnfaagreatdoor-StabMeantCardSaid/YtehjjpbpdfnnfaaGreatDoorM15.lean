import Derived.Test.YtehjjpbpdfnnfaaGreatDoorM00
import Derived.Test.YtehjjpbpdfnnfaaGreatDoorM14
/- Along a Clifford circuit with measurements, resets and choices, the state kept as strings is for every list of outcomes the branch of the full vector, up to a phase and its norm: StabMeant answers true for all arguments that its card lets in; no further conditions. -/
namespace Go.Proofs.YtehjjpbpdfnnfaaGreatDoor
open Go Go.AL Go.Tz Go.Proofs Go.ChangeShapes Go.WideShapes Go.ChangeAt Go.RowKit Go.Deep
noncomputable abbrev cP:=Tryz.pinned.checked.prog
theorem own:ownKnob Tryz.prog.godebug=none:=qah
theorem laidOut:laidOutB Tryz.prog=true:=qah
theorem cj2:laidOutB cP=true:=qah
theorem cj3:mapsRowed cP=true:=qah
theorem cj7:(Program.stops cP==[])=true:=qah
theorem cj9:(Program.stopKnobs cP==[])=true:=qah
theorem cj20:(OpenClaim.plainKeys Rows.stabChecksRow==Program.plainKeys cP)=true:=qah
theorem cj22:Program.stopsHeard cP=true:=qah
theorem cj23:Program.mayEnter cP=true:=qah
theorem cj24:(OpenClaim.lifted Rows.stabChecksRow==Program.liftsFinal cP)=true:=qah
theorem cj25:(Program.make cP==some (OpenClaim.make Rows.stabChecksRow))=true:=qah
theorem cjM : Program.mainIs cP = some (true, String.toList "8b097af312537285be51cb7f5f4f0726b8661743bb377639627160fb316d0ecd") := by kernel_rfl
theorem cjL:false=Program.looks cP []:=qah
end Go.Proofs.YtehjjpbpdfnnfaaGreatDoor
namespace Go.Tz
open Go Go.AL Go.Proofs Go.ChangeShapes Go.WideShapes Go.ChangeAt Go.RowKit Go.Deep
variable{H:Type}{enc:TypeId×Value->H}{W:World}{spare:Nat->Bool}{held:Bool}
theorem zx7{fuel:Nat}{cs:List Value}{x:DataW H×List MemPlace}(h:DataW.trod enc Pr W 0 spare held fuel 102 cs=some x):∃(l:List Int) (v:Value),cs=[v]/\DRel W (fun k=>k<W.heap.size) (bytesD l false) v:=by
 have c5:Pr.cellsOf 5=1:=qah
 have u5:Pr.underlying 5=some (.int .u8):=qah
 rcases open_slice1 Tryz.underlying102 c5 h with⟨rfl,_⟩|⟨a,len,cap,m,n,V,Dd,Pl,rfl,_,hl,_,hm,_,hx⟩
 ·exact⟨[],_,rfl,.sl0 _ _ _ (fun h=>by cases h)⟩
 have hlm:len<=m:=by rw[hm];split<;>omega
 have hq:∀ i,i<len->∃ k:Int,W.cell? (a.add i)=some (.int .u8 k):=fun i hi=>by
  obtain⟨h1,h2⟩:=hx i qad
  obtain⟨k,e,_⟩:=DataW.trod_int u5 h2
  exact⟨k,by rw[h1,(List.cons.inj e).1]⟩
 obtain⟨q,hq⟩:=choose_lt hq
 obtain⟨b,o,s⟩:=a
 by_cases hz:len=0
 ·subst hz
  exact⟨[],_,rfl,.sl0 _ _ _ (fun h=>by cases h)⟩
 have hs:s=none:=by
  have:=World.cell?_spot (hq 0 qad)
  simpa[Addr.add] using this
 subst hs
 have hcell:∀ i,i<len->W.cell? ⟨b,o+i,none⟩=some (.int .u8 (q i)):=fun i hi=>by
  have:=hq i hi
  rwa [add_plain]at this
 have hb:b<W.heap.size:=zmr (hcell 0 qad)
 refine⟨(List.range len).map q,_,rfl,?_⟩
 have key:=DRel.sl (w:=W) (RO:=fun k=>k<W.heap.size) (((List.range len).map q).map fun k=>[D.int IntKind.u8 k]) false b o cap 1 (fun i _=>.int .u8 (q i)) hb qeg (fun h=>by cases h) (fun el hel=>by obtain⟨k,_,rfl⟩:=List.mem_map.1 hel;rfl)
  (fun i j el d h1 h2=>by
   have hi:i<len:=by
    have:=(List.getElem?_eq_some_iff.1 h1).1
    simpa using this
   have hel:el.length=1:=qdl
   have hj:j=0:=by
    have:=(List.getElem?_eq_some_iff.1 h2).1
    omega
   subst hj
   have:=hcell i hi
   rw[Nat.mul_one,Nat.add_zero];exact this)
  (fun i j el d h1 h2=>by
   have hi:i<len:=by
    have:=(List.getElem?_eq_some_iff.1 h1).1
    simpa using this
   have he:el=[D.int IntKind.u8 (q i)]:=by
    simp[hi]at h1
    exact h1.symm
   subst he
   match j,h2 with
   | 0,h2=>cases h2;exact .int _ _
   | j+1,h2=>simp at h2)
 have e:(((List.range len).map q).map fun k=>[D.int IntKind.u8 k]).length=len:=qc3
 rw[e]at key
 exact key
theorem ints_val{fuel:Nat}{cs:List Value}{x:DataW H×List MemPlace}{ks:List Int}{sp:List (DataW H)}(h:DataW.trod enc Pr W 0 spare held fuel 42 cs=some x)(hv:x.1 = .slice (ks.map fun k=>DataW.lit (Lit.int .i64 k)) sp)(hne:ks≠[]):∃ v:Value,cs=[v]/\DRel W (fun k=>k<W.heap.size) (intsD ks false) v:=by
 have c3:Pr.cellsOf 3=1:=qah
 rcases open_slice1 Tryz.underlying42 c3 h with⟨rfl,rfl⟩|⟨a,len,cap,m,n,V,Dd,Pl,rfl,_,hl,_,hm,rfl,hx⟩
 ·cases hv
 have hlm:len<=m:=by rw[hm];split<;>omega
 have hv1:(List.range len).map Dd=ks.map fun k=>DataW.lit (Lit.int .i64 k):=by
  injection hv
 have hlen:len=ks.length:=by
  have:=congrArg List.length hv1
  simpa using this
 have hq:∀ i,i<len->W.cell? (a.add i)=some (.int .i64 (ks.getD i 0)):=fun i hi=>by
  obtain⟨h1,h2⟩:=hx i qad
  obtain⟨k,e,e2,_⟩:=DataW.trod_int Tryz.underlying3 h2
  have h3:Dd i=DataW.lit (Lit.int .i64 (ks.getD i 0)):=by
   have:=congrArg (fun l:List (DataW H)=>l[i]?) hv1
   simp only[List.getElem?_map,List.getElem?_range hi,Option.map_some]at this
   rw[List.getElem?_eq_getElem qad]at this
   rw[List.getD_eq_getElem?_getD,List.getElem?_eq_getElem qad]
   exact Option.some.inj this
  have e2:Dd i=DataW.lit (Lit.int .i64 k):=congrArg Prod.fst (show(Dd i,Pl i)=_ from e2)
  rw[h3]at e2
  have hk:ks.getD i 0=k:=by cases e2;rfl
  rw[h1,(List.cons.inj e).1,hk]
 obtain⟨b,o,s⟩:=a
 have hpos:0<len:=by rw[hlen];exact List.length_pos_iff.2 hne
 have hs:s=none:=by
  have:=World.cell?_spot (hq 0 hpos)
  simpa[Addr.add] using this
 subst hs
 have hcell:∀ i,i<len->W.cell? ⟨b,o+i,none⟩=some (.int .i64 (ks.getD i 0)):=fun i hi=>by
  have:=hq i hi
  rwa [add_plain]at this
 have hb:b<W.heap.size:=zmr (hcell 0 hpos)
 refine⟨_,rfl,?_⟩
 have key:=DRel.sl (w:=W) (RO:=fun k=>k<W.heap.size) (ks.map fun k=>[iD k]) false b o cap 1 (fun i _=>.int .i64 (ks.getD i 0)) hb (by rw[List.length_map];omega) (fun h=>by cases h) (fun el hel=>by obtain⟨k,_,rfl⟩:=List.mem_map.1 hel;rfl)
  (fun i j el d h1 h2=>by
   have hi:i<len:=by
    have:=(List.getElem?_eq_some_iff.1 h1).1
    rw[List.length_map]at this;omega
   have hel:el.length=1:=qdl
   have hj:j=0:=by
    have:=(List.getElem?_eq_some_iff.1 h2).1
    omega
   subst hj
   have:=hcell i hi
   rw[Nat.mul_one,Nat.add_zero];exact this)
  (fun i j el d h1 h2=>by
   have hi:i<ks.length:=by
    have:=(List.getElem?_eq_some_iff.1 h1).1
    rwa [List.length_map]at this
   have he:el=[iD (ks.getD i 0)]:=by
    rw[List.getElem?_map,List.getElem?_eq_getElem hi]at h1
    rw[List.getD_eq_getElem?_getD,List.getElem?_eq_getElem hi]
    exact(Option.some.inj h1).symm
   subst he
   match j,h2 with
   | 0,h2=>cases h2;exact .int _ _
   | j+1,h2=>simp at h2)
 rw[List.length_map,<- hlen]at key
 exact key
abbrev laid3 : List (String × DataW Unit) := [("math/bits.deBruijn32tab", YtehjjpbpdfnnfaaGreatDoor.Rows.laid_math_bits_deBruijn32tab), ("math/bits.deBruijn64tab", YtehjjpbpdfnnfaaGreatDoor.Rows.laid_math_bits_deBruijn64tab), ("spoondrift/spoondriftkit.Clifford", YtehjjpbpdfnnfaaGreatDoor.Rows.laid_spoondrift_spoondriftkit_Clifford)]
theorem gc : Pr.globalNamed "spoondrift/spoondriftkit.Clifford" = some 0 := by kernel_rfl
theorem dcf:(YtehjjpbpdfnnfaaGreatDoor.Rows.laid_spoondrift_spoondriftkit_Clifford:DataW H) = .slice (cfL.map fun k:Int=>DataW.lit (Lit.int .i64 k)) []:=rfl
theorem cf_of(h:laidMetH Pr laid3 W):DRel W (fun k=>k<W.heap.size) (.rop [cfD] 0) (.pointer (some ⟨0,0,none⟩)):=by
 rw[MakeChecks.laidMetH_plain _ _ _ qah]at h
 obtain⟨ps,⟨g0,t0,cs0,f0,p0,q0,hg0,ht0,hv0,hd0,⟨h1g,h1t,cs1,f1,p1,q1,hg1,ht1,hv1,hd1,⟨h2g,h2t,cs2,f2,p2,q2,hg2,ht2,hv2,hd2,_,_⟩,_⟩,_⟩,_,_⟩:=h
 obtain rfl:=Option.some.inj (gc.symm.trans hg2)
 have u1:(Pr.globals[0]?).map (·.type)=some 42:=qah
 obtain rfl:(42:Nat)=h2t:=Option.some.inj (u1.symm.trans ht2)
 obtain⟨v,e,hr⟩:=ints_val hd2 dcf qag
 have hc:W.cell? ⟨0,0,none⟩=some v:=by
  rw[World.var?_cell hg2 hv2 0]
  have:cs2.toList[0]?=some v:=by rw[e];rfl
  rwa [Array.getElem?_toList]at this
 exact DRel.rop (w:=W) (RO:=fun k=>k<W.heap.size) [cfD] 0 0 0 (fun _=>v) (zmr hc) (fun j d hd=>by
  match j,hd with
  | 0,_=>exact hc
  | j+1,hd=>simp at hd) (fun j d hd=>by
  match j,hd with
  | 0,hd=>cases hd;exact hr
  | j+1,hd=>simp at hd)
theorem laid32(h:laidMetH Pr laid3 W):laidMetH Pr laid2 W:=by
 have := h.filter fun x => x.1 != "spoondrift/spoondriftkit.Clifford"
 exact this
theorem globK_of(h:laidMetH Pr laid3 W):∀ g ds,GK g=some ds->DRel W (fun k=>k<W.heap.size) (.rop ds 0) (.pointer (some ⟨g,0,none⟩)):=by
 intro g ds hg
 match g,hg with
 | 0,hg=>cases hg;exact cf_of h
 | g+1,hg=>exact glob_of (laid32 h) (g+1) ds hg
end Go.Tz
namespace Go.Proofs.YtehjjpbpdfnnfaaGreatDoor
open Go Go.AL Go.Tz Go.Proofs Go.ChangeShapes Go.WideShapes Go.ChangeAt Go.RowKit Go.Deep
theorem stabMeantD_met(os:Os)(args:Array Value):laidMetH Tryz.prog Go.Tz.laid3 ((World.doorLaid Tryz.prog 400 os).forCall (fun _ _=>0) ⟨#[],args,[]⟩).memory :=
 laidMetH_of_parts3 (fuel:=8) (laidMet_of_run' 8 qah qah) qah qah
set_option maxRecDepth 100000 in
theorem stabMeant_lifted(os:Os)(started:os.Started)(H:Type)(enc:TypeId×Value->H) :
  ReturnsInHanded {} Tryz.checked os 14 .any (fun w args=>(Rows.stabMeantSpec.pre enc Tryz.prog Tryz.f14 [] false w args/\laidMetH Tryz.prog Go.Tz.laid3 w)/\sizedMet enc Tryz.prog Tryz.f14 (OpenSpec.ofChange Rows.stabMeantSpec) false w args)
   (Rows.stabMeantSpec.post enc Tryz.prog Tryz.f14 false true false false):=by
 refine returnsInHanded_of_change_and (C:=Tryz.checked) (X:=fun w _=>laidMetH Tryz.prog Go.Tz.laid3 w) (fun _ _ _ hh h=>h.of_heap hh) own started qah Tryz.func14
  (ChangeSpec.witness_shaped (enc:=enc) (C:=Tryz.checked) (os:=os) (X:=fun w _=>laidMetH Tryz.prog Go.Tz.laid3 w) false (World.doorLaid Tryz.prog 400 os) #[.slice none 0 0,.int .u8 0] 8 rfl (World.shaped_of_RefB qah qah) qah qah qah (stabMeantD_met os _)) ?_
 intro W base args ds gs before hval0 hW _ _ hL _
 have hval:∀(j:Nat) t v,Tryz.f14.params[j]?=some t->args[j]?=some v->Value.okWide Tryz.prog W .any base t v:=hval0
 have hW':=hW
 obtain⟨p,q,hA0,hV,rfl,hfz,hnd⟩:=hW
 have hlt0:=hW'.lt
 have hA:DataW.TrodAll enc Tryz.prog W 0 (fun _=>true) true Tryz.f14.params.toList args.toList ds p:=hA0
 rw[Tryz.params14]at hA hval
 obtain⟨v0,v1,d0,d1,p0,p1,rfl,rfl,rfl,h0,h1⟩:=trodAll_two hA
 obtain⟨rfl,rfl⟩:=trodVars_none hV
 have r0:∃ ks:List Int,DRel W (fun k=>k<W.heap.size) (bytesD ks false) v0:=by
  obtain⟨fuel,hf⟩:=h0
  obtain⟨ks,v,e,hd⟩:=zx7 hf
  obtain⟨sa,sl,sc,rfl⟩:=okWide_slice Tryz.underlying102 (hval 0 102 v0 rfl rfl)
  have ev:Value.slice sa sl sc=v:=(List.cons.inj e).1
  exact⟨ks,by rw[ev];exact hd⟩
 obtain⟨k0,r0⟩:=r0
 obtain⟨n1,rfl,e1,_,wf1⟩:=open_int Tryz.underlying5 (hval 1 5 v1 rfl rfl) h1
 have r1:DRel W (fun k=>k<W.heap.size) (.int .u8 n1) (.int .u8 n1):=.int _ _
 have hc:=(meant14 k0 false n1).call
 have hH:HRel GK ⟨fun _=>False,fun _=>none,fun k=>k<W.heap.size,W⟩ []:=⟨fun _ _ h=>qed,fun _ _ _ _ _ h=>qed,fun _ h=>h,globK_of hL⟩
 refine(hc ⟨fun _=>False,fun _=>none,fun k=>k<W.heap.size,W⟩ #[v0,.int .u8 n1] hH (fun _ h=>h.elim) rfl (fun i v hi=>?_)).mono ?_
 ·match i,hi with
  | 0,hi=>cases hi;exact .d _ _ r0
  | 1,hi=>cases hi;exact .d _ _ r1
  | i+2,hi=>simp at hi
 ·rintro e W' ⟨x,v,H',nx',C',rfl,rfl,⟨rfl,rfl,rfl⟩,hx,_,_,hT⟩
  have hbelow:Below W.heap.size W C'.w:=⟨hT.os,hT.tape,hT.output,hT.size,fun k hk=>hT.frame k hk (fun _ _ h=>by cases h)⟩
  have hd:=zbi hx
  cases hd
  have q0:∀ x∈p0,x.block<W.heap.size:=fun x hx=>hlt0 x (by simp[hx])
  have q1:∀ x∈p1,x.block<W.heap.size:=fun x hx=>hlt0 x (by simp[hx])
  refine⟨_,rfl,_,_,_,[],p0++(p1++[]),[],hW',?_,?_,rfl,hbelow.frame _,fun h=>by cases h⟩
  ·exact trodAll_mk1 (shut_bool Tryz.underlying4 _)
  ·have b0:=Below.trod laidOut qah (of_decide_eq_true qah) h0 hbelow q0
   have b1:=Below.trod laidOut qah (of_decide_eq_true qah) h1 hbelow q1
   exact⟨_,_,b0,⟨_,_,b1,rfl,rfl⟩,rfl⟩
theorem stabMeant_c1:OpenClaim.wf (OpenSpec.ofChange Rows.stabMeantSpec) Rows.stabMeantRow=true:=qah
theorem stabMeant_c10:(OpenClaim.inPlace Rows.stabMeantRow==Program.inPlace cP 14)=true:=qah
theorem stabMeant_c11:(OpenClaim.unfollowed Rows.stabMeantRow==Program.unfollowed cP 14)=true:=qah
theorem stabMeant_c12:(OpenClaim.recurses Rows.stabMeantRow==Program.recurses cP 14)=true:=qah
theorem stabMeant_c13:(OpenClaim.named Rows.stabMeantRow==Program.varsNamed cP 14)=true:=qah
theorem stabMeant_cN:Program.funcNamed cP (OpenClaim.func Rows.stabMeantRow)=some 14:=qah
theorem stabMeant_cI:Func.isInstance cP Tryz.f14 (OpenClaim.origin Rows.stabMeantRow) (OpenClaim.targs Rows.stabMeantRow):=of_decide_eq_true qah
theorem stabMeant_cW:Func.isWrapper cP Tryz.f14 (OpenClaim.wrapper Rows.stabMeantRow) (OpenClaim.mainSum Rows.stabMeantRow):=by
 unfold Func.isWrapper;first|(rw[if_pos (by decide +kernel)];kernel_rfl)|(rw[if_neg (by decide +kernel)];exact⟨rfl,rfl⟩)
theorem stabMeant_cT:OpenClaim.wfByText (OpenSpec.ofChange Rows.stabMeantSpec) Rows.stabMeantRow=true:=qah
theorem stabMeant_cG:false=OpenClaim.goesBy Rows.stabMeantRow cP:=qah
theorem stabMeant_c24:(OpenClaim.lifted Rows.stabMeantRow==Program.liftsFinal cP)=true:=by
 rw[show OpenClaim.lifted Rows.stabMeantRow=OpenClaim.lifted Rows.stabChecksRow from rfl];exact cj24
theorem stabMeant_joined:joinedFacts cP 14 Tryz.f14 Rows.stabMeantSpec Rows.stabMeantRow=true:=by
 unfold joinedFacts
 simp only[Bool.and_eq_true]
 refine⟨⟨⟨⟨⟨⟨⟨⟨⟨⟨⟨⟨⟨⟨⟨⟨⟨⟨⟨⟨⟨⟨⟨⟨⟨⟨⟨⟨⟨⟨⟨stabMeant_c1,cj2⟩,cj3⟩,?_⟩,?_⟩,?_⟩,cj7⟩,?_⟩,cj9⟩,stabMeant_c10⟩,stabMeant_c11⟩,stabMeant_c12⟩,stabMeant_c13⟩,?_⟩,?_⟩,?_⟩,?_⟩,?_⟩,?_⟩,?_⟩,?_⟩,?_⟩,cj20⟩,?_⟩,cj22⟩,cj23⟩,stabMeant_c24⟩,cj25⟩,?_⟩,?_⟩,?_⟩,?_⟩
 all_goals kernel_rfl
theorem stabMeant_holds:Rows.StabMeantSaid :=
 OpenClaim.holds_of_wide 14 Tryz.f14 rfl rfl rfl rfl rfl rfl rfl ⟨rfl,rfl,rfl,rfl,rfl⟩ rfl rfl rfl rfl rfl stabMeant_cN Tryz.func14 stabMeant_joined stabMeant_cI stabMeant_cW
  (fun os started H enc _=>stabMeant_lifted os started H enc)
theorem stabMeant_card:Rows.StabMeantCardSaid :=
 Claim7.holds_tied_plain_at .later [] [.data, .data, .widerDeep] true (true, "8b097af312537285be51cb7f5f4f0726b8661743bb377639627160fb316d0ecd") false
  stabMeant_holds (fun _ h=>by cases h) stabMeant_cT (fun _ h=>by cases h) stabMeant_row_tie rfl ⟨rfl,rfl⟩ cjM rfl
  (fun f fn hf hfn=>by
   obtain rfl:f=14:=Option.some.inj (stabMeant_cN.symm.trans hf) |>.symm
   obtain rfl:fn=Tryz.f14:=(Option.some.inj (Tryz.func14.symm.trans hfn)).symm
   exact⟨cjL,fun j t ht=>by
    rw[Tryz.params14]at ht
    have hm:t∈[102,5]:=by simpa using Array.mem_of_getElem? ht
    have hall:([102,5].all fun u=>!Tryz.prog.wantsStandIn u)=true:=qah
    exact(show Tryz.prog.wantsStandIn t=false by simpa using List.all_eq_true.1 hall t hm)⟩)
  stabMeant_cG
#print axioms stabMeant_card
end Go.Proofs.YtehjjpbpdfnnfaaGreatDoor
