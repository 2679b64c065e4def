import Derived.Test.YtehjjpbpdfnnfaaGreatDoorM10
namespace Go.Proofs.YtehjjpbpdfnnfaaGreatDoor
open Go Go.AL Go.Tz Go.Proofs Go.ChangeShapes Go.WideShapes Go.ChangeAt Go.RowKit Go.Deep
theorem stabVectorsD_met (os : Os) (args : Array Value) : laidMetH Tryz.prog Go.Tz.laid2 ((World.doorLaid Tryz.prog 400 os).forCall (fun _ _ => 0) ⟨#[], args, []⟩).memory :=
 laidMetH_of_parts3 (fuel := 8) (laidMet_of_run' 8 (by kernel_rfl) (by kernel_rfl)) (by kernel_rfl) (by kernel_rfl)
set_option maxRecDepth 100000 in
theorem stabVectors_lifted (os : Os) (started : os.Started) (H : Type) (enc : TypeId × Value → H) :
  ReturnsInHanded {} Tryz.checked os 3 .any (fun w args => (Rows.stabVectorsSpec.pre enc Tryz.prog Tryz.f3 [] false w args ∧ laidMetH Tryz.prog Go.Tz.laid2 w) ∧ sizedMet enc Tryz.prog Tryz.f3 (OpenSpec.ofChange Rows.stabVectorsSpec) false w args)
   (Rows.stabVectorsSpec.post enc Tryz.prog Tryz.f3 false true false false) := by
 refine returnsInHanded_of_change_and (C := Tryz.checked) (X := fun w _ => laidMetH Tryz.prog Go.Tz.laid2 w) (fun _ _ _ hh h => h.of_heap hh) own started (by kernel_rfl) Tryz.func3
  (ChangeSpec.witness_shaped (enc := enc) (C := Tryz.checked) (os := os) (X := fun w _ => laidMetH Tryz.prog Go.Tz.laid2 w) false (World.doorLaid Tryz.prog 400 os) #[.agg #[.int .i64 0, .slice none 0 0], .int .i64 0] 8 rfl (World.shaped_of_RefB (by kernel_rfl) (by kernel_rfl)) (by kernel_rfl) (by kernel_rfl) (by kernel_rfl) (stabVectorsD_met os _)) ?_
 intro W base args ds gs before hval0 hW _ _ hL _
 have hval : ∀ (j : Nat) t v, Tryz.f3.params[j]? = some t → args[j]? = some v → Value.okWide Tryz.prog W .any base t v := hval0
 have hW' := hW
 obtain ⟨p, q, hA0, hV, rfl, hfz, hnd⟩ := hW
 have hlt0 := hW'.lt
 have hA : DataW.TrodAll enc Tryz.prog W 0 (fun _ => true) true Tryz.f3.params.toList args.toList ds p := hA0
 rw [Tryz.params3] at hA hval
 obtain ⟨v0, v1, d0, d1, p0, p1, rfl, rfl, rfl, h0, h1⟩ := trodAll_two hA
 obtain ⟨rfl, rfl⟩ := trodVars_none hV
 have a0 : ∃ cs, v0 = .agg cs := by
  have := hval 0 24 v0 rfl rfl
  unfold Value.okWide at this
  rw [Tryz.underlying24] at this
  obtain ⟨cs, e, _⟩ := this
  exact ⟨cs, e⟩
 obtain ⟨w0, l0, r0⟩ := st_open a0 h0
 obtain ⟨n1, rfl, e1, _⟩ := open_int Tryz.underlying3 (hval 1 3 v1 rfl rfl) h1
 have r1 : DRel W (fun k => k < W.heap.size) (iD n1) (.int .i64 n1) := .int _ _
 have hc := (vectors3 w0 l0 false n1).call
 have hH : HRel GG ⟨fun _ => False, fun _ => none, fun k => k < W.heap.size, W⟩ [] := ⟨fun _ _ h => (by cases h), fun _ _ _ _ _ h => (by cases h), fun _ h => h, glob_of hL⟩
 refine (hc ⟨fun _ => False, fun _ => none, fun k => k < W.heap.size, W⟩ #[v0, .int .i64 n1] hH (fun _ h => h.elim) rfl (fun i v hi => ?_)).mono ?_
 ·match i, hi with
  | 0, hi => cases hi; exact .d _ _ r0
  | 1, hi => cases hi; exact .d _ _ r1
  | i + 2, hi => simp at hi
 ·rintro e W' ⟨x, v, H', nx', C', rfl, rfl, ⟨rfl, rfl, rfl⟩, hx, _, _, hT⟩
  have hbelow : Below W.heap.size W C'.w := ⟨hT.os, hT.tape, hT.output, hT.size, fun k hk => hT.frame k hk (fun _ _ h => by cases h)⟩
  have hd := vrel_d hx
  cases hd
  have q0 : ∀ x ∈ p0, x.block < W.heap.size := fun x hx => hlt0 x (by simp [hx])
  have q1 : ∀ x ∈ p1, x.block < W.heap.size := fun x hx => hlt0 x (by simp [hx])
  refine ⟨_, rfl, _, _, _, [], p0 ++ (p1 ++ []), [], hW', ?_, ?_, rfl, hbelow.frame _, fun h => by cases h⟩
  ·exact trodAll_mk1 (shut_bool Tryz.underlying4 _)
  ·have b0 := Below.trod laidOut (by kernel_rfl) (of_decide_eq_true (by kernel_rfl)) h0 hbelow q0
   have b1 := Below.trod laidOut (by kernel_rfl) (of_decide_eq_true (by kernel_rfl)) h1 hbelow q1
   exact ⟨_, _, b0, ⟨_, _, b1, rfl, rfl⟩, rfl⟩
theorem stabVectors_c1 : OpenClaim.wf (OpenSpec.ofChange Rows.stabVectorsSpec) Rows.stabVectorsRow = true := by kernel_rfl
theorem stabVectors_c10 : (OpenClaim.inPlace Rows.stabVectorsRow == Program.inPlace cP 3) = true := by kernel_rfl
theorem stabVectors_c11 : (OpenClaim.unfollowed Rows.stabVectorsRow == Program.unfollowed cP 3) = true := by kernel_rfl
theorem stabVectors_c12 : (OpenClaim.recurses Rows.stabVectorsRow == Program.recurses cP 3) = true := by kernel_rfl
theorem stabVectors_c13 : (OpenClaim.named Rows.stabVectorsRow == Program.varsNamed cP 3) = true := by kernel_rfl
theorem stabVectors_cN : Program.funcNamed cP (OpenClaim.func Rows.stabVectorsRow) = some 3 := by kernel_rfl
theorem stabVectors_cI : Func.isInstance cP Tryz.f3 (OpenClaim.origin Rows.stabVectorsRow) (OpenClaim.targs Rows.stabVectorsRow) := of_decide_eq_true (by kernel_rfl)
theorem stabVectors_cW : Func.isWrapper cP Tryz.f3 (OpenClaim.wrapper Rows.stabVectorsRow) (OpenClaim.mainSum Rows.stabVectorsRow) := by
 unfold Func.isWrapper; first | (rw [if_pos (by decide +kernel)]; kernel_rfl) | (rw [if_neg (by decide +kernel)]; exact ⟨rfl, rfl⟩)
theorem stabVectors_cT : OpenClaim.wfByText (OpenSpec.ofChange Rows.stabVectorsSpec) Rows.stabVectorsRow = true := by kernel_rfl
theorem stabVectors_cG : false = OpenClaim.goesBy Rows.stabVectorsRow cP := by kernel_rfl
theorem stabVectors_c24 : (OpenClaim.lifted Rows.stabVectorsRow == Program.liftsFinal cP) = true := by
 rw [show OpenClaim.lifted Rows.stabVectorsRow = OpenClaim.lifted Rows.stabChecksRow from rfl]; exact cj24
theorem stabVectors_joined : joinedFacts cP 3 Tryz.f3 Rows.stabVectorsSpec Rows.stabVectorsRow = true := by
 unfold joinedFacts
 simp only [Bool.and_eq_true]
 refine ⟨⟨⟨⟨⟨⟨⟨⟨⟨⟨⟨⟨⟨⟨⟨⟨⟨⟨⟨⟨⟨⟨⟨⟨⟨⟨⟨⟨⟨⟨⟨stabVectors_c1, cj2⟩, cj3⟩, ?_⟩, ?_⟩, ?_⟩, cj7⟩, ?_⟩, cj9⟩, stabVectors_c10⟩, stabVectors_c11⟩, stabVectors_c12⟩, stabVectors_c13⟩, ?_⟩, ?_⟩, ?_⟩, ?_⟩, ?_⟩, ?_⟩, ?_⟩, ?_⟩, ?_⟩, cj20⟩, ?_⟩, cj22⟩, cj23⟩, stabVectors_c24⟩, cj25⟩, ?_⟩, ?_⟩, ?_⟩, ?_⟩
 all_goals kernel_rfl
theorem stabVectors_holds : Rows.StabVectorsSaid :=
 OpenClaim.holds_of_wide 3 Tryz.f3 rfl rfl rfl rfl rfl rfl rfl ⟨rfl, rfl, rfl, rfl, rfl⟩ rfl rfl rfl rfl rfl stabVectors_cN Tryz.func3 stabVectors_joined stabVectors_cI stabVectors_cW
  (fun os started H enc _ => stabVectors_lifted os started H enc)
theorem stabVectors_card : Rows.StabVectorsCardSaid :=
 Claim7.holds_tied_plain_at .later [] [.data, .data] true (true, "8b097af312537285be51cb7f5f4f0726b8661743bb377639627160fb316d0ecd") false
  stabVectors_holds (fun _ h => by cases h) stabVectors_cT (fun _ h => by cases h) stabVectors_row_tie rfl ⟨rfl, rfl⟩ cjM rfl
  (fun f fn hf hfn => by
   obtain rfl : f = 3 := Option.some.inj (stabVectors_cN.symm.trans hf) |>.symm
   obtain rfl : fn = Tryz.f3 := (Option.some.inj (Tryz.func3.symm.trans hfn)).symm
   exact ⟨cjL, fun j t ht => by
    rw [Tryz.params3] at ht
    have hm : t ∈ [24, 3] := by simpa using Array.mem_of_getElem? ht
    have hall : ([24, 3].all fun u => !Tryz.prog.wantsStandIn u) = true := by kernel_rfl
    exact (show Tryz.prog.wantsStandIn t = false by simpa using List.all_eq_true.1 hall t hm)⟩)
  stabVectors_cG
#print axioms stabVectors_card
end Go.Proofs.YtehjjpbpdfnnfaaGreatDoor
