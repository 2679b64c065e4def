import Derived.Test.YtehjjpbpdfnnfaaGreatDoorM12
namespace Go.Proofs.YtehjjpbpdfnnfaaGreatDoor
open Go Go.AL Go.Tz Go.Proofs Go.ChangeShapes Go.WideShapes Go.ChangeAt Go.RowKit Go.Deep
theorem stabAmplitudesD_met (os : Os) (args : Array Value) : laidMetH Tryz.prog Go.Tz.laid3 ((World.doorLaid Tryz.prog 400 os).forCall (fun _ _ => 0) ⟨#[], args, []⟩).memory :=
 laidMetH_of_parts3 (fuel := 8) (laidMet_of_run' 8 (by kernel_rfl) (by kernel_rfl)) (by kernel_rfl) (by kernel_rfl)
set_option maxRecDepth 100000 in
theorem stabAmplitudes_lifted (os : Os) (started : os.Started) (H : Type) (enc : TypeId × Value → H) :
  ReturnsInHanded {} Tryz.checked os 13 .any (fun w args => (Rows.stabAmplitudesSpec.pre enc Tryz.prog Tryz.f13 [] false w args ∧ laidMetH Tryz.prog Go.Tz.laid3 w) ∧ sizedMet enc Tryz.prog Tryz.f13 (OpenSpec.ofChange Rows.stabAmplitudesSpec) false w args)
   (Rows.stabAmplitudesSpec.post enc Tryz.prog Tryz.f13 false true false false) := by
 refine returnsInHanded_of_change_and (C := Tryz.checked) (X := fun w _ => laidMetH Tryz.prog Go.Tz.laid3 w) (fun _ _ _ hh h => h.of_heap hh) own started (by kernel_rfl) Tryz.func13
  (ChangeSpec.witness_shaped (enc := enc) (C := Tryz.checked) (os := os) (X := fun w _ => laidMetH Tryz.prog Go.Tz.laid3 w) false (World.doorLaid Tryz.prog 400 os) #[.slice none 0 0] 8 rfl (World.shaped_of_RefB (by kernel_rfl) (by kernel_rfl)) (by kernel_rfl) (by kernel_rfl) (by kernel_rfl) (stabAmplitudesD_met os _)) ?_
 intro W base args ds gs before hval0 hW _ _ hL _
 have hval : ∀ (j : Nat) t v, Tryz.f13.params[j]? = some t → args[j]? = some v → Value.okWide Tryz.prog W .any base t v := hval0
 have hW' := hW
 obtain ⟨p, q, hA0, hV, rfl, hfz, hnd⟩ := hW
 have hlt0 := hW'.lt
 have hA : DataW.TrodAll enc Tryz.prog W 0 (fun _ => true) true Tryz.f13.params.toList args.toList ds p := hA0
 rw [Tryz.params13] at hA hval
 obtain ⟨v0, d0, rfl, rfl, h0⟩ := trodAll_one hA
 obtain ⟨rfl, rfl⟩ := trodVars_none hV
 have r0 : ∃ ks : List Int, DRel W (fun k => k < W.heap.size) (bytesD ks false) v0 := by
  obtain ⟨fuel, hf⟩ := h0
  obtain ⟨ks, v, e, hd⟩ := zun hf
  obtain ⟨sa, sl, sc, rfl⟩ := okWide_slice Tryz.underlying102 (hval 0 102 v0 rfl rfl)
  have ev : Value.slice sa sl sc = v := (List.cons.inj e).1
  exact ⟨ks, by rw [ev]; exact hd⟩
 obtain ⟨k0, r0⟩ := r0
 have hc := (zo3 k0 false).call
 have hH : HRel GK ⟨fun _ => False, fun _ => none, fun k => k < W.heap.size, W⟩ [] := ⟨fun _ _ h => (by cases h), fun _ _ _ _ _ h => (by cases h), fun _ h => h, globK_of hL⟩
 refine (hc ⟨fun _ => False, fun _ => none, fun k => k < W.heap.size, W⟩ #[v0] hH (fun _ h => h.elim) rfl (fun i v hi => ?_)).mono ?_
 ·match i, hi with
  | 0, hi => cases hi; exact .d _ _ r0
  | i + 1, hi => simp at hi
 ·rintro e W' ⟨x, v, H', nx', C', rfl, rfl, ⟨rfl, rfl, rfl⟩, hx, _, _, hT⟩
  have hbelow : Below W.heap.size W C'.w := ⟨hT.os, hT.tape, hT.output, hT.size, fun k hk => hT.frame k hk (fun _ _ h => by cases h)⟩
  have hd := zbb hx
  cases hd
  have q0 : ∀ x ∈ p, x.block < W.heap.size := fun x hx => hlt0 x (by simp [hx])
  refine ⟨_, rfl, _, _, _, [], p ++ [], [], hW', ?_, ?_, rfl, hbelow.frame _, fun h => by cases h⟩
  ·exact trodAll_mk1 (shut_bool Tryz.underlying4 _)
  ·have b0 := Below.trod laidOut (by kernel_rfl) (of_decide_eq_true (by kernel_rfl)) h0 hbelow q0
   exact ⟨_, _, b0, rfl, rfl⟩
theorem stabAmplitudes_c1 : OpenClaim.wf (OpenSpec.ofChange Rows.stabAmplitudesSpec) Rows.stabAmplitudesRow = true := by kernel_rfl
theorem stabAmplitudes_c10 : (OpenClaim.inPlace Rows.stabAmplitudesRow == Program.inPlace cP 13) = true := by kernel_rfl
theorem stabAmplitudes_c11 : (OpenClaim.unfollowed Rows.stabAmplitudesRow == Program.unfollowed cP 13) = true := by kernel_rfl
theorem stabAmplitudes_c12 : (OpenClaim.recurses Rows.stabAmplitudesRow == Program.recurses cP 13) = true := by kernel_rfl
theorem stabAmplitudes_c13 : (OpenClaim.named Rows.stabAmplitudesRow == Program.varsNamed cP 13) = true := by kernel_rfl
theorem stabAmplitudes_cN : Program.funcNamed cP (OpenClaim.func Rows.stabAmplitudesRow) = some 13 := by kernel_rfl
theorem stabAmplitudes_cI : Func.isInstance cP Tryz.f13 (OpenClaim.origin Rows.stabAmplitudesRow) (OpenClaim.targs Rows.stabAmplitudesRow) := of_decide_eq_true (by kernel_rfl)
theorem stabAmplitudes_cW : Func.isWrapper cP Tryz.f13 (OpenClaim.wrapper Rows.stabAmplitudesRow) (OpenClaim.mainSum Rows.stabAmplitudesRow) := by
 unfold Func.isWrapper; first | (rw [if_pos (by decide +kernel)]; kernel_rfl) | (rw [if_neg (by decide +kernel)]; exact ⟨rfl, rfl⟩)
theorem stabAmplitudes_cT : OpenClaim.wfByText (OpenSpec.ofChange Rows.stabAmplitudesSpec) Rows.stabAmplitudesRow = true := by kernel_rfl
theorem stabAmplitudes_cG : false = OpenClaim.goesBy Rows.stabAmplitudesRow cP := by kernel_rfl
theorem stabAmplitudes_c24 : (OpenClaim.lifted Rows.stabAmplitudesRow == Program.liftsFinal cP) = true := by
 rw [show OpenClaim.lifted Rows.stabAmplitudesRow = OpenClaim.lifted Rows.stabChecksRow from rfl]; exact cj24
theorem stabAmplitudes_joined : joinedFacts cP 13 Tryz.f13 Rows.stabAmplitudesSpec Rows.stabAmplitudesRow = true := by
 unfold joinedFacts
 simp only [Bool.and_eq_true]
 refine ⟨⟨⟨⟨⟨⟨⟨⟨⟨⟨⟨⟨⟨⟨⟨⟨⟨⟨⟨⟨⟨⟨⟨⟨⟨⟨⟨⟨⟨⟨⟨stabAmplitudes_c1, cj2⟩, cj3⟩, ?_⟩, ?_⟩, ?_⟩, cj7⟩, ?_⟩, cj9⟩, stabAmplitudes_c10⟩, stabAmplitudes_c11⟩, stabAmplitudes_c12⟩, stabAmplitudes_c13⟩, ?_⟩, ?_⟩, ?_⟩, ?_⟩, ?_⟩, ?_⟩, ?_⟩, ?_⟩, ?_⟩, cj20⟩, ?_⟩, cj22⟩, cj23⟩, stabAmplitudes_c24⟩, cj25⟩, ?_⟩, ?_⟩, ?_⟩, ?_⟩
 all_goals kernel_rfl
theorem stabAmplitudes_holds : Rows.StabAmplitudesSaid :=
 OpenClaim.holds_of_wide 13 Tryz.f13 rfl rfl rfl rfl rfl rfl rfl ⟨rfl, rfl, rfl, rfl, rfl⟩ rfl rfl rfl rfl rfl stabAmplitudes_cN Tryz.func13 stabAmplitudes_joined stabAmplitudes_cI stabAmplitudes_cW
  (fun os started H enc _ => stabAmplitudes_lifted os started H enc)
theorem stabAmplitudes_card : Rows.StabAmplitudesCardSaid :=
 Claim7.holds_tied_plain_at .later [] [.data, .data, .widerDeep] true (true, "8b097af312537285be51cb7f5f4f0726b8661743bb377639627160fb316d0ecd") false
  stabAmplitudes_holds (fun _ h => by cases h) stabAmplitudes_cT (fun _ h => by cases h) stabAmplitudes_row_tie rfl ⟨rfl, rfl⟩ cjM rfl
  (fun f fn hf hfn => by
   obtain rfl : f = 13 := Option.some.inj (stabAmplitudes_cN.symm.trans hf) |>.symm
   obtain rfl : fn = Tryz.f13 := (Option.some.inj (Tryz.func13.symm.trans hfn)).symm
   exact ⟨cjL, fun j t ht => by
    rw [Tryz.params13] at ht
    have hm : t ∈ [102] := by simpa using Array.mem_of_getElem? ht
    have hall : ([102].all fun u => !Tryz.prog.wantsStandIn u) = true := by kernel_rfl
    exact (show Tryz.prog.wantsStandIn t = false by simpa using List.all_eq_true.1 hall t hm)⟩)
  stabAmplitudes_cG
#print axioms stabAmplitudes_card
end Go.Proofs.YtehjjpbpdfnnfaaGreatDoor
