import Derived.Test.YtehjjpbpdfnnfaaGreatDoorM10
namespace Go.Proofs.YtehjjpbpdfnnfaaGreatDoor
open Go Go.AL Go.Tz Go.Proofs Go.ChangeShapes Go.WideShapes Go.ChangeAt Go.RowKit Go.Deep
theorem stabEntropyD_met (os : Os) (args : Array Value) : laidMetH Tryz.prog Go.Tz.laid3 ((World.doorLaid Tryz.prog 400 os).forCall (fun _ _ => 0) ⟨#[], args, []⟩).memory :=
 laidMetH_of_parts3 (fuel := 8) (laidMet_of_run' 8 (by kernel_rfl) (by kernel_rfl)) (by kernel_rfl) (by kernel_rfl)
set_option maxRecDepth 100000 in
theorem stabEntropy_lifted (os : Os) (started : os.Started) (H : Type) (enc : TypeId × Value → H) :
  ReturnsInHanded {} Tryz.checked os 9 .any (fun w args => (Rows.stabEntropySpec.pre enc Tryz.prog Tryz.f9 [] false w args ∧ laidMetH Tryz.prog Go.Tz.laid3 w) ∧ sizedMet enc Tryz.prog Tryz.f9 (OpenSpec.ofChange Rows.stabEntropySpec) false w args)
   (Rows.stabEntropySpec.post enc Tryz.prog Tryz.f9 false true false false) := by
 refine returnsInHanded_of_change_and (C := Tryz.checked) (X := fun w _ => laidMetH Tryz.prog Go.Tz.laid3 w) (fun _ _ _ hh h => h.of_heap hh) own started (by kernel_rfl) Tryz.func9
  (ChangeSpec.witness_shaped (enc := enc) (C := Tryz.checked) (os := os) (X := fun w _ => laidMetH Tryz.prog Go.Tz.laid3 w) false (World.doorLaid Tryz.prog 400 os) #[.slice none 0 0, .int .u8 0] 8 rfl (World.shaped_of_RefB (by kernel_rfl) (by kernel_rfl)) (by kernel_rfl) (by kernel_rfl) (by kernel_rfl) (stabEntropyD_met os _)) ?_
 intro W base args ds gs before hval0 hW _ _ hL _
 have hval : ∀ (j : Nat) t v, Tryz.f9.params[j]? = some t → args[j]? = some v → Value.okWide Tryz.prog W .any base t v := hval0
 have hW' := hW
 obtain ⟨p, q, hA0, hV, rfl, hfz, hnd⟩ := hW
 have hlt0 := hW'.lt
 have hA : DataW.TrodAll enc Tryz.prog W 0 (fun _ => true) true Tryz.f9.params.toList args.toList ds p := hA0
 rw [Tryz.params9] at hA hval
 obtain ⟨v0, v1, d0, d1, p0, p1, rfl, rfl, rfl, h0, h1⟩ := trodAll_two hA
 obtain ⟨rfl, rfl⟩ := trodVars_none hV
 have r0 : ∃ ks : List Int, DRel W (fun k => k < W.heap.size) (bytesD ks false) v0 := by
  obtain ⟨fuel, hf⟩ := h0
  obtain ⟨ks, v, e, hd⟩ := bytes_open hf
  obtain ⟨sa, sl, sc, rfl⟩ := okWide_slice Tryz.underlying102 (hval 0 102 v0 rfl rfl)
  have ev : Value.slice sa sl sc = v := (List.cons.inj e).1
  exact ⟨ks, by rw [ev]; exact hd⟩
 obtain ⟨k0, r0⟩ := r0
 obtain ⟨n1, rfl, e1, _, wf1⟩ := open_int Tryz.underlying5 (hval 1 5 v1 rfl rfl) h1
 have r1 : DRel W (fun k => k < W.heap.size) (.int .u8 n1) (.int .u8 n1) := .int _ _
 have hc := (entropy9 k0 false n1 (byte_wf wf1).1 (byte_wf wf1).2).call
 have hH : HRel GK ⟨fun _ => False, fun _ => none, fun k => k < W.heap.size, W⟩ [] := ⟨fun _ _ h => (by cases h), fun _ _ _ _ _ h => (by cases h), fun _ h => h, globK_of hL⟩
 refine (hc ⟨fun _ => False, fun _ => none, fun k => k < W.heap.size, W⟩ #[v0, .int .u8 n1] hH (fun _ h => h.elim) rfl (fun i v hi => ?_)).mono ?_
 ·match i, hi with
  | 0, hi => cases hi; exact .d _ _ r0
  | 1, hi => cases hi; exact .d _ _ r1
  | i + 2, hi => simp at hi
 ·rintro e W' ⟨x, v, H', nx', C', rfl, rfl, ⟨rfl, rfl, rfl⟩, hx, _, _, hT⟩
  have hbelow : Below W.heap.size W C'.w := ⟨hT.os, hT.tape, hT.output, hT.size, fun k hk => hT.frame k hk (fun _ _ h => by cases h)⟩
  have hd := vrel_d hx
  cases hd
  have q0 : ∀ x ∈ p0, x.block < W.heap.size := fun x hx => hlt0 x (by simp [hx])
  have q1 : ∀ x ∈ p1, x.block < W.heap.size := fun x hx => hlt0 x (by simp [hx])
  refine ⟨_, rfl, _, _, _, [], p0 ++ (p1 ++ []), [], hW', ?_, ?_, rfl, hbelow.frame _, fun h => by cases h⟩
  ·exact trodAll_mk1 (shut_bool Tryz.underlying4 _)
  ·have b0 := Below.trod laidOut (by kernel_rfl) (of_decide_eq_true (by kernel_rfl)) h0 hbelow q0
   have b1 := Below.trod laidOut (by kernel_rfl) (of_decide_eq_true (by kernel_rfl)) h1 hbelow q1
   exact ⟨_, _, b0, ⟨_, _, b1, rfl, rfl⟩, rfl⟩
theorem stabEntropy_c1 : OpenClaim.wf (OpenSpec.ofChange Rows.stabEntropySpec) Rows.stabEntropyRow = true := by kernel_rfl
theorem stabEntropy_c10 : (OpenClaim.inPlace Rows.stabEntropyRow == Program.inPlace cP 9) = true := by kernel_rfl
theorem stabEntropy_c11 : (OpenClaim.unfollowed Rows.stabEntropyRow == Program.unfollowed cP 9) = true := by kernel_rfl
theorem stabEntropy_c12 : (OpenClaim.recurses Rows.stabEntropyRow == Program.recurses cP 9) = true := by kernel_rfl
theorem stabEntropy_c13 : (OpenClaim.named Rows.stabEntropyRow == Program.varsNamed cP 9) = true := by kernel_rfl
theorem stabEntropy_cN : Program.funcNamed cP (OpenClaim.func Rows.stabEntropyRow) = some 9 := by kernel_rfl
theorem stabEntropy_cI : Func.isInstance cP Tryz.f9 (OpenClaim.origin Rows.stabEntropyRow) (OpenClaim.targs Rows.stabEntropyRow) := of_decide_eq_true (by kernel_rfl)
theorem stabEntropy_cW : Func.isWrapper cP Tryz.f9 (OpenClaim.wrapper Rows.stabEntropyRow) (OpenClaim.mainSum Rows.stabEntropyRow) := by
 unfold Func.isWrapper; first | (rw [if_pos (by decide +kernel)]; kernel_rfl) | (rw [if_neg (by decide +kernel)]; exact ⟨rfl, rfl⟩)
theorem stabEntropy_cT : OpenClaim.wfByText (OpenSpec.ofChange Rows.stabEntropySpec) Rows.stabEntropyRow = true := by kernel_rfl
theorem stabEntropy_cG : false = OpenClaim.goesBy Rows.stabEntropyRow cP := by kernel_rfl
theorem stabEntropy_c24 : (OpenClaim.lifted Rows.stabEntropyRow == Program.liftsFinal cP) = true := by
 rw [show OpenClaim.lifted Rows.stabEntropyRow = OpenClaim.lifted Rows.stabChecksRow from rfl]; exact cj24
theorem stabEntropy_joined : joinedFacts cP 9 Tryz.f9 Rows.stabEntropySpec Rows.stabEntropyRow = true := by
 unfold joinedFacts
 simp only [Bool.and_eq_true]
 refine ⟨⟨⟨⟨⟨⟨⟨⟨⟨⟨⟨⟨⟨⟨⟨⟨⟨⟨⟨⟨⟨⟨⟨⟨⟨⟨⟨⟨⟨⟨⟨stabEntropy_c1, cj2⟩, cj3⟩, ?_⟩, ?_⟩, ?_⟩, cj7⟩, ?_⟩, cj9⟩, stabEntropy_c10⟩, stabEntropy_c11⟩, stabEntropy_c12⟩, stabEntropy_c13⟩, ?_⟩, ?_⟩, ?_⟩, ?_⟩, ?_⟩, ?_⟩, ?_⟩, ?_⟩, ?_⟩, cj20⟩, ?_⟩, cj22⟩, cj23⟩, stabEntropy_c24⟩, cj25⟩, ?_⟩, ?_⟩, ?_⟩, ?_⟩
 all_goals kernel_rfl
theorem stabEntropy_holds : Rows.StabEntropySaid :=
 OpenClaim.holds_of_wide 9 Tryz.f9 rfl rfl rfl rfl rfl rfl rfl ⟨rfl, rfl, rfl, rfl, rfl⟩ rfl rfl rfl rfl rfl stabEntropy_cN Tryz.func9 stabEntropy_joined stabEntropy_cI stabEntropy_cW
  (fun os started H enc _ => stabEntropy_lifted os started H enc)
theorem stabEntropy_card : Rows.StabEntropyCardSaid :=
 Claim7.holds_tied_plain_at .later [] [.data, .data, .widerDeep] true (true, "8b097af312537285be51cb7f5f4f0726b8661743bb377639627160fb316d0ecd") false
  stabEntropy_holds (fun _ h => by cases h) stabEntropy_cT (fun _ h => by cases h) stabEntropy_row_tie rfl ⟨rfl, rfl⟩ cjM rfl
  (fun f fn hf hfn => by
   obtain rfl : f = 9 := Option.some.inj (stabEntropy_cN.symm.trans hf) |>.symm
   obtain rfl : fn = Tryz.f9 := (Option.some.inj (Tryz.func9.symm.trans hfn)).symm
   exact ⟨cjL, fun j t ht => by
    rw [Tryz.params9] at ht
    have hm : t ∈ [102, 5] := by simpa using Array.mem_of_getElem? ht
    have hall : ([102, 5].all fun u => !Tryz.prog.wantsStandIn u) = true := by kernel_rfl
    exact (show Tryz.prog.wantsStandIn t = false by simpa using List.all_eq_true.1 hall t hm)⟩)
  stabEntropy_cG
#print axioms stabEntropy_card
end Go.Proofs.YtehjjpbpdfnnfaaGreatDoor
