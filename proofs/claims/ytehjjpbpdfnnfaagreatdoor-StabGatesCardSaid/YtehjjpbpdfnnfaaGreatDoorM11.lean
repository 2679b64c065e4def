/- The statement StabGatesCardSaid of the given rows holds: the function StabGates returns true for all arguments, leaves memory as it was and ends; no conditions of our own. -/
import Derived.Test.YtehjjpbpdfnnfaaGreatDoorM10
namespace Go.Proofs.YtehjjpbpdfnnfaaGreatDoor
open Go Go.AL Go.Tz Go.Proofs Go.ChangeShapes Go.WideShapes Go.ChangeAt Go.RowKit Go.Deep
theorem stabGatesD_met (os : Os) (args : Array Value) : laidMetH Tryz.prog Go.Tz.laid2 ((World.doorLaid Tryz.prog 400 os).forCall (fun _ _ => 0) ⟨#[], args, []⟩).memory :=
  laidMetH_of_parts3 (fuel := 8) (laidMet_of_run' 8 (by kernel_rfl) (by kernel_rfl)) (by kernel_rfl) (by kernel_rfl)
set_option maxRecDepth 100000 in
theorem stabGates_lifted (os : Os) (started : os.Started) (H : Type) (enc : TypeId × Value → H) :
    ReturnsInHanded {} Tryz.checked os 5 .any (fun w args => (Rows.stabGatesSpec.pre enc Tryz.prog Tryz.f5 [] false w args ∧ laidMetH Tryz.prog Go.Tz.laid2 w) ∧ sizedMet enc Tryz.prog Tryz.f5 (OpenSpec.ofChange Rows.stabGatesSpec) false w args)
      (Rows.stabGatesSpec.post enc Tryz.prog Tryz.f5 false true false false) := by
  refine returnsInHanded_of_change_and (C := Tryz.checked) (X := fun w _ => laidMetH Tryz.prog Go.Tz.laid2 w) (fun _ _ _ hh h => h.of_heap hh) own started (by kernel_rfl) Tryz.func5
    (ChangeSpec.witness_shaped (enc := enc) (C := Tryz.checked) (os := os) (X := fun w _ => laidMetH Tryz.prog Go.Tz.laid2 w) false (World.doorLaid Tryz.prog 400 os) #[.agg #[.int .i64 0, .slice none 0 0], .agg #[.int .i64 0, .int .i64 0, .slice none 0 0], .agg #[.int .i64 0, .slice none 0 0, .int .i64 0, .int .i64 0], .agg #[.int .i64 0, .int .i64 0, .int .i64 0, .int .i64 0]] 8 rfl (World.shaped_of_RefB (by kernel_rfl) (by kernel_rfl)) (by kernel_rfl) (by kernel_rfl) (by kernel_rfl) (stabGatesD_met os _)) ?_
  intro W base args ds gs before hval0 hW _ _ hL _
  have hval : ∀ (j : Nat) t v, Tryz.f5.params[j]? = some t → args[j]? = some v → Value.okWide Tryz.prog W .any base t v := hval0
  have hW' := hW
  obtain ⟨p, q, hA0, hV, rfl, hfz, hnd⟩ := hW
  have hlt0 := hW'.lt
  have hA : DataW.TrodAll enc Tryz.prog W 0 (fun _ => true) true Tryz.f5.params.toList args.toList ds p := hA0
  rw [Tryz.params5] at hA hval
  obtain ⟨v0, v1, v2, v3, d0, d1, d2, d3, p0, p1, p2, p3, rfl, rfl, rfl, h0, h1, h2, h3⟩ := trodAll_four hA
  obtain ⟨rfl, rfl⟩ := trodVars_none hV
  have a0 : ∃ cs, v0 = .agg cs := by
    have := hval 0 24 v0 rfl rfl
    unfold Value.okWide at this
    rw [Tryz.underlying24] at this
    obtain ⟨cs, e, _⟩ := this
    exact ⟨cs, e⟩
  have a1 : ∃ cs, v1 = .agg cs := by
    have := hval 1 65 v1 rfl rfl
    unfold Value.okWide at this
    rw [Tryz.underlying65] at this
    obtain ⟨cs, e, _⟩ := this
    exact ⟨cs, e⟩
  have a2 : ∃ cs, v2 = .agg cs := by
    have := hval 2 67 v2 rfl rfl
    unfold Value.okWide at this
    rw [Tryz.underlying67] at this
    obtain ⟨cs, e, _⟩ := this
    exact ⟨cs, e⟩
  have a3 : ∃ cs, v3 = .agg cs := by
    have := hval 3 69 v3 rfl rfl
    unfold Value.okWide at this
    rw [Tryz.underlying69] at this
    obtain ⟨cs, e, _⟩ := this
    exact ⟨cs, e⟩
  obtain ⟨w0, l0, r0⟩ := st_open a0 h0
  obtain ⟨w1, b1, l1, r1⟩ := circ_open a1 h1
  obtain ⟨g2, r2⟩ := gate_open a2 h2
  obtain ⟨s3, r3⟩ := str_open a3 h3
  have hc := (gates5 w0 l0 false w1 b1 l1 false g2 s3).call
  have hH : HRel GG ⟨fun _ => False, fun _ => none, fun k => k < W.heap.size, W⟩ [] := ⟨fun _ _ h => (by cases h), fun _ _ _ _ _ h => (by cases h), fun _ h => h, glob_of hL⟩
  refine (hc ⟨fun _ => False, fun _ => none, fun k => k < W.heap.size, W⟩ #[v0, v1, v2, v3] hH (fun _ h => h.elim) rfl (fun i v hi => ?_)).mono ?_
  · match i, hi with
    | 0, hi => cases hi; exact .d _ _ r0
    | 1, hi => cases hi; exact .d _ _ r1
    | 2, hi => cases hi; exact .d _ _ r2
    | 3, hi => cases hi; exact .d _ _ r3
    | i + 4, hi => simp at hi
  · rintro e W' ⟨x, v, H', nx', C', rfl, rfl, ⟨rfl, rfl, rfl⟩, hx, _, _, hT⟩
    have hbelow : Below W.heap.size W C'.w := ⟨hT.os, hT.tape, hT.output, hT.size, fun k hk => hT.frame k hk (fun _ _ h => by cases h)⟩
    have hd := vrel_d hx
    cases hd
    have q0 : ∀ x ∈ p0, x.block < W.heap.size := fun x hx => hlt0 x (by simp [hx])
    have q1 : ∀ x ∈ p1, x.block < W.heap.size := fun x hx => hlt0 x (by simp [hx])
    have q2 : ∀ x ∈ p2, x.block < W.heap.size := fun x hx => hlt0 x (by simp [hx])
    have q3 : ∀ x ∈ p3, x.block < W.heap.size := fun x hx => hlt0 x (by simp [hx])
    refine ⟨_, rfl, _, _, _, [], p0 ++ (p1 ++ (p2 ++ (p3 ++ []))), [], hW', ?_, ?_, rfl, hbelow.frame _, fun h => by cases h⟩
    · exact trodAll_mk1 (shut_bool Tryz.underlying4 _)
    · have b0 := Below.trod laidOut (by kernel_rfl) (of_decide_eq_true (by kernel_rfl)) h0 hbelow q0
      have b1 := Below.trod laidOut (by kernel_rfl) (of_decide_eq_true (by kernel_rfl)) h1 hbelow q1
      have b2 := Below.trod laidOut (by kernel_rfl) (of_decide_eq_true (by kernel_rfl)) h2 hbelow q2
      have b3 := Below.trod laidOut (by kernel_rfl) (of_decide_eq_true (by kernel_rfl)) h3 hbelow q3
      exact ⟨_, _, b0, ⟨_, _, b1, ⟨_, _, b2, ⟨_, _, b3, rfl, rfl⟩, rfl⟩, rfl⟩, rfl⟩
theorem stabGates_c1 : OpenClaim.wf (OpenSpec.ofChange Rows.stabGatesSpec) Rows.stabGatesRow = true := by kernel_rfl
theorem stabGates_c10 : (OpenClaim.inPlace Rows.stabGatesRow == Program.inPlace cP 5) = true := by kernel_rfl
theorem stabGates_c11 : (OpenClaim.unfollowed Rows.stabGatesRow == Program.unfollowed cP 5) = true := by kernel_rfl
theorem stabGates_c12 : (OpenClaim.recurses Rows.stabGatesRow == Program.recurses cP 5) = true := by kernel_rfl
theorem stabGates_c13 : (OpenClaim.named Rows.stabGatesRow == Program.varsNamed cP 5) = true := by kernel_rfl
theorem stabGates_cN : Program.funcNamed cP (OpenClaim.func Rows.stabGatesRow) = some 5 := by kernel_rfl
theorem stabGates_cI : Func.isInstance cP Tryz.f5 (OpenClaim.origin Rows.stabGatesRow) (OpenClaim.targs Rows.stabGatesRow) := of_decide_eq_true (by kernel_rfl)
theorem stabGates_cW : Func.isWrapper cP Tryz.f5 (OpenClaim.wrapper Rows.stabGatesRow) (OpenClaim.mainSum Rows.stabGatesRow) := by
  unfold Func.isWrapper; first | (rw [if_pos (by decide +kernel)]; kernel_rfl) | (rw [if_neg (by decide +kernel)]; exact ⟨rfl, rfl⟩)
theorem stabGates_cT : OpenClaim.wfByText (OpenSpec.ofChange Rows.stabGatesSpec) Rows.stabGatesRow = true := by kernel_rfl
theorem stabGates_cG : false = OpenClaim.goesBy Rows.stabGatesRow cP := by kernel_rfl
theorem stabGates_c24 : (OpenClaim.lifted Rows.stabGatesRow == Program.liftsFinal cP) = true := by
  rw [show OpenClaim.lifted Rows.stabGatesRow = OpenClaim.lifted Rows.stabChecksRow from rfl]; exact cj24
theorem stabGates_joined : joinedFacts cP 5 Tryz.f5 Rows.stabGatesSpec Rows.stabGatesRow = true := by
  unfold joinedFacts
  simp only [Bool.and_eq_true]
  refine ⟨⟨⟨⟨⟨⟨⟨⟨⟨⟨⟨⟨⟨⟨⟨⟨⟨⟨⟨⟨⟨⟨⟨⟨⟨⟨⟨⟨⟨⟨⟨stabGates_c1, cj2⟩, cj3⟩, ?_⟩, ?_⟩, ?_⟩, cj7⟩, ?_⟩, cj9⟩, stabGates_c10⟩, stabGates_c11⟩, stabGates_c12⟩, stabGates_c13⟩, ?_⟩, ?_⟩, ?_⟩, ?_⟩, ?_⟩, ?_⟩, ?_⟩, ?_⟩, ?_⟩, cj20⟩, ?_⟩, cj22⟩, cj23⟩, stabGates_c24⟩, cj25⟩, ?_⟩, ?_⟩, ?_⟩, ?_⟩
  all_goals kernel_rfl
theorem stabGates_holds : Rows.StabGatesSaid :=
  OpenClaim.holds_of_wide 5 Tryz.f5 rfl rfl rfl rfl rfl rfl rfl ⟨rfl, rfl, rfl, rfl, rfl⟩ rfl rfl rfl rfl rfl stabGates_cN Tryz.func5 stabGates_joined stabGates_cI stabGates_cW
    (fun os started H enc _ => stabGates_lifted os started H enc)
theorem stabGates_card : Rows.StabGatesCardSaid :=
  Claim7.holds_tied_plain_at .later [] [.data, .data] true (true, "8b097af312537285be51cb7f5f4f0726b8661743bb377639627160fb316d0ecd") false
    stabGates_holds (fun _ h => by cases h) stabGates_cT (fun _ h => by cases h) stabGates_row_tie rfl ⟨rfl, rfl⟩ cjM rfl
    (fun f fn hf hfn => by
      obtain rfl : f = 5 := Option.some.inj (stabGates_cN.symm.trans hf) |>.symm
      obtain rfl : fn = Tryz.f5 := (Option.some.inj (Tryz.func5.symm.trans hfn)).symm
      exact ⟨cjL, fun j t ht => by
        rw [Tryz.params5] at ht
        have hm : t ∈ [24, 65, 67, 69] := by simpa using Array.mem_of_getElem? ht
        have hall : ([24, 65, 67, 69].all fun u => !Tryz.prog.wantsStandIn u) = true := by kernel_rfl
        exact (show Tryz.prog.wantsStandIn t = false by simpa using List.all_eq_true.1 hall t hm)⟩)
    stabGates_cG
#print axioms stabGates_card
end Go.Proofs.YtehjjpbpdfnnfaaGreatDoor


