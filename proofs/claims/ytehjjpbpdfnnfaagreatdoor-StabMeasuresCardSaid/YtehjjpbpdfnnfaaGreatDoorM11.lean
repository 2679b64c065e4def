import Derived.Test.YtehjjpbpdfnnfaaGreatDoorM10
namespace Go.Proofs.YtehjjpbpdfnnfaaGreatDoor
open Go Go.AL Go.Tz Go.Proofs Go.ChangeShapes Go.WideShapes Go.ChangeAt Go.RowKit Go.Deep
theorem stabMeasuresD_met (os : Os) (args : Array Value) : laidMetH Tryz.prog Go.Tz.laid2 ((World.doorLaid Tryz.prog 400 os).forCall (fun _ _ => 0) ⟨#[], args, []⟩).memory :=
 laidMetH_of_parts3 (fuel := 8) (laidMet_of_run' 8 (by kernel_rfl) (by kernel_rfl)) (by kernel_rfl) (by kernel_rfl)
set_option maxRecDepth 100000 in
theorem stabMeasures_lifted (os : Os) (started : os.Started) (H : Type) (enc : TypeId × Value → H) :
  ReturnsInHanded {} Tryz.checked os 6 .any (fun w args => (Rows.stabMeasuresSpec.pre enc Tryz.prog Tryz.f6 [] false w args ∧ laidMetH Tryz.prog Go.Tz.laid2 w) ∧ sizedMet enc Tryz.prog Tryz.f6 (OpenSpec.ofChange Rows.stabMeasuresSpec) false w args)
   (Rows.stabMeasuresSpec.post enc Tryz.prog Tryz.f6 false true false false) := by
 refine returnsInHanded_of_change_and (C := Tryz.checked) (X := fun w _ => laidMetH Tryz.prog Go.Tz.laid2 w) (fun _ _ _ hh h => h.of_heap hh) own started (by kernel_rfl) Tryz.func6
  (ChangeSpec.witness_shaped (enc := enc) (C := Tryz.checked) (os := os) (X := fun w _ => laidMetH Tryz.prog Go.Tz.laid2 w) false (World.doorLaid Tryz.prog 400 os) #[.agg #[.int .i64 0, .slice none 0 0], .int .i64 0, .int .i64 0, .agg #[.int .i64 0, .int .i64 0, .slice none 0 0], .slice none 0 0] 8 rfl (World.shaped_of_RefB (by kernel_rfl) (by kernel_rfl)) (by kernel_rfl) (by kernel_rfl) (by kernel_rfl) (stabMeasuresD_met os _)) ?_
 intro W base args ds gs before hval0 hW _ _ hL _
 have hval : ∀ (j : Nat) t v, Tryz.f6.params[j]? = some t → args[j]? = some v → Value.okWide Tryz.prog W .any base t v := hval0
 have hW' := hW
 obtain ⟨p, q, hA0, hV, rfl, hfz, hnd⟩ := hW
 have hlt0 := hW'.lt
 have hA : DataW.TrodAll enc Tryz.prog W 0 (fun _ => true) true Tryz.f6.params.toList args.toList ds p := hA0
 rw [Tryz.params6] at hA hval
 obtain ⟨v0, v1, v2, v3, v4, d0, d1, d2, d3, d4, p0, p1, p2, p3, p4, rfl, rfl, rfl, h0, h1, h2, h3, h4⟩ := trodAll_five hA
 obtain ⟨rfl, rfl⟩ := trodVars_none hV
 have a0 : ∃ cs, v0 = .agg cs := by
  have := hval 0 24 v0 rfl rfl
  unfold Value.okWide at this
  rw [Tryz.underlying24] at this
  obtain ⟨cs, e, _⟩ := this
  exact ⟨cs, e⟩
 have a3 : ∃ cs, v3 = .agg cs := by
  have := hval 3 65 v3 rfl rfl
  unfold Value.okWide at this
  rw [Tryz.underlying65] at this
  obtain ⟨cs, e, _⟩ := this
  exact ⟨cs, e⟩
 obtain ⟨w0, l0, r0⟩ := st_open a0 h0
 obtain ⟨n1, rfl, e1, _⟩ := open_int Tryz.underlying3 (hval 1 3 v1 rfl rfl) h1
 have r1 : DRel W (fun k => k < W.heap.size) (iD n1) (.int .i64 n1) := .int _ _
 obtain ⟨n2, rfl, e2, _⟩ := open_int Tryz.underlying3 (hval 2 3 v2 rfl rfl) h2
 have r2 : DRel W (fun k => k < W.heap.size) (iD n2) (.int .i64 n2) := .int _ _
 obtain ⟨w3, b3, l3, r3⟩ := circ_open a3 h3
 have r4 : ∃ ks : List Int, DRel W (fun k => k < W.heap.size) (intsD ks false) v4 := by
  obtain ⟨fuel, hf⟩ := h4
  obtain ⟨ks, v, e, hd⟩ := ints_open hf
  obtain ⟨sa, sl, sc, rfl⟩ := okWide_slice Tryz.underlying42 (hval 4 42 v4 rfl rfl)
  have ev : Value.slice sa sl sc = v := (List.cons.inj e).1
  exact ⟨ks, by rw [ev]; exact hd⟩
 obtain ⟨k4, r4⟩ := r4
 have hc := (measures6 w0 l0 false n1 n2 w3 b3 l3 false k4 false).call
 have hH : HRel GG ⟨fun _ => False, fun _ => none, fun k => k < W.heap.size, W⟩ [] := ⟨fun _ _ h => (by cases h), fun _ _ _ _ _ h => (by cases h), fun _ h => h, glob_of hL⟩
 refine (hc ⟨fun _ => False, fun _ => none, fun k => k < W.heap.size, W⟩ #[v0, .int .i64 n1, .int .i64 n2, v3, v4] hH (fun _ h => h.elim) rfl (fun i v hi => ?_)).mono ?_
 ·match i, hi with
  | 0, hi => cases hi; exact .d _ _ r0
  | 1, hi => cases hi; exact .d _ _ r1
  | 2, hi => cases hi; exact .d _ _ r2
  | 3, hi => cases hi; exact .d _ _ r3
  | 4, hi => cases hi; exact .d _ _ r4
  | i + 5, hi => simp at hi
 ·rintro e W' ⟨x, v, H', nx', C', rfl, rfl, ⟨rfl, rfl, rfl⟩, hx, _, _, hT⟩
  have hbelow : Below W.heap.size W C'.w := ⟨hT.os, hT.tape, hT.output, hT.size, fun k hk => hT.frame k hk (fun _ _ h => by cases h)⟩
  have hd := vrel_d hx
  cases hd
  have q0 : ∀ x ∈ p0, x.block < W.heap.size := fun x hx => hlt0 x (by simp [hx])
  have q1 : ∀ x ∈ p1, x.block < W.heap.size := fun x hx => hlt0 x (by simp [hx])
  have q2 : ∀ x ∈ p2, x.block < W.heap.size := fun x hx => hlt0 x (by simp [hx])
  have q3 : ∀ x ∈ p3, x.block < W.heap.size := fun x hx => hlt0 x (by simp [hx])
  have q4 : ∀ x ∈ p4, x.block < W.heap.size := fun x hx => hlt0 x (by simp [hx])
  refine ⟨_, rfl, _, _, _, [], p0 ++ (p1 ++ (p2 ++ (p3 ++ (p4 ++ [])))), [], hW', ?_, ?_, rfl, hbelow.frame _, fun h => by cases h⟩
  ·exact trodAll_mk1 (shut_bool Tryz.underlying4 _)
  ·have b0 := Below.trod laidOut (by kernel_rfl) (of_decide_eq_true (by kernel_rfl)) h0 hbelow q0
   have b1 := Below.trod laidOut (by kernel_rfl) (of_decide_eq_true (by kernel_rfl)) h1 hbelow q1
   have b2 := Below.trod laidOut (by kernel_rfl) (of_decide_eq_true (by kernel_rfl)) h2 hbelow q2
   have b3 := Below.trod laidOut (by kernel_rfl) (of_decide_eq_true (by kernel_rfl)) h3 hbelow q3
   have b4 := Below.trod laidOut (by kernel_rfl) (of_decide_eq_true (by kernel_rfl)) h4 hbelow q4
   exact ⟨_, _, b0, ⟨_, _, b1, ⟨_, _, b2, ⟨_, _, b3, ⟨_, _, b4, rfl, rfl⟩, rfl⟩, rfl⟩, rfl⟩, rfl⟩
theorem stabMeasures_c1 : OpenClaim.wf (OpenSpec.ofChange Rows.stabMeasuresSpec) Rows.stabMeasuresRow = true := by kernel_rfl
theorem stabMeasures_c10 : (OpenClaim.inPlace Rows.stabMeasuresRow == Program.inPlace cP 6) = true := by kernel_rfl
theorem stabMeasures_c11 : (OpenClaim.unfollowed Rows.stabMeasuresRow == Program.unfollowed cP 6) = true := by kernel_rfl
theorem stabMeasures_c12 : (OpenClaim.recurses Rows.stabMeasuresRow == Program.recurses cP 6) = true := by kernel_rfl
theorem stabMeasures_c13 : (OpenClaim.named Rows.stabMeasuresRow == Program.varsNamed cP 6) = true := by kernel_rfl
theorem stabMeasures_cN : Program.funcNamed cP (OpenClaim.func Rows.stabMeasuresRow) = some 6 := by kernel_rfl
theorem stabMeasures_cI : Func.isInstance cP Tryz.f6 (OpenClaim.origin Rows.stabMeasuresRow) (OpenClaim.targs Rows.stabMeasuresRow) := of_decide_eq_true (by kernel_rfl)
theorem stabMeasures_cW : Func.isWrapper cP Tryz.f6 (OpenClaim.wrapper Rows.stabMeasuresRow) (OpenClaim.mainSum Rows.stabMeasuresRow) := by
 unfold Func.isWrapper; first | (rw [if_pos (by decide +kernel)]; kernel_rfl) | (rw [if_neg (by decide +kernel)]; exact ⟨rfl, rfl⟩)
theorem stabMeasures_cT : OpenClaim.wfByText (OpenSpec.ofChange Rows.stabMeasuresSpec) Rows.stabMeasuresRow = true := by kernel_rfl
theorem stabMeasures_cG : false = OpenClaim.goesBy Rows.stabMeasuresRow cP := by kernel_rfl
theorem stabMeasures_c24 : (OpenClaim.lifted Rows.stabMeasuresRow == Program.liftsFinal cP) = true := by
 rw [show OpenClaim.lifted Rows.stabMeasuresRow = OpenClaim.lifted Rows.stabChecksRow from rfl]; exact cj24
theorem stabMeasures_joined : joinedFacts cP 6 Tryz.f6 Rows.stabMeasuresSpec Rows.stabMeasuresRow = true := by
 unfold joinedFacts
 simp only [Bool.and_eq_true]
 refine ⟨⟨⟨⟨⟨⟨⟨⟨⟨⟨⟨⟨⟨⟨⟨⟨⟨⟨⟨⟨⟨⟨⟨⟨⟨⟨⟨⟨⟨⟨⟨stabMeasures_c1, cj2⟩, cj3⟩, ?_⟩, ?_⟩, ?_⟩, cj7⟩, ?_⟩, cj9⟩, stabMeasures_c10⟩, stabMeasures_c11⟩, stabMeasures_c12⟩, stabMeasures_c13⟩, ?_⟩, ?_⟩, ?_⟩, ?_⟩, ?_⟩, ?_⟩, ?_⟩, ?_⟩, ?_⟩, cj20⟩, ?_⟩, cj22⟩, cj23⟩, stabMeasures_c24⟩, cj25⟩, ?_⟩, ?_⟩, ?_⟩, ?_⟩
 all_goals kernel_rfl
theorem stabMeasures_holds : Rows.StabMeasuresSaid :=
 OpenClaim.holds_of_wide 6 Tryz.f6 rfl rfl rfl rfl rfl rfl rfl ⟨rfl, rfl, rfl, rfl, rfl⟩ rfl rfl rfl rfl rfl stabMeasures_cN Tryz.func6 stabMeasures_joined stabMeasures_cI stabMeasures_cW
  (fun os started H enc _ => stabMeasures_lifted os started H enc)
theorem stabMeasures_card : Rows.StabMeasuresCardSaid :=
 Claim7.holds_tied_plain_at .later [] [.data, .data] true (true, "8b097af312537285be51cb7f5f4f0726b8661743bb377639627160fb316d0ecd") false
  stabMeasures_holds (fun _ h => by cases h) stabMeasures_cT (fun _ h => by cases h) stabMeasures_row_tie rfl ⟨rfl, rfl⟩ cjM rfl
  (fun f fn hf hfn => by
   obtain rfl : f = 6 := Option.some.inj (stabMeasures_cN.symm.trans hf) |>.symm
   obtain rfl : fn = Tryz.f6 := (Option.some.inj (Tryz.func6.symm.trans hfn)).symm
   exact ⟨cjL, fun j t ht => by
    rw [Tryz.params6] at ht
    have hm : t ∈ [24, 3, 3, 65, 42] := by simpa using Array.mem_of_getElem? ht
    have hall : ([24, 3, 3, 65, 42].all fun u => !Tryz.prog.wantsStandIn u) = true := by kernel_rfl
    exact (show Tryz.prog.wantsStandIn t = false by simpa using List.all_eq_true.1 hall t hm)⟩)
  stabMeasures_cG
#print axioms stabMeasures_card
end Go.Proofs.YtehjjpbpdfnnfaaGreatDoor
