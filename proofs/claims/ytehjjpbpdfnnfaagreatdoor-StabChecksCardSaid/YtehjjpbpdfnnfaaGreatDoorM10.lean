/- The statement StabChecksCardSaid of the given rows holds: the function StabChecks returns true for all arguments, leaves memory as it was and ends; no conditions of our own. -/
import Derived.Test.YtehjjpbpdfnnfaaGreatDoorM09
/-! The card of StabChecks. -/
namespace Go.Proofs.YtehjjpbpdfnnfaaGreatDoor
open Go Go.AL Go.Tz Go.Proofs Go.ChangeShapes Go.WideShapes Go.ChangeAt Go.RowKit Go.Deep
theorem door_met (os : Os) (args : Array Value) : laidMetH Tryz.prog Go.Tz.laid2 ((World.doorLaid Tryz.prog 400 os).forCall (fun _ _ => 0) ⟨#[], args, []⟩).memory :=
  laidMetH_of_parts3 (fuel := 8) (laidMet_of_run' 8 (by kernel_rfl) (by kernel_rfl)) (by kernel_rfl) (by kernel_rfl)
set_option maxRecDepth 100000 in
theorem stabChecks_lifted (os : Os) (started : os.Started) (H : Type) (enc : TypeId × Value → H) :
    ReturnsInHanded {} Tryz.checked os 4 .any (fun w args => (Rows.stabChecksSpec.pre enc Tryz.prog Tryz.f4 [] false w args ∧ laidMetH Tryz.prog Go.Tz.laid2 w) ∧ sizedMet enc Tryz.prog Tryz.f4 (OpenSpec.ofChange Rows.stabChecksSpec) false w args)
      (Rows.stabChecksSpec.post enc Tryz.prog Tryz.f4 false true false false) := by
  refine returnsInHanded_of_change_and (C := Tryz.checked) (X := fun w _ => laidMetH Tryz.prog Go.Tz.laid2 w) (fun _ _ _ hh h => h.of_heap hh) own started (by kernel_rfl) Tryz.func4
    (ChangeSpec.witness_shaped (enc := enc) (C := Tryz.checked) (os := os) (X := fun w _ => laidMetH Tryz.prog Go.Tz.laid2 w) false (World.doorLaid Tryz.prog 400 os) #[.agg #[.int .i64 0, .slice none 0 0], .agg #[.int .i64 0, .slice none 0 0], .slice none 0 0, .int .i64 0] 8 rfl (World.shaped_of_RefB (by kernel_rfl) (by kernel_rfl)) (by kernel_rfl) (by kernel_rfl) (by kernel_rfl) (door_met os _)) ?_
  intro W base args ds gs before hval0 hW _ _ hL _
  have hval : ∀ (j : Nat) t v, Tryz.f4.params[j]? = some t → args[j]? = some v → Value.okWide Tryz.prog W .any base t v := hval0
  have hW' := hW
  obtain ⟨p, q, hA0, hV, rfl, hfz, hnd⟩ := hW
  have hlt0 := hW'.lt
  have hA : DataW.TrodAll enc Tryz.prog W 0 (fun _ => true) true Tryz.f4.params.toList args.toList ds p := hA0
  rw [Tryz.params4] at hA hval
  obtain ⟨v0, v1, v2, v3, d0, d1, d2, d3, p0, p1, p2, p3, rfl, rfl, rfl, h0, h1, h2, h3⟩ := trodAll_four hA
  obtain ⟨rfl, rfl⟩ := trodVars_none hV
  have a0 : ∃ cs, v0 = .agg cs := by
    have := hval 0 24 v0 rfl rfl
    unfold Value.okWide at this
    rw [Tryz.underlying24] at this
    obtain ⟨cs, e, _⟩ := this
    exact ⟨cs, e⟩
  have a1 : ∃ cs, v1 = .agg cs := by
    have := hval 1 24 v1 rfl rfl
    unfold Value.okWide at this
    rw [Tryz.underlying24] at this
    obtain ⟨cs, e, _⟩ := this
    exact ⟨cs, e⟩
  obtain ⟨w, l, r0⟩ := st_open a0 h0
  obtain ⟨w', l', r1⟩ := st_open a1 h1
  obtain ⟨n, rfl, e3, _⟩ := open_int Tryz.underlying3 (hval 3 3 v3 rfl rfl) h3
  have r2 : ∃ ks : List Int, DRel W (fun k => k < W.heap.size) (intsD ks false) v2 := by
    obtain ⟨fuel, hf⟩ := h2
    obtain ⟨ks, v, e, hd⟩ := ints_open hf
    obtain ⟨sa, sl, sc, rfl⟩ := okWide_slice Tryz.underlying42 (hval 2 42 v2 rfl rfl)
    have ev : Value.slice sa sl sc = v := (List.cons.inj e).1
    exact ⟨ks, by rw [ev]; exact hd⟩
  obtain ⟨ks, r2⟩ := r2
  have hc := (checks4 w l false w' l' false ks false n).call
  have hH : HRel GG ⟨fun _ => False, fun _ => none, fun k => k < W.heap.size, W⟩ [] := ⟨fun _ _ h => (by cases h), fun _ _ _ _ _ h => (by cases h), fun _ h => h, glob_of hL⟩
  refine (hc ⟨fun _ => False, fun _ => none, fun k => k < W.heap.size, W⟩ #[v0, v1, v2, .int .i64 n] hH (fun _ h => h.elim) rfl (fun i v hi => ?_)).mono ?_
  · match i, hi with
    | 0, hi => cases hi; exact .d _ _ r0
    | 1, hi => cases hi; exact .d _ _ r1
    | 2, hi => cases hi; exact .d _ _ r2
    | 3, hi => cases hi; exact .d _ _ (.int _ _)
    | i + 4, hi => simp at hi
  · rintro e W' ⟨x, v, H', nx', C', rfl, rfl, ⟨rfl, rfl, rfl⟩, hx, _, _, hT⟩
    have hbelow : Below W.heap.size W C'.w := ⟨hT.os, hT.tape, hT.output, hT.size, fun k hk => hT.frame k hk (fun _ _ h => by cases h)⟩
    have hd := vrel_d hx
    cases hd
    have l0 : ∀ x ∈ p0, x.block < W.heap.size := fun x hx => hlt0 x (by simp [hx])
    have l1 : ∀ x ∈ p1, x.block < W.heap.size := fun x hx => hlt0 x (by simp [hx])
    have l2 : ∀ x ∈ p2, x.block < W.heap.size := fun x hx => hlt0 x (by simp [hx])
    have l3 : ∀ x ∈ p3, x.block < W.heap.size := fun x hx => hlt0 x (by simp [hx])
    refine ⟨_, rfl, _, _, _, [], p0 ++ (p1 ++ (p2 ++ (p3 ++ []))), [], hW', ?_, ?_, rfl, hbelow.frame _, fun h => by cases h⟩
    · exact trodAll_mk1 (shut_bool Tryz.underlying4 _)
    · have b0 := Below.trod laidOut (by kernel_rfl) (of_decide_eq_true (by kernel_rfl)) h0 hbelow l0
      have b1 := Below.trod laidOut (by kernel_rfl) (of_decide_eq_true (by kernel_rfl)) h1 hbelow l1
      have b2 := Below.trod laidOut (by kernel_rfl) (of_decide_eq_true (by kernel_rfl)) h2 hbelow l2
      have b3 := Below.trod laidOut (by kernel_rfl) (of_decide_eq_true (by kernel_rfl)) h3 hbelow l3
      exact ⟨_, _, b0, ⟨_, _, b1, ⟨_, _, b2, ⟨_, _, b3, rfl, rfl⟩, rfl⟩, rfl⟩, rfl⟩
theorem kc1 : OpenClaim.wf (OpenSpec.ofChange Rows.stabChecksSpec) Rows.stabChecksRow = true := by kernel_rfl
theorem kc10 : (OpenClaim.inPlace Rows.stabChecksRow == Program.inPlace cP 4) = true := by kernel_rfl
theorem kc11 : (OpenClaim.unfollowed Rows.stabChecksRow == Program.unfollowed cP 4) = true := by kernel_rfl
theorem kc12 : (OpenClaim.recurses Rows.stabChecksRow == Program.recurses cP 4) = true := by kernel_rfl
theorem kc13 : (OpenClaim.named Rows.stabChecksRow == Program.varsNamed cP 4) = true := by kernel_rfl
theorem kcN : Program.funcNamed cP (OpenClaim.func Rows.stabChecksRow) = some 4 := by kernel_rfl
theorem kcI : Func.isInstance cP Tryz.f4 (OpenClaim.origin Rows.stabChecksRow) (OpenClaim.targs Rows.stabChecksRow) := of_decide_eq_true (by kernel_rfl)
theorem kcW : Func.isWrapper cP Tryz.f4 (OpenClaim.wrapper Rows.stabChecksRow) (OpenClaim.mainSum Rows.stabChecksRow) := by
  unfold Func.isWrapper; first | (rw [if_pos (by decide +kernel)]; kernel_rfl) | (rw [if_neg (by decide +kernel)]; exact ⟨rfl, rfl⟩)
theorem kcT : OpenClaim.wfByText (OpenSpec.ofChange Rows.stabChecksSpec) Rows.stabChecksRow = true := by kernel_rfl
theorem kcG : false = OpenClaim.goesBy Rows.stabChecksRow cP := by kernel_rfl
theorem stabChecks_joined : joinedFacts cP 4 Tryz.f4 Rows.stabChecksSpec Rows.stabChecksRow = true := by
  unfold joinedFacts
  simp only [Bool.and_eq_true]
  refine ⟨⟨⟨⟨⟨⟨⟨⟨⟨⟨⟨⟨⟨⟨⟨⟨⟨⟨⟨⟨⟨⟨⟨⟨⟨⟨⟨⟨⟨⟨⟨kc1, cj2⟩, cj3⟩, ?_⟩, ?_⟩, ?_⟩, cj7⟩, ?_⟩, cj9⟩, kc10⟩, kc11⟩, kc12⟩, kc13⟩, ?_⟩, ?_⟩, ?_⟩, ?_⟩, ?_⟩, ?_⟩, ?_⟩, ?_⟩, ?_⟩, cj20⟩, ?_⟩, cj22⟩, cj23⟩, cj24⟩, cj25⟩, ?_⟩, ?_⟩, ?_⟩, ?_⟩
  all_goals kernel_rfl
theorem stabChecks_holds : Rows.StabChecksSaid :=
  OpenClaim.holds_of_wide 4 Tryz.f4 rfl rfl rfl rfl rfl rfl rfl ⟨rfl, rfl, rfl, rfl, rfl⟩ rfl rfl rfl rfl rfl kcN Tryz.func4 stabChecks_joined kcI kcW
    (fun os started H enc _ => stabChecks_lifted os started H enc)
theorem stabChecks_card : Rows.StabChecksCardSaid :=
  Claim7.holds_tied_plain_at .later [] [.data, .data] true (true, "8b097af312537285be51cb7f5f4f0726b8661743bb377639627160fb316d0ecd") false
    stabChecks_holds (fun _ h => by cases h) kcT (fun _ h => by cases h) stabChecks_row_tie rfl ⟨rfl, rfl⟩ cjM rfl
    (fun f fn hf hfn => by
      obtain rfl : f = 4 := Option.some.inj (kcN.symm.trans hf) |>.symm
      obtain rfl : fn = Tryz.f4 := (Option.some.inj (Tryz.func4.symm.trans hfn)).symm
      exact ⟨cjL, fun j t ht => by
        rw [Tryz.params4] at ht
        have hm : t ∈ [24, 24, 42, 3] := by simpa using Array.mem_of_getElem? ht
        have hall : ([24, 24, 42, 3].all fun u => !Tryz.prog.wantsStandIn u) = true := by kernel_rfl
        exact (show Tryz.prog.wantsStandIn t = false by simpa using List.all_eq_true.1 hall t hm)⟩)
    kcG
#print axioms stabChecks_card
end Go.Proofs.YtehjjpbpdfnnfaaGreatDoor

