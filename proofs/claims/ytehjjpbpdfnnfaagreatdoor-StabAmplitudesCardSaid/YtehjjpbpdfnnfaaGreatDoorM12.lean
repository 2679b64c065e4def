import Derived.Test.YtehjjpbpdfnnfaaGreatDoorM11
namespace Go.Proofs.YtehjjpbpdfnnfaaGreatDoor
open Go Go.AL Go.Tz Go.Proofs Go.ChangeShapes Go.WideShapes Go.ChangeAt Go.RowKit Go.Deep
noncomputable abbrev cP := Tryz.pinned.checked.prog
theorem own : ownKnob Tryz.prog.godebug = none := by kernel_rfl
theorem laidOut : laidOutB Tryz.prog = true := by kernel_rfl
theorem cj2 : laidOutB cP = true := by kernel_rfl
theorem cj3 : mapsRowed cP = true := by kernel_rfl
theorem cj7 : (Program.stops cP == []) = true := by kernel_rfl
theorem cj9 : (Program.stopKnobs cP == []) = true := by kernel_rfl
theorem cj20 : (OpenClaim.plainKeys Rows.stabChecksRow == Program.plainKeys cP) = true := by kernel_rfl
theorem cj22 : Program.stopsHeard cP = true := by kernel_rfl
theorem cj23 : Program.mayEnter cP = true := by kernel_rfl
theorem cj24 : (OpenClaim.lifted Rows.stabChecksRow == Program.liftsFinal cP) = true := by kernel_rfl
theorem cj25 : (Program.make cP == some (OpenClaim.make Rows.stabChecksRow)) = true := by kernel_rfl
theorem cjM : Program.mainIs cP = some (true, String.toList "8b097af312537285be51cb7f5f4f0726b8661743bb377639627160fb316d0ecd") := by kernel_rfl
theorem cjL : false = Program.looks cP [] := by kernel_rfl
end Go.Proofs.YtehjjpbpdfnnfaaGreatDoor
namespace Go.Tz
open Go Go.AL Go.Proofs Go.ChangeShapes Go.WideShapes Go.ChangeAt Go.RowKit Go.Deep
variable {H : Type} {enc : TypeId × Value → H} {W : World} {spare : Nat → Bool} {held : Bool}
theorem zun {fuel : Nat} {cs : List Value} {x : DataW H × List MemPlace} (h : DataW.trod enc Pr W 0 spare held fuel 102 cs = some x) : ∃ (l : List Int) (v : Value), cs = [v] ∧ DRel W (fun k => k < W.heap.size) (bytesD l false) v := by
 have c5 : Pr.cellsOf 5 = 1 := by kernel_rfl
 have u5 : Pr.underlying 5 = some (.int .u8) := by kernel_rfl
 rcases open_slice1 Tryz.underlying102 c5 h with ⟨rfl, _⟩ | ⟨a, len, cap, m, n, V, Dd, Pl, rfl, _, hl, _, hm, _, hx⟩
 ·exact ⟨[], _, rfl, .sl0 _ _ _ (fun h => by cases h)⟩
 have hlm : len ≤ m := by rw [hm]; split <;> omega
 have hq : ∀ i, i < len → ∃ k : Int, W.cell? (a.add i) = some (.int .u8 k) := fun i hi => by
  obtain ⟨h1, h2⟩ := hx i (by omega)
  obtain ⟨k, e, _⟩ := DataW.trod_int u5 h2
  exact ⟨k, by rw [h1, (List.cons.inj e).1]⟩
 obtain ⟨q, hq⟩ := choose_lt hq
 obtain ⟨b, o, s⟩ := a
 by_cases hz : len = 0
 ·subst hz
  exact ⟨[], _, rfl, .sl0 _ _ _ (fun h => by cases h)⟩
 have hs : s = none := by
  have := World.cell?_spot (hq 0 (by omega))
  simpa [Addr.add] using this
 subst hs
 have hcell : ∀ i, i < len → W.cell? ⟨b, o + i, none⟩ = some (.int .u8 (q i)) := fun i hi => by
  have := hq i hi
  rwa [add_plain] at this
 have hb : b < W.heap.size := zkn (hcell 0 (by omega))
 refine ⟨(List.range len).map q, _, rfl, ?_⟩
 have key := DRel.sl (w := W) (RO := fun k => k < W.heap.size) (((List.range len).map q).map fun k => [D.int IntKind.u8 k]) false b o cap 1 (fun i _ => .int .u8 (q i)) hb (by simpa using hl) (fun h => by cases h) (fun el hel => by obtain ⟨k, _, rfl⟩ := List.mem_map.1 hel; rfl)
  (fun i j el d h1 h2 => by
   have hi : i < len := by
    have := (List.getElem?_eq_some_iff.1 h1).1
    simpa using this
   have hel : el.length = 1 := by obtain ⟨k, _, rfl⟩ := List.mem_map.1 (List.mem_of_getElem? h1); rfl
   have hj : j = 0 := by
    have := (List.getElem?_eq_some_iff.1 h2).1
    omega
   subst hj
   have := hcell i hi
   rw [Nat.mul_one, Nat.add_zero]; exact this)
  (fun i j el d h1 h2 => by
   have hi : i < len := by
    have := (List.getElem?_eq_some_iff.1 h1).1
    simpa using this
   have he : el = [D.int IntKind.u8 (q i)] := by
    simp [hi] at h1
    exact h1.symm
   subst he
   match j, h2 with
   | 0, h2 => cases h2; exact .int _ _
   | j + 1, h2 => simp at h2)
 have e : (((List.range len).map q).map fun k => [D.int IntKind.u8 k]).length = len := by simp
 rw [e] at key
 exact key
theorem ints_val {fuel : Nat} {cs : List Value} {x : DataW H × List MemPlace} {ks : List Int} {sp : List (DataW H)} (h : DataW.trod enc Pr W 0 spare held fuel 42 cs = some x) (hv : x.1 = .slice (ks.map fun k => DataW.lit (Lit.int .i64 k)) sp) (hne : ks ≠ []) : ∃ v : Value, cs = [v] ∧ DRel W (fun k => k < W.heap.size) (intsD ks false) v := by
 have c3 : Pr.cellsOf 3 = 1 := by kernel_rfl
 rcases open_slice1 Tryz.underlying42 c3 h with ⟨rfl, rfl⟩ | ⟨a, len, cap, m, n, V, Dd, Pl, rfl, _, hl, _, hm, rfl, hx⟩
 ·cases hv
 have hlm : len ≤ m := by rw [hm]; split <;> omega
 have hv1 : (List.range len).map Dd = ks.map fun k => DataW.lit (Lit.int .i64 k) := by
  injection hv
 have hlen : len = ks.length := by
  have := congrArg List.length hv1
  simpa using this
 have hq : ∀ i, i < len → W.cell? (a.add i) = some (.int .i64 (ks.getD i 0)) := fun i hi => by
  obtain ⟨h1, h2⟩ := hx i (by omega)
  obtain ⟨k, e, e2, _⟩ := DataW.trod_int Tryz.underlying3 h2
  have h3 : Dd i = DataW.lit (Lit.int .i64 (ks.getD i 0)) := by
   have := congrArg (fun l : List (DataW H) => l[i]?) hv1
   simp only [List.getElem?_map, List.getElem?_range hi, Option.map_some] at this
   rw [List.getElem?_eq_getElem (by omega)] at this
   rw [List.getD_eq_getElem?_getD, List.getElem?_eq_getElem (by omega)]
   exact Option.some.inj this
  have e2 : Dd i = DataW.lit (Lit.int .i64 k) := congrArg Prod.fst (show (Dd i, Pl i) = _ from e2)
  rw [h3] at e2
  have hk : ks.getD i 0 = k := by cases e2; rfl
  rw [h1, (List.cons.inj e).1, hk]
 obtain ⟨b, o, s⟩ := a
 have hpos : 0 < len := by rw [hlen]; exact List.length_pos_iff.2 hne
 have hs : s = none := by
  have := World.cell?_spot (hq 0 hpos)
  simpa [Addr.add] using this
 subst hs
 have hcell : ∀ i, i < len → W.cell? ⟨b, o + i, none⟩ = some (.int .i64 (ks.getD i 0)) := fun i hi => by
  have := hq i hi
  rwa [add_plain] at this
 have hb : b < W.heap.size := zkn (hcell 0 hpos)
 refine ⟨_, rfl, ?_⟩
 have key := DRel.sl (w := W) (RO := fun k => k < W.heap.size) (ks.map fun k => [iD k]) false b o cap 1 (fun i _ => .int .i64 (ks.getD i 0)) hb (by rw [List.length_map]; omega) (fun h => by cases h) (fun el hel => by obtain ⟨k, _, rfl⟩ := List.mem_map.1 hel; rfl)
  (fun i j el d h1 h2 => by
   have hi : i < len := by
    have := (List.getElem?_eq_some_iff.1 h1).1
    rw [List.length_map] at this; omega
   have hel : el.length = 1 := by obtain ⟨k, _, rfl⟩ := List.mem_map.1 (List.mem_of_getElem? h1); rfl
   have hj : j = 0 := by
    have := (List.getElem?_eq_some_iff.1 h2).1
    omega
   subst hj
   have := hcell i hi
   rw [Nat.mul_one, Nat.add_zero]; exact this)
  (fun i j el d h1 h2 => by
   have hi : i < ks.length := by
    have := (List.getElem?_eq_some_iff.1 h1).1
    rwa [List.length_map] at this
   have he : el = [iD (ks.getD i 0)] := by
    rw [List.getElem?_map, List.getElem?_eq_getElem hi] at h1
    rw [List.getD_eq_getElem?_getD, List.getElem?_eq_getElem hi]
    exact (Option.some.inj h1).symm
   subst he
   match j, h2 with
   | 0, h2 => cases h2; exact .int _ _
   | j + 1, h2 => simp at h2)
 rw [List.length_map, ← hlen] at key
 exact key
abbrev laid3 : List (String × DataW Unit) := [("math/bits.deBruijn32tab", YtehjjpbpdfnnfaaGreatDoor.Rows.laid_math_bits_deBruijn32tab), ("math/bits.deBruijn64tab", YtehjjpbpdfnnfaaGreatDoor.Rows.laid_math_bits_deBruijn64tab), ("spoondrift/spoondriftkit.Clifford", YtehjjpbpdfnnfaaGreatDoor.Rows.laid_spoondrift_spoondriftkit_Clifford)]
theorem gc : Pr.globalNamed "spoondrift/spoondriftkit.Clifford" = some 0 := by kernel_rfl
theorem dcf : (YtehjjpbpdfnnfaaGreatDoor.Rows.laid_spoondrift_spoondriftkit_Clifford : DataW H) = .slice (cfL.map fun k : Int => DataW.lit (Lit.int .i64 k)) [] := rfl
theorem cf_of (h : laidMetH Pr laid3 W) : DRel W (fun k => k < W.heap.size) (.rop [cfD] 0) (.pointer (some ⟨0, 0, none⟩)) := by
 rw [MakeChecks.laidMetH_plain _ _ _ (by kernel_rfl)] at h
 obtain ⟨ps, ⟨g0, t0, cs0, f0, p0, q0, hg0, ht0, hv0, hd0, ⟨h1g, h1t, cs1, f1, p1, q1, hg1, ht1, hv1, hd1, ⟨h2g, h2t, cs2, f2, p2, q2, hg2, ht2, hv2, hd2, _, _⟩, _⟩, _⟩, _, _⟩ := h
 obtain rfl := Option.some.inj (gc.symm.trans hg2)
 have u1 : (Pr.globals[0]?).map (·.type) = some 42 := by kernel_rfl
 obtain rfl : (42 : Nat) = h2t := Option.some.inj (u1.symm.trans ht2)
 obtain ⟨v, e, hr⟩ := ints_val hd2 dcf (by decide)
 have hc : W.cell? ⟨0, 0, none⟩ = some v := by
  rw [World.var?_cell hg2 hv2 0]
  have : cs2.toList[0]? = some v := by rw [e]; rfl
  rwa [Array.getElem?_toList] at this
 exact DRel.rop (w := W) (RO := fun k => k < W.heap.size) [cfD] 0 0 0 (fun _ => v) (zkn hc) (fun j d hd => by
  match j, hd with
  | 0, _ => exact hc
  | j + 1, hd => simp at hd) (fun j d hd => by
  match j, hd with
  | 0, hd => cases hd; exact hr
  | j + 1, hd => simp at hd)
theorem laid32 (h : laidMetH Pr laid3 W) : laidMetH Pr laid2 W := by
 have := h.filter fun x => x.1 != "spoondrift/spoondriftkit.Clifford"
 exact this
theorem globK_of (h : laidMetH Pr laid3 W) : ∀ g ds, GK g = some ds → DRel W (fun k => k < W.heap.size) (.rop ds 0) (.pointer (some ⟨g, 0, none⟩)) := by
 intro g ds hg
 match g, hg with
 | 0, hg => cases hg; exact cf_of h
 | g + 1, hg => exact glob_of (laid32 h) (g + 1) ds hg
end Go.Tz
