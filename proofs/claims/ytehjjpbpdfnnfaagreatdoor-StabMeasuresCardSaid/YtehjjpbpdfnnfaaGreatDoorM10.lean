import Derived.Test.YtehjjpbpdfnnfaaGreatDoorM09
namespace Go.Proofs.YtehjjpbpdfnnfaaGreatDoor
open Go Go.AL Go.Tz Go.Proofs Go.ChangeShapes Go.WideShapes Go.ChangeAt Go.RowKit Go.Deep
noncomputable abbrev cP := Tryz.pinned.checked.prog
theorem own : ownKnob Tryz.prog.godebug = none := by kernel_rfl
theorem laidOut : laidOutB Tryz.prog = true := by kernel_rfl
theorem cj2 : laidOutB cP = true := by kernel_rfl
theorem cj3 : mapsRowed cP = true := by kernel_rfl
theorem cj7 : (Program.stops cP == []) = true := by kernel_rfl
theorem cj9 : (Program.stopKnobs cP == []) = true := by kernel_rfl
theorem cj20 : (OpenClaim.plainKeys Rows.stabChecksRow == Program.plainKeys cP) = true := by kernel_rfl
theorem cj22 : Program.stopsHeard cP = true := by kernel_rfl
theorem cj23 : Program.mayEnter cP = true := by kernel_rfl
theorem cj24 : (OpenClaim.lifted Rows.stabChecksRow == Program.liftsFinal cP) = true := by kernel_rfl
theorem cj25 : (Program.make cP == some (OpenClaim.make Rows.stabChecksRow)) = true := by kernel_rfl
theorem cjM : Program.mainIs cP = some (true, String.toList "8b097af312537285be51cb7f5f4f0726b8661743bb377639627160fb316d0ecd") := by kernel_rfl
theorem cjL : false = Program.looks cP [] := by kernel_rfl
end Go.Proofs.YtehjjpbpdfnnfaaGreatDoor
namespace Go.Tz
open Go Go.AL Go.Proofs Go.ChangeShapes Go.WideShapes Go.ChangeAt Go.RowKit Go.Deep
variable {H : Type} {enc : TypeId × Value → H} {W : World} {spare : Nat → Bool} {held : Bool}
def gcell (g : Gt) (v : Value) (j : Nat) : Value := match j with
 | 0 => .int .i64 g.k
 | 1 => v
 | 2 => .int .i64 g.b
 | _ => .int .i64 g.i
instance : Inhabited Gt := ⟨⟨0, [], false, 0, 0⟩⟩
theorem list3 {α : Type} : ∀ {l : List α}, l.length = 3 → ∃ a b c, l = [a, b, c]
 | [a, b, c], _ => ⟨a, b, c, rfl⟩
theorem gt_open {fuel : Nat} {cs : List Value} {x : DataW H × List MemPlace} (h : DataW.trod enc Pr W 0 spare held fuel 67 cs = some x) :
  ∃ p : Gt × Value, p.1.u = false ∧ cs = [gcell p.1 p.2 0, gcell p.1 p.2 1, gcell p.1 p.2 2, gcell p.1 p.2 3] ∧ DRel W (fun k => k < W.heap.size) (intsD p.1.ws p.1.u) p.2 := by
 obtain ⟨xs, n, _, _, hl, hlen, hf⟩ := DataW.trod_struct Tryz.underlying67 h
 have c67 : Pr.cellsOf 67 = 4 := by kernel_rfl
 have c3 : Pr.cellsOf 3 = 1 := by kernel_rfl
 have c42 : Pr.cellsOf 42 = 1 := by kernel_rfl
 rw [c67] at hl
 have h0 : DataW.trod enc Pr W 0 spare held n 3 ((cs.drop 0).take (Pr.cellsOf 3)) = xs[0]? := hf 0 ⟨"Kind", 3, 0, false, "", "", 0⟩ rfl
 have h1 : DataW.trod enc Pr W 0 spare held n 42 ((cs.drop 1).take (Pr.cellsOf 42)) = xs[1]? := hf 1 ⟨"Wires", 42, 1, false, "", "", 8⟩ rfl
 have h2 : DataW.trod enc Pr W 0 spare held n 3 ((cs.drop 2).take (Pr.cellsOf 3)) = xs[2]? := hf 2 ⟨"Bit", 3, 2, false, "", "", 32⟩ rfl
 have h3 : DataW.trod enc Pr W 0 spare held n 3 ((cs.drop 3).take (Pr.cellsOf 3)) = xs[3]? := hf 3 ⟨"If", 3, 3, false, "", "", 40⟩ rfl
 rw [c3] at h0 h2 h3
 rw [c42] at h1
 obtain ⟨x0, x1, x2, x3, rfl⟩ := list4 hlen
 obtain ⟨a, b, c, d, rfl⟩ := list4 hl
 obtain ⟨n0, e0, _⟩ := DataW.trod_int Tryz.underlying3 (show DataW.trod enc Pr W 0 spare held n 3 [a] = some x0 from h0)
 obtain ⟨ks, v, e1, hd⟩ := ints_open (show DataW.trod enc Pr W 0 spare held n 42 [b] = some x1 from h1)
 obtain ⟨n2, e2, _⟩ := DataW.trod_int Tryz.underlying3 (show DataW.trod enc Pr W 0 spare held n 3 [c] = some x2 from h2)
 obtain ⟨n3, e3, _⟩ := DataW.trod_int Tryz.underlying3 (show DataW.trod enc Pr W 0 spare held n 3 [d] = some x3 from h3)
 cases e0; cases e1; cases e2; cases e3
 exact ⟨(⟨n0, ks, false, n2, n3⟩, b), rfl, rfl, hd⟩
theorem gates_open {fuel : Nat} {cs : List Value} {x : DataW H × List MemPlace} (h : DataW.trod enc Pr W 0 spare held fuel 63 cs = some x) : ∃ (l : List Gt) (v : Value), cs = [v] ∧ DRel W (fun k => k < W.heap.size) (gatesD l false) v := by
 rcases open_slice Tryz.underlying63 h with ⟨rfl, _⟩ | ⟨a, len, cap, m, n, D, Pl, rfl, _, hl, _, hm, _, hx⟩
 ·exact ⟨[], _, rfl, .sl0 _ _ _ (fun h => by cases h)⟩
 have c67 : Pr.cellsOf 67 = 4 := by kernel_rfl
 rw [c67] at hx
 have hlm : len ≤ m := by rw [hm]; split <;> omega
 have hq : ∀ i, i < len → ∃ q : Gt × Value, (∀ j, j < 4 → W.cell? ((a.add (i * 4)).add j) = some (gcell q.1 q.2 j)) ∧ DRel W (fun k => k < W.heap.size) (intsD q.1.ws q.1.u) q.2 := fun i hi => by
  obtain ⟨cs', h1, h2⟩ := hx i (by omega)
  obtain ⟨q, _, rfl, hd⟩ := gt_open h2
  obtain ⟨_, _, h3⟩ := World.cells?_some h1
  refine ⟨q, fun j hj => ?_, hd⟩
  rw [h3 j hj]
  match j, hj with
  | 0, _ => rfl
  | 1, _ => rfl
  | 2, _ => rfl
  | 3, _ => rfl
 obtain ⟨q, hq⟩ := choose_lt hq
 obtain ⟨b, o, s⟩ := a
 by_cases hz : len = 0
 ·subst hz
  exact ⟨[], _, rfl, .sl0 _ _ _ (fun h => by cases h)⟩
 have hs : s = none := by
  have := World.cell?_spot ((hq 0 (by omega)).1 0 (by decide))
  simpa [Addr.add] using this
 subst hs
 have hcell : ∀ i j, i < len → j < 4 → W.cell? ⟨b, o + i * 4 + j, none⟩ = some (gcell (q i).1 (q i).2 j) := fun i j hi hj => by
  have := (hq i hi).1 j hj
  rwa [add_plain, add_plain] at this
 have hb : b < W.heap.size := cell_lt (hcell 0 0 (by omega) (by decide))
 have hlen4 : ∀ el, el ∈ ((List.range len).map fun i => (q i).1).map Gt.l → el.length = 4 := fun el hel => by
  obtain ⟨g, _, rfl⟩ := List.mem_map.1 hel
  rfl
 refine ⟨(List.range len).map fun i => (q i).1, _, rfl, ?_⟩
 have key := DRel.sl (w := W) (RO := fun k => k < W.heap.size) (((List.range len).map fun i => (q i).1).map Gt.l) false b o cap 4 (fun i j => gcell (q i).1 (q i).2 j) hb (by simpa using hl) (fun h => by cases h) hlen4
  (fun i j el d h1 h2 => by
   have hi : i < len := by
    have := (List.getElem?_eq_some_iff.1 h1).1
    simpa using this
   have hel := hlen4 el (List.mem_of_getElem? h1)
   have hj : j < 4 := by
    have := (List.getElem?_eq_some_iff.1 h2).1
    omega
   exact hcell i j hi hj)
  (fun i j el d h1 h2 => by
   have hi : i < len := by
    have := (List.getElem?_eq_some_iff.1 h1).1
    simpa using this
   have he : el = (q i).1.l := by
    simp [hi] at h1
    exact h1.symm
   subst he
   match j, h2 with
   | 0, h2 => cases h2; exact .int _ _
   | 1, h2 => cases h2; exact (hq i hi).2
   | 2, h2 => cases h2; exact .int _ _
   | 3, h2 => cases h2; exact .int _ _
   | j + 4, h2 => simp [Gt.l] at h2)
 have e : (((List.range len).map fun i => (q i).1).map Gt.l).length = len := by simp
 rw [e] at key
 exact key
theorem circ_open {v : Value} {d : DataW H} {ps : List MemPlace} (hval : ∃ cs, v = .agg cs) (h : DataW.Trod enc Pr W 0 spare held 65 v d ps) : ∃ (w b : Int) (l : List Gt), DRel W (fun k => k < W.heap.size) (circD w b l false) v := by
 obtain ⟨cs, rfl⟩ := hval
 obtain ⟨fuel, hf⟩ := h
 obtain ⟨xs, n, _, _, hl, hlen, hf⟩ := DataW.trod_struct Tryz.underlying65 hf
 have c65 : Pr.cellsOf 65 = 3 := by kernel_rfl
 have c3 : Pr.cellsOf 3 = 1 := by kernel_rfl
 have c63 : Pr.cellsOf 63 = 1 := by kernel_rfl
 rw [c65] at hl
 obtain ⟨l0⟩ := cs
 have hl : l0.length = 3 := hl
 obtain ⟨a, b, c, rfl⟩ := list3 hl
 obtain ⟨x0, x1, x2, rfl⟩ := list3 hlen
 have h0 : DataW.trod enc Pr W 0 spare held n 3 (([a, b, c].drop 0).take (Pr.cellsOf 3)) = some x0 := hf 0 ⟨"Wires", 3, 0, false, "", "", 0⟩ rfl
 have h1 : DataW.trod enc Pr W 0 spare held n 3 (([a, b, c].drop 1).take (Pr.cellsOf 3)) = some x1 := hf 1 ⟨"Bits", 3, 1, false, "", "", 8⟩ rfl
 have h2 : DataW.trod enc Pr W 0 spare held n 63 (([a, b, c].drop 2).take (Pr.cellsOf 63)) = some x2 := hf 2 ⟨"Gates", 63, 2, false, "", "", 16⟩ rfl
 rw [c3] at h0 h1
 rw [c63] at h2
 have h0 : DataW.trod enc Pr W 0 spare held n 3 [a] = some x0 := h0
 have h1 : DataW.trod enc Pr W 0 spare held n 3 [b] = some x1 := h1
 have h2 : DataW.trod enc Pr W 0 spare held n 63 [c] = some x2 := h2
 obtain ⟨w, e0, _⟩ := DataW.trod_int Tryz.underlying3 h0
 obtain ⟨bb, e1, _⟩ := DataW.trod_int Tryz.underlying3 h1
 obtain ⟨l, v, e2, hd⟩ := gates_open h2
 cases e0; cases e1; cases e2
 refine ⟨w, bb, l, .agg _ _ rfl fun i d hi => ?_⟩
 match i, hi with
 | 0, hi => cases hi; exact .int _ _
 | 1, hi => cases hi; exact .int _ _
 | 2, hi => cases hi; exact hd
 | i + 3, hi => simp at hi
end Go.Tz
namespace Go.Tz
open Go Go.AL Go.Proofs Go.ChangeShapes Go.WideShapes Go.ChangeAt Go.RowKit Go.Deep
theorem trodAll_five {H : Type} {enc : TypeId × Value → H} {P : Program} {w : World} {base : Nat} {spare : Nat → Bool} {held : Bool} {t t' t2 t3 t4 : TypeId} {args : Array Value} {ds : List (DataW H)} {ps : List MemPlace} (h : DataW.TrodAll enc P w base spare held [t, t', t2, t3, t4] args.toList ds ps) :
  ∃ v v' v2 v3 v4 d d' d2 d3 d4 p p' p2 p3 p4, args = #[v, v', v2, v3, v4] ∧ ds = [d, d', d2, d3, d4] ∧ ps = p ++ p' ++ p2 ++ p3 ++ p4 ∧ DataW.Trod enc P w base spare held t v d p ∧ DataW.Trod enc P w base spare held t' v' d' p' ∧ DataW.Trod enc P w base spare held t2 v2 d2 p2 ∧ DataW.Trod enc P w base spare held t3 v3 d3 p3 ∧ DataW.Trod enc P w base spare held t4 v4 d4 p4 := by
 obtain ⟨v, vs, d, ds1, p, q, hargs, rfl, rfl, hd, hrest⟩ := trodAll_cons h
 obtain ⟨v', vs', d', ds2, p', q', rfl, rfl, rfl, hd', hrest'⟩ := trodAll_cons hrest
 obtain ⟨v2, vs2, d2, ds3, p2, q2, rfl, rfl, rfl, hd2, hrest2⟩ := trodAll_cons hrest'
 obtain ⟨v3, vs3, d3, ds4, p3, q3, rfl, rfl, rfl, hd3, hrest3⟩ := trodAll_cons hrest2
 obtain ⟨v4, vs4, d4, ds5, p4, q4, rfl, rfl, rfl, hd4, hrest4⟩ := trodAll_cons hrest3
 obtain ⟨rfl, rfl, rfl⟩ := trodAll_nil hrest4
 exact ⟨v, v', v2, v3, v4, d, d', d2, d3, d4, p, p', p2, p3, p4, by cases args; simp_all, rfl, by simp, hd, hd', hd2, hd3, hd4⟩
end Go.Tz
