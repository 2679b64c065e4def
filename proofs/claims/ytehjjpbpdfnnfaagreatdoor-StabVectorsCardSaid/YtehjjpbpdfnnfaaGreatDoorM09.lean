import Derived.Test.YtehjjpbpdfnnfaaGreatDoorM08
import Derived.Deep.Slices
import Derived.LaidMore
import Derived.OpenShut
import Derived.ProofKit
import Derived.Test.YtehjjpbpdfnnfaaGreatDoorCards
import Derived.Test.YtehjjpbpdfnnfaaGreatDoorTie
namespace Go.Tz
open Go Go.AL Go.Proofs Go.ChangeShapes Go.WideShapes Go.ChangeAt Go.RowKit Go.Deep
variable {H : Type} {enc : TypeId × Value → H} {W : World} {spare : Nat → Bool} {held : Bool}
theorem cell_lt {b o : Nat} {v : Value} (h : W.cell? ⟨b, o, none⟩ = some v) : b < W.heap.size := by
 refine Classical.byContradiction fun hn => ?_
 have : W.heap[b]? = none := Array.getElem?_eq_none (by omega)
 unfold World.cell? at h
 simp [this] at h
def Ps.v (q : Ps) (j : Nat) : Value := match j with
 | 0 => .int .i64 q.w
 | 1 => .int .i64 q.x
 | 2 => .int .i64 q.z
 | _ => .int .i64 q.p
instance : Inhabited Ps := ⟨Ps.z0⟩
theorem list4 {α : Type} : ∀ {l : List α}, l.length = 4 → ∃ a b c d, l = [a, b, c, d]
 | [a, b, c, d], _ => ⟨a, b, c, d, rfl⟩
theorem list2 {α : Type} : ∀ {l : List α}, l.length = 2 → ∃ a b, l = [a, b]
 | [a, b], _ => ⟨a, b, rfl⟩
theorem ps_open {fuel : Nat} {cs : List Value} {x : DataW H × List MemPlace} (h : DataW.trod enc Pr W 0 spare held fuel 69 cs = some x) : ∃ q : Ps, cs = [q.v 0, q.v 1, q.v 2, q.v 3] := by
 obtain ⟨xs, n, _, _, hl, hlen, hf⟩ := DataW.trod_struct Tryz.underlying69 h
 have c69 : Pr.cellsOf 69 = 4 := by kernel_rfl
 have c3 : Pr.cellsOf 3 = 1 := by kernel_rfl
 rw [c69] at hl
 have h0 : DataW.trod enc Pr W 0 spare held n 3 ((cs.drop 0).take (Pr.cellsOf 3)) = xs[0]? := hf 0 ⟨ "Wires", 3, 0, false, "", "", 0⟩ rfl
 have h1 : DataW.trod enc Pr W 0 spare held n 3 ((cs.drop 1).take (Pr.cellsOf 3)) = xs[1]? := hf 1 ⟨ "X", 3, 1, false, "", "", 8⟩ rfl
 have h2 : DataW.trod enc Pr W 0 spare held n 3 ((cs.drop 2).take (Pr.cellsOf 3)) = xs[2]? := hf 2 ⟨ "Z", 3, 2, false, "", "", 16⟩ rfl
 have h3 : DataW.trod enc Pr W 0 spare held n 3 ((cs.drop 3).take (Pr.cellsOf 3)) = xs[3]? := hf 3 ⟨ "Phase", 3, 3, false, "", "", 24⟩ rfl
 rw [c3] at h0 h1 h2 h3
 obtain ⟨x0, x1, x2, x3, rfl⟩ := list4 hlen
 obtain ⟨a, b, c, d, rfl⟩ := list4 hl
 obtain ⟨n0, e0, _⟩ := DataW.trod_int Tryz.underlying3 (show DataW.trod enc Pr W 0 spare held n 3 [a] = some x0 from h0)
 obtain ⟨n1, e1, _⟩ := DataW.trod_int Tryz.underlying3 (show DataW.trod enc Pr W 0 spare held n 3 [b] = some x1 from h1)
 obtain ⟨n2, e2, _⟩ := DataW.trod_int Tryz.underlying3 (show DataW.trod enc Pr W 0 spare held n 3 [c] = some x2 from h2)
 obtain ⟨n3, e3, _⟩ := DataW.trod_int Tryz.underlying3 (show DataW.trod enc Pr W 0 spare held n 3 [d] = some x3 from h3)
 cases e0; cases e1; cases e2; cases e3
 exact ⟨⟨n0, n1, n2, n3⟩, rfl⟩
theorem rows_open {fuel : Nat} {cs : List Value} {x : DataW H × List MemPlace} (h : DataW.trod enc Pr W 0 spare held fuel 22 cs = some x) : ∃ (l : List Ps) (v : Value), cs = [v] ∧ DRel W (fun k => k < W.heap.size) (rowsD l false) v := by
 rcases open_slice Tryz.underlying22 h with ⟨rfl, _⟩ | ⟨a, len, cap, m, n, D, Pl, rfl, _, hl, _, hm, _, hx⟩
 ·exact ⟨[], _, rfl, .sl0 _ _ _ (fun h => by cases h)⟩
 have c69 : Pr.cellsOf 69 = 4 := by kernel_rfl
 rw [c69] at hx
 have hlm : len ≤ m := by rw [hm]; split <;> omega
 have hq : ∀ i, i < len → ∃ q : Ps, ∀ j, j < 4 → W.cell? ((a.add (i * 4)).add j) = some (q.v j) := fun i hi => by
  obtain ⟨cs', h1, h2⟩ := hx i (by omega)
  obtain ⟨q, rfl⟩ := ps_open h2
  obtain ⟨_, _, h3⟩ := World.cells?_some h1
  refine ⟨q, fun j hj => ?_⟩
  rw [h3 j hj]
  match j, hj with
  | 0, _ => rfl
  | 1, _ => rfl
  | 2, _ => rfl
  | 3, _ => rfl
 obtain ⟨q, hq⟩ := choose_lt hq
 obtain ⟨b, o, s⟩ := a
 by_cases hz : len = 0
 ·subst hz
  exact ⟨[], _, rfl, .sl0 _ _ _ (fun h => by cases h)⟩
 have hs : s = none := by
  have := World.cell?_spot (hq 0 (by omega) 0 (by decide))
  simpa [Addr.add] using this
 subst hs
 have hcell : ∀ i j, i < len → j < 4 → W.cell? ⟨b, o + i * 4 + j, none⟩ = some ((q i).v j) := fun i j hi hj => by
  have := hq i hi j hj
  rwa [add_plain, add_plain] at this
 have hb : b < W.heap.size := cell_lt (hcell 0 0 (by omega) (by decide))
 refine ⟨(List.range len).map q, _, rfl, ?_⟩
 have key := DRel.sl (w := W) (RO := fun k => k < W.heap.size) (((List.range len).map q).map Ps.l) false b o cap 4 (fun i j => (q i).v j) hb (by simpa using hl) (fun h => by cases h) (rows_len _)
  (fun i j el d h1 h2 => by
   have hi : i < len := by
    have := (List.getElem?_eq_some_iff.1 h1).1
    simpa using this
   have hel := rows_len ((List.range len).map q) el (List.mem_of_getElem? h1)
   have hj : j < 4 := by
    have := (List.getElem?_eq_some_iff.1 h2).1
    omega
   exact hcell i j hi hj)
  (fun i j el d h1 h2 => by
   have hi : i < len := by
    have := (List.getElem?_eq_some_iff.1 h1).1
    simpa using this
   have he : el = (q i).l := by
    simp [hi] at h1
    exact h1.symm
   subst he
   match j, h2 with
   | 0, h2 => cases h2; exact .int _ _
   | 1, h2 => cases h2; exact .int _ _
   | 2, h2 => cases h2; exact .int _ _
   | 3, h2 => cases h2; exact .int _ _
   | j + 4, h2 => simp [Ps.l] at h2)
 have e : (((List.range len).map q).map Ps.l).length = len := by simp
 rw [e] at key
 exact key
theorem st_open {v : Value} {d : DataW H} {ps : List MemPlace} (hval : ∃ cs, v = .agg cs) (h : DataW.Trod enc Pr W 0 spare held 24 v d ps) : ∃ (w : Int) (l : List Ps), DRel W (fun k => k < W.heap.size) (stD w l false) v := by
 obtain ⟨cs, rfl⟩ := hval
 obtain ⟨fuel, hf⟩ := h
 obtain ⟨y0, y1, n, _, hl, h0, h1⟩ := trod_struct2 Tryz.underlying24 hf
 have c24 : Pr.cellsOf 24 = 2 := by kernel_rfl
 have c3 : Pr.cellsOf 3 = 1 := by kernel_rfl
 have c22 : Pr.cellsOf 22 = 1 := by kernel_rfl
 rw [c24] at hl
 obtain ⟨l0⟩ := cs
 have hl : l0.length = 2 := hl
 obtain ⟨a, b, rfl⟩ := list2 hl
 have h0 : DataW.trod enc Pr W 0 spare held n 3 (([a, b].drop 0).take (Pr.cellsOf 3)) = some y0 := h0
 have h1 : DataW.trod enc Pr W 0 spare held n 22 (([a, b].drop 1).take (Pr.cellsOf 22)) = some y1 := h1
 rw [c3] at h0
 rw [c22] at h1
 have h0 : DataW.trod enc Pr W 0 spare held n 3 [a] = some y0 := h0
 have h1 : DataW.trod enc Pr W 0 spare held n 22 [b] = some y1 := h1
 obtain ⟨w, e, _⟩ := DataW.trod_int Tryz.underlying3 h0
 obtain ⟨l, u, e2, hd⟩ := rows_open h1
 cases e; cases e2
 refine ⟨w, l, .agg _ _ rfl fun i d hi => ?_⟩
 match i, hi with
 | 0, hi => cases hi; exact .int _ _
 | 1, hi => cases hi; exact hd
 | i + 2, hi => simp at hi
end Go.Tz
namespace Go.Tz
open Go Go.AL Go.Proofs Go.ChangeShapes Go.WideShapes Go.ChangeAt Go.RowKit Go.Deep
variable {H : Type} {enc : TypeId × Value → H} {W : World} {spare : Nat → Bool} {held : Bool}
abbrev laid2 : List (String × DataW Unit) := [("math/bits.deBruijn32tab", YtehjjpbpdfnnfaaGreatDoor.Rows.laid_math_bits_deBruijn32tab), ("math/bits.deBruijn64tab", YtehjjpbpdfnnfaaGreatDoor.Rows.laid_math_bits_deBruijn64tab)]
theorem g1 : Pr.globalNamed "math/bits.deBruijn32tab" = some 1 := by kernel_rfl
theorem g2 : Pr.globalNamed "math/bits.deBruijn64tab" = some 2 := by kernel_rfl
theorem ints_arr {t N : Nat} {fuel : Nat} {cs : List Value} {x : DataW H × List MemPlace} {ks : List Int} (ht : Pr.underlying t = some (.array N 5)) (h : DataW.trod enc Pr W 0 spare held fuel t cs = some x) (hx : x.1 = .agg (ks.map fun k : Int => DataW.lit (Lit.int .u8 k))) :
  ∀ (j : Nat) (k : Int), ks[j]? = some k → cs[j]? = some (Value.int .u8 k) := by
 obtain ⟨xs, m, _, rfl, hl, hn, hel⟩ := DataW.trod_array ht h
 have c5 : Pr.cellsOf 5 = 1 := by kernel_rfl
 have u5 : Pr.underlying 5 = some (.int .u8) := by kernel_rfl
 intro j k hk
 have hxe : xs.map (·.1) = ks.map fun k => DataW.lit (Lit.int .u8 k) := by
  simpa using hx
 have hj : j < xs.length := by
  have h1 := (List.getElem?_eq_some_iff.1 hk).1
  have h2 := congrArg List.length hxe
  simp at h2; omega
 have h0 := hel j (by omega)
 rw [c5, Nat.mul_one, List.getElem?_eq_getElem hj] at h0
 obtain ⟨n, e1, e2, _⟩ := DataW.trod_int u5 h0
 have h3 : (xs[j]).1 = DataW.lit (Lit.int .u8 k) := by
  have := congrArg (fun l => l[j]?) hxe
  simp only [List.getElem?_map, List.getElem?_eq_getElem hj, hk, Option.map_some] at this
  exact Option.some.inj this
 rw [e2] at h3
 have hnk : n = k := by cases h3; rfl
 subst hnk
 have h4 := congrArg (fun l : List Value => l[0]?) e1
 simp only [List.getElem?_take, List.getElem?_drop] at h4
 simpa using h4
def k32 : List Int := tab32.map fun d => match d with
 | .int _ n => n
 | _ => 0
def k64 : List Int := tab64.map fun d => match d with
 | .int _ n => n
 | _ => 0
theorem d32 : (YtehjjpbpdfnnfaaGreatDoor.Rows.laid_math_bits_deBruijn32tab : DataW H) = .agg (k32.map fun k : Int => DataW.lit (Lit.int .u8 k)) := rfl
theorem d64 : (YtehjjpbpdfnnfaaGreatDoor.Rows.laid_math_bits_deBruijn64tab : DataW H) = .agg (k64.map fun k : Int => DataW.lit (Lit.int .u8 k)) := rfl
theorem rop_of {RO : Nat → Prop} {g : Nat} (hg : RO g) {ks : List Int} (h : ∀ (j : Nat) (k : Int), ks[j]? = some k → W.cell? ⟨g, j, none⟩ = some (Value.int .u8 k)) : DRel W RO (.rop (ks.map fun k => .int .u8 k) 0) (.pointer (some ⟨g, 0, none⟩)) := by
 have := DRel.rop (w := W) (RO := RO) (ks.map fun k => D.int .u8 k) 0 g 0 (fun j => .int .u8 (ks.getD j 0)) hg (fun j d hd => by
  rw [List.getElem?_map, Option.map_eq_some_iff] at hd
  obtain ⟨k, hk, rfl⟩ := hd
  rw [Nat.zero_add, h j k hk, List.getD_eq_getElem?_getD, hk]; rfl) (fun j d hd => by
  rw [List.getElem?_map, Option.map_eq_some_iff] at hd
  obtain ⟨k, hk, rfl⟩ := hd
  rw [List.getD_eq_getElem?_getD, hk]
  exact .int _ _)
 exact this
theorem glob_of (h : laidMetH Pr laid2 W) : ∀ g ds, GG g = some ds → DRel W (fun k => k < W.heap.size) (.rop ds 0) (.pointer (some ⟨g, 0, none⟩)) := by
 rw [MakeChecks.laidMetH_plain _ _ _ (by kernel_rfl)] at h
 obtain ⟨ps, ⟨g0, t0, cs0, f0, p0, q0, hg0, ht0, hv0, hd0, ⟨h1g, h1t, cs1, f1, p1, q1, hg1, ht1, hv1, hd1, _, _⟩, _⟩, _, _⟩ := h
 obtain rfl := Option.some.inj (g1.symm.trans hg0)
 obtain rfl := Option.some.inj (g2.symm.trans hg1)
 have u1 : (Pr.globals[1]?).map (·.type) = some 312 := by kernel_rfl
 have u2 : (Pr.globals[2]?).map (·.type) = some 313 := by kernel_rfl
 have v1 : Pr.underlying 312 = some (.array 32 5) := by kernel_rfl
 have v2 : Pr.underlying 313 = some (.array 64 5) := by kernel_rfl
 have w1 : (312 : Nat) = t0 := Option.some.inj (u1.symm.trans ht0)
 have w2 : (313 : Nat) = h1t := Option.some.inj (u2.symm.trans ht1)
 rw [w1] at v1
 rw [w2] at v2
 have c0 := ints_arr (ks := k32) v1 hd0 d32
 have c1 := ints_arr (ks := k64) v2 hd1 d64
 have e0 : ∀ (j : Nat) (k : Int), k32[j]? = some k → W.cell? ⟨1, j, none⟩ = some (Value.int .u8 k) := fun j k hk => by
  rw [World.var?_cell hg0 hv0 j]
  have := c0 j k hk
  rwa [Array.getElem?_toList] at this
 have e1 : ∀ (j : Nat) (k : Int), k64[j]? = some k → W.cell? ⟨2, j, none⟩ = some (Value.int .u8 k) := fun j k hk => by
  rw [World.var?_cell hg1 hv1 j]
  have := c1 j k hk
  rwa [Array.getElem?_toList] at this
 have r1 := rop_of (RO := fun k => k < W.heap.size) (cell_lt (e0 0 0 rfl)) e0
 have r2 := rop_of (RO := fun k => k < W.heap.size) (cell_lt (e1 0 0 rfl)) e1
 intro g ds hg
 unfold GG at hg
 split at hg
 ·rename_i e
  obtain rfl := Nat.eq_of_beq_eq_true e
  cases hg
  exact r1
 ·split at hg
  ·rename_i e
   obtain rfl := Nat.eq_of_beq_eq_true e
   cases hg
   exact r2
  ·cases hg
end Go.Tz
