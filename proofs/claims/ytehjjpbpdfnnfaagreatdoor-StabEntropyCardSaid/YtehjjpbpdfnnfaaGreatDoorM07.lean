import Derived.Test.YtehjjpbpdfnnfaaGreatDoorM06
import Derived.Shelf.Spec.SlicesInsert
import Derived.Shelf.Spec.SlicesInsertGrow
namespace Go.Tz
open Go Go.AL Go.Proofs Go.Shelf
def rnI : Ren := ⟨fun n => match n with
 | 21 => 146
 | 27 => 216
 | 28 => 217
 | 35 => 260
 | 39 => 273
 | n => n, fun n => match n with
 | 22 => 42
 | n => n, fun n => n⟩
theorem lays21 : Lays2.n21 Pr rnI where
 mixed := by kernel_rfl
 f21 := by kernel_rfl
 f27 := by kernel_rfl
 f28 := by kernel_rfl
 f35 := by kernel_rfl
 f39 := by kernel_rfl
 t0 := by kernel_rfl
 a0 := fun _ => by kernel_rfl
 z0 := fun _ => by kernel_rfl
 v0 := fun _ => by kernel_rfl
 t3 := by kernel_rfl
 a3 := fun _ => by kernel_rfl
 z3 := fun _ => by kernel_rfl
 v3 := fun _ => by kernel_rfl
 t4 := by kernel_rfl
 a4 := fun _ => by kernel_rfl
 z4 := fun _ => by kernel_rfl
 v4 := fun _ => by kernel_rfl
 t22 := by kernel_rfl
 a22 := fun _ => by kernel_rfl
 z22 := fun _ => by kernel_rfl
 v22 := fun _ => by kernel_rfl
 i3 := by kernel_rfl
end Go.Tz
namespace Go.AL
open Go
variable {G : Nat → Option (List D)}
structure Chg (w w' : World) (k : Nat) (cs cs' : Array Value) : Prop where
 os : w'.os = w.os
 tape : w'.tape = w.tape
 output : w'.output = w.output
 size : w'.heap.size = w.heap.size
 other : ∀ j, j ≠ k → w'.heap[j]? = w.heap[j]?
 at_ : ∃ e, w.heap[k]? = some (.cells cs e (0, 0)) ∧ w'.heap[k]? = some (.cells cs' e (0, 0))
 csz : cs'.size = cs.size
theorem Chg.trans {w w' w'' : World} {k : Nat} {cs cs' cs'' : Array Value} (h : Chg w w' k cs cs') (h2 : Chg w' w'' k cs' cs'') : Chg w w'' k cs cs'' := by
 refine ⟨h2.os.trans h.os, h2.tape.trans h.tape, h2.output.trans h.output, h2.size.trans h.size, fun j hj => (h2.other j hj).trans (h.other j hj), ?_, h2.csz.trans h.csz⟩
 obtain ⟨e, a, b⟩ := h.at_
 obtain ⟨e', a', b'⟩ := h2.at_
 rw [b] at a'
 cases a'
 exact ⟨e, a, b'⟩
theorem chg_refl {w : World} {k : Nat} {cs : Array Value} {e : TypeId} (h : w.heap[k]? = some (.cells cs e (0, 0))) : Chg w w k cs cs := ⟨rfl, rfl, rfl, rfl, fun _ _ => rfl, ⟨e, h, h⟩, rfl⟩
theorem chg_drew {w : World} {k : Nat} {cs : Array Value} {e : TypeId} (h : w.heap[k]? = some (.cells cs e (0, 0))) : Chg w w.drew k cs cs := ⟨rfl, rfl, rfl, rfl, fun _ _ => rfl, ⟨e, h, h⟩, rfl⟩
theorem chg_cell {w : World} {k o : Nat} {v : Value} {cs : Array Value} {e : TypeId} (h : w.heap[k]? = some (.cells cs e (0, 0))) : Chg w (w.setCell ⟨k, o, none⟩ v) k cs (cs.setIfInBounds o v) := by
 refine ⟨rfl, rfl, rfl, by simp [World.setCell], fun j hj => ?_, ⟨e, h, ?_⟩, by simp⟩
 ·simp only [World.setCell, Array.getElem?_modify]
  rw [if_neg (Ne.symm hj)]
 ·simp only [World.setCell, Array.getElem?_modify, if_pos, h]
  rfl
def setL (cs : Array Value) : Nat → List Value → Array Value
 | _, [] => cs
 | o, v :: r => setL (cs.setIfInBounds o v) (o + 1) r
theorem chg_cells {k : Nat} {e : TypeId} : ∀ (vs : List Value) (o : Nat) (w : World) (cs : Array Value), w.heap[k]? = some (.cells cs e (0, 0)) → Chg w (w.setCells k o vs) k cs (setL cs o vs)
 | [], _, _, _, h => chg_refl h
 | v :: r, o, w, cs, h => by
  have h1 := chg_cell (o := o) (v := v) h
  obtain ⟨e', a, b⟩ := h1.at_
  rw [h] at a; cases a
  exact h1.trans (chg_cells r (o + 1) _ _ b)
theorem setL_size : ∀ (vs : List Value) (o : Nat) (cs : Array Value), (setL cs o vs).size = cs.size
 | [], _, _ => rfl
 | v :: r, o, cs => by unfold setL; rw [setL_size r]; simp
theorem setL_get : ∀ (vs : List Value) (o : Nat) (cs : Array Value) (q : Nat), o + vs.length ≤ cs.size → (setL cs o vs)[q]? = if o ≤ q ∧ q < o + vs.length then vs[q - o]? else cs[q]?
 | [], o, cs, q, _ => by
  unfold setL
  rw [if_neg (fun h => Nat.lt_irrefl _ (Nat.lt_of_le_of_lt h.1 (by simpa using h.2)))]
 | v :: r, o, cs, q, h => by
  simp only [List.length_cons] at h
  unfold setL
  rw [setL_get r (o + 1) _ q (by simp; omega)]
  simp only [List.length_cons]
  by_cases e : q = o
  ·subst e
   rw [if_neg (by omega), if_pos (by omega), Nat.sub_self]
   simp [show q < cs.size by omega]
  ·by_cases c : o + 1 ≤ q ∧ q < o + 1 + r.length
   ·rw [if_pos c, if_pos (by omega)]
    obtain ⟨d, hd⟩ : ∃ d, q - o = d + 1 := ⟨q - o - 1, by omega⟩
    rw [hd, List.getElem?_cons_succ]
    congr 1; omega
   ·rw [if_neg c, if_neg (by omega)]
    rw [Array.getElem?_setIfInBounds, if_neg (Ne.symm e)]
theorem renew {C : Ctx} {H : AHeap} {nm nm' k S : Nat} {els els' : List (List AV)} {w' : World} {cs cs' : Array Value} (hH : HRel G C H) (hg : H.get nm = some (.arr S els)) (hb : C.β nm = some k) (hn : ¬ C.U nm')
  (hc : Chg C.w w' k cs cs') (hro : ¬ C.RO k) (hall : ∀ el, el ∈ els' → el.length = S) (hv : ∀ (q : Nat) (v : AV), els'.flatten[q]? = some v → ∃ x : Value, cs'[q]? = some x ∧ ∀ C'' : Ctx, VRel C'' v x) :
  ∃ C' : Ctx, C'.w = w' ∧ C'.β nm' = some k ∧ C'.U nm' ∧ HRel G C' ((nm', some (.arr S els')) :: (nm, none) :: H) ∧ Tr C.U C H C' ((nm', some (.arr S els')) :: (nm, none) :: H) ∧ ∀ n, C'.U n → C.U n ∨ n = nm' := by
 obtain ⟨e, at1, at2⟩ := hc.at_
 let C' : Ctx := { U := fun n => C.U n ∨ n = nm', β := fun n => if n = nm' then some k else C.β n, RO := C.RO, w := w' }
 have hb' : C'.β nm' = some k := by simp [C']
 have hβ : ∀ n, n ≠ nm' → C'.β n = C.β n := fun n h => by simp [C', h]
 have himg : ∀ n b k', AHeap.get ((nm', some (.arr S els')) :: (nm, none) :: H) n = some b → C'.β n = some k' → k' < C.w.heap.size → ∃ n0 b0, H.get n0 = some b0 ∧ C.β n0 = some k' := by
  intro n b k' a1 a2 _
  by_cases en : n = nm'
  ·subst en; rw [hb'] at a2; cases a2; exact ⟨nm, _, hg, hb⟩
  ·rw [get_cons_ne _ _ en] at a1
   rw [hβ n en] at a2
   exact ⟨n, b, (get_drop a1).2, a2⟩
 have htr : Tr C.U C H C' ((nm', some (.arr S els')) :: (nm, none) :: H) := {
  os := hc.os, tape := hc.tape, output := hc.output, size := by show C.w.heap.size ≤ w'.heap.size; rw [hc.size]; exact Nat.le_refl _
  shape := fun j A t fz' hA => by
   by_cases hj : j = k
   ·subst hj; rw [at1] at hA; cases hA; exact ⟨cs', (0, 0), at2, hc.csz⟩
   ·exact ⟨A, fz', (hc.other j hj).trans hA, rfl⟩
  frame := fun j hj hnn => hc.other j fun ej => hnn nm _ hg (by rw [hb, ej])
  names := fun n h => ⟨.inl h, hβ n (fun en => hn (en ▸ h))⟩
  ros := fun j h => h
  img := himg
  rob := fun _ h _ => .inl h }
 have hbr : BRel C' nm' (.arr S els') := brel_arr_mk hb' at2 hro hall fun q v hq => by
  obtain ⟨x, h1, h2⟩ := hv q v hq
  exact ⟨x, h1, h2 C'⟩
 refine ⟨C', rfl, hb', .inr rfl, ⟨?_, ?_, ?_, ?_⟩, htr, fun n h => h⟩
 ·intro n b hgn
  by_cases en : n = nm'
  ·subst en; rw [get_cons_same] at hgn; cases hgn; exact ⟨.inr rfl, hbr⟩
  ·rw [get_cons_ne _ _ en] at hgn
   obtain ⟨en2, hgn⟩ := get_drop hgn
   obtain ⟨hU2, hB2⟩ := hH.blk n b hgn
   refine ⟨.inl hU2, brel_later hH htr hU2 hB2 fun j hj => ⟨hc.other j (fun ej => en2 ?_), fun hro2 => hH.ro_apart hro2 n b hgn hj⟩⟩
   exact hH.inj n nm b _ k hgn hg (ej ▸ hj) hb
 ·intro n n' b1 b2 j a1 a2 e1 e2
  have old : ∀ n b, AHeap.get ((nm', some (.arr S els')) :: (nm, none) :: H) n = some b → n ≠ nm' → n ≠ nm ∧ H.get n = some b := fun n b h en => by
   rw [get_cons_ne _ _ en] at h; exact get_drop h
  by_cases en : n = nm'
  ·by_cases en' : n' = nm'
   ·rw [en, en']
   ·obtain ⟨f1, f2⟩ := old n' b2 a2 en'
    rw [hβ n' en'] at e2
    rw [en, hb'] at e1; cases e1
    exact absurd (hH.inj n' nm b2 _ k f2 hg e2 hb) f1
  ·obtain ⟨f1, f2⟩ := old n b1 a1 en
   rw [hβ n en] at e1
   by_cases en' : n' = nm'
   ·rw [en', hb'] at e2; cases e2
    exact absurd (hH.inj n nm b1 _ k f2 hg e1 hb) f1
   ·obtain ⟨f3, f4⟩ := old n' b2 a2 en'
    rw [hβ n' en'] at e2
    exact hH.inj n n' b1 b2 j f2 f4 e1 e2
 ·intro j hj
  have := hH.ro j hj
  show j < w'.heap.size
  rw [hc.size]; exact this
 ·intro g ds hgd; exact (hH.glob g ds hgd).later htr hH
structure Nw (w w' : World) (cs' : Array Value) : Prop where
 os : w'.os = w.os
 tape : w'.tape = w.tape
 output : w'.output = w.output
 size : w'.heap.size = w.heap.size + 1
 old : ∀ j, j < w.heap.size → w'.heap[j]? = w.heap[j]?
 at_ : ∃ e, w'.heap[w.heap.size]? = some (.cells cs' e (0, 0))
theorem nw_alloc (w : World) (cs : Array Value) (e : TypeId) : Nw w (w.alloc (.cells cs e)) cs := by
 refine ⟨rfl, rfl, rfl, by simp, fun j hj => ?_, ⟨e, ?_⟩⟩
 ·show (w.heap.push _)[j]? = _
  rw [Array.getElem?_push, if_neg (by omega)]
 ·show (w.heap.push _)[w.heap.size]? = _
  simp
theorem nw_drew {w w' : World} {cs : Array Value} (h : Nw w.drew w' cs) : Nw w w' cs := ⟨h.os, h.tape, h.output, h.size, h.old, h.at_⟩
theorem Nw.chg {w w' w'' : World} {cs cs' : Array Value} (h : Nw w w' cs) (h2 : Chg w' w'' w.heap.size cs cs') : Nw w w'' cs' := by
 obtain ⟨e, _, b⟩ := h2.at_
 exact ⟨h2.os.trans h.os, h2.tape.trans h.tape, h2.output.trans h.output, h2.size.trans h.size, fun j hj => (h2.other j (by omega)).trans (h.old j hj), ⟨e, b⟩⟩
theorem made2 {C : Ctx} {H : AHeap} {nm' S : Nat} {els' : List (List AV)} {w' : World} {cs' : Array Value} (hH : HRel G C H) (hn : ¬ C.U nm')
  (hc : Nw C.w w' cs') (hall : ∀ el, el ∈ els' → el.length = S) (hv : ∀ (q : Nat) (v : AV), els'.flatten[q]? = some v → ∃ x : Value, cs'[q]? = some x ∧ ∀ C'' : Ctx, VRel C'' v x) :
  ∃ C' : Ctx, C'.w = w' ∧ C'.β nm' = some C.w.heap.size ∧ C'.U nm' ∧ HRel G C' ((nm', some (.arr S els')) :: H) ∧ Tr C.U C H C' ((nm', some (.arr S els')) :: H) ∧ ∀ n, C'.U n → C.U n ∨ n = nm' := by
 obtain ⟨e, at2⟩ := hc.at_
 let C' : Ctx := { U := fun n => C.U n ∨ n = nm', β := fun n => if n = nm' then some C.w.heap.size else C.β n, RO := C.RO, w := w' }
 have hb' : C'.β nm' = some C.w.heap.size := by simp [C']
 have hβ : ∀ n, n ≠ nm' → C'.β n = C.β n := fun n h => by simp [C', h]
 have htr : Tr C.U C H C' ((nm', some (.arr S els')) :: H) := {
  os := hc.os, tape := hc.tape, output := hc.output, size := by show C.w.heap.size ≤ w'.heap.size; rw [hc.size]; omega
  shape := fun j A t fz' hA => ⟨A, fz', (hc.old j (heap_lt hA)).trans hA, rfl⟩
  frame := fun j hj _ => hc.old j hj
  names := fun n h => ⟨.inl h, hβ n (fun en => hn (en ▸ h))⟩
  ros := fun j h => h
  img := fun n b k' a1 a2 h3 => by
   by_cases en : n = nm'
   ·subst en; rw [hb'] at a2; cases a2; omega
   ·rw [get_cons_ne _ _ en] at a1
    rw [hβ n en] at a2
    exact ⟨n, b, a1, a2⟩
  rob := fun _ h _ => .inl h }
 have hro : ¬ C'.RO C.w.heap.size := fun h => by
  have := hH.ro _ h
  omega
 have hbr : BRel C' nm' (.arr S els') := brel_arr_mk hb' at2 hro hall fun q v hq => by
  obtain ⟨x, h1, h2⟩ := hv q v hq
  exact ⟨x, h1, h2 C'⟩
 have fresh : ∀ n b, H.get n = some b → C.β n ≠ some C.w.heap.size := fun n b h e => by
  have := brel_lt (hH.blk n b h).2 e
  omega
 refine ⟨C', rfl, hb', .inr rfl, ⟨?_, ?_, ?_, ?_⟩, htr, fun n h => h⟩
 ·intro n b hgn
  by_cases en : n = nm'
  ·subst en; rw [get_cons_same] at hgn; cases hgn; exact ⟨.inr rfl, hbr⟩
  ·rw [get_cons_ne _ _ en] at hgn
   obtain ⟨hU2, hB2⟩ := hH.blk n b hgn
   exact ⟨.inl hU2, brel_later hH htr hU2 hB2 fun j hj => ⟨hc.old j (brel_lt hB2 hj), fun hro2 => hH.ro_apart hro2 n b hgn hj⟩⟩
 ·intro n n' b1 b2 j a1 a2 e1 e2
  by_cases en : n = nm'
  ·by_cases en' : n' = nm'
   ·rw [en, en']
   ·rw [get_cons_ne _ _ en'] at a2
    rw [hβ n' en'] at e2
    rw [en, hb'] at e1; cases e1
    exact absurd e2 (fresh n' b2 a2)
  ·rw [get_cons_ne _ _ en] at a1
   rw [hβ n en] at e1
   by_cases en' : n' = nm'
   ·rw [en', hb'] at e2; cases e2
    exact absurd e1 (fresh n b1 a1)
   ·rw [get_cons_ne _ _ en'] at a2
    rw [hβ n' en'] at e2
    exact hH.inj n n' b1 b2 j a1 a2 e1 e2
 ·intro j hj
  have := hH.ro j hj
  show j < w'.heap.size
  rw [hc.size]; omega
 ·intro g ds hgd; exact (hH.glob g ds hgd).later htr hH
end Go.AL
namespace Go.Tz
open Go Go.AL Go.Proofs Go.Shelf
variable {G : Nat → Option (List D)}
abbrev numsB (l : List Int) : Blk := dblk 1 (l.map fun x => [iD x])
theorem numsB_flat (l : List Int) : ((l.map fun x => [iD x]).map fun el => el.map AV.d).flatten = l.map fun x => AV.d (iD x) := by
 induction l with
 | nil => rfl
 | cons a l ih => simp only [List.map_cons, List.flatten_cons, ih]; rfl
theorem numsB_len (l : List Int) : ∀ el, el ∈ (l.map fun x => [iD x]).map (fun el => el.map AV.d) → el.length = 1 := by
 intro el h
 obtain ⟨y, hy, rfl⟩ := List.mem_map.1 h
 obtain ⟨x, _, rfl⟩ := List.mem_map.1 hy
 rfl
theorem vrel_int {C : Ctx} {i : Int} {x : Value} (h : VRel C (.d (iD i)) x) : x = .int .i64 i := by
 have := vrel_d h
 cases this
 rfl
theorem int_vrel (C : Ctx) (i : Int) : VRel C (.d (iD i)) (.int .i64 i) := .d _ _ (.int _ _)
def insL (l : List Int) (i : Nat) (x : Int) : List Int := l.take i ++ x :: l.drop i
theorem insL_len {l : List Int} {i : Nat} {x : Int} (h : i ≤ l.length) : (insL l i x).length = l.length + 1 := by
 simp [insL]; omega
theorem insL_get {l : List Int} {i : Nat} {x : Int} (h : i ≤ l.length) (q : Nat) : (insL l i x)[q]? = if q < i then l[q]? else if q = i then some x else l[q - 1]? := by
 unfold insL
 by_cases a : q < i
 ·rw [if_pos a, List.getElem?_append_left (by simp; omega), List.getElem?_take_of_lt a]
 ·rw [if_neg a, List.getElem?_append_right (by simp; omega), List.length_take, Nat.min_eq_left h]
  by_cases b : q = i
  ·rw [if_pos b, b, Nat.sub_self]; rfl
  ·rw [if_neg b]
   obtain ⟨d, hd⟩ : ∃ d, q - i = d + 1 := ⟨q - i - 1, by omega⟩
   rw [hd, List.getElem?_cons_succ, List.getElem?_drop]
   congr 1; omega
theorem chk146 : chkFn Tryz.f146 = true := by kernel_rfl
theorem isFn146 : IsFn Pr 146 := isFn_of Tryz.func146 chk146
theorem cell_of {w : World} {k : Nat} {cs : Array Value} {e : TypeId} {fz : Nat × Nat} (h : w.heap[k]? = some (.cells cs e fz)) (q : Nat) : w.cell? ⟨k, q, none⟩ = cs[q]? := by
 unfold World.cell?; rw [h]; rfl
theorem frozen_of {w : World} {k : Nat} {cs : Array Value} {e : TypeId} (h : w.heap[k]? = some (.cells cs e (0, 0))) (q : Nat) : w.frozen? ⟨k, q, none⟩ = false := by
 unfold World.frozen?; rw [h]; simp
theorem shape_of {w : World} {k : Nat} {cs : Array Value} {e : TypeId} {fz : Nat × Nat} (h : w.heap[k]? = some (.cells cs e fz)) : w.shape? k = some (e, cs.size) := by
 unfold World.shape?; rw [h]
theorem ints_rel {l : List Int} {cs' : Array Value} (h : ∀ (q : Nat) (v : Int), l[q]? = some v → cs'[q]? = some (.int .i64 v)) : ∀ (q : Nat) (v : AV), ((l.map fun x => [iD x]).map fun el => el.map AV.d).flatten[q]? = some v → ∃ x : Value, cs'[q]? = some x ∧ ∀ C'' : Ctx, VRel C'' v x := by
 intro q v hq
 rw [numsB_flat, List.getElem?_map] at hq
 obtain ⟨a, ha, rfl⟩ := Option.map_eq_some_iff.1 hq
 exact ⟨_, h q a ha, fun C'' => int_vrel C'' a⟩
theorem arr3 {vs : Array Value} (h : vs.size = 3) : vs = #[vs.getD 0 undef, vs.getD 1 undef, vs.getD 2 undef] := by
 apply Array.ext
 ·simpa using h
 ·intro i h1 h2
  match i, h1, h2 with
  | 0, _, _ => simp [Array.getD, h]
  | 1, _, _ => simp [Array.getD, h]
  | 2, _, _ => simp [Array.getD, h]
theorem insert146 {nm nv n0 i r : Nat} {l : List Int} (x : Int) (hi : i ≤ l.length) (hbig : l.length ≤ 1000) (hne : nm ≠ nv) (hr63 : r ≤ 9223372036854775807) :
  ACall Pr G 146 [.sl nm 1 0 l.length r true, .d (iD i), .sl nv 1 0 1 1 true] [(nm, some (numsB l)), (nv, some (.arr 1 [[.d (iD x)]]))] n0
   fun v H n => ∃ r' : Nat, l.length + 1 ≤ r' ∧ r' ≤ 9223372036854775807 ∧ v = .sl n0 1 0 (l.length + 1) r' true ∧ H = [(n0, some (numsB (insL l i x)))] ∧ n = n0 + 1 := by
 intro C vs hH hU hsz hr
 have hn : ¬ C.U n0 := fun h => Nat.lt_irrefl _ (hU n0 h)
 have r0 := hr 0 _ rfl
 have r1 := vrel_int (hr 1 _ rfl)
 have r2 := hr 2 _ rfl
 rw [arr3 (vs := vs) (by simpa using hsz), r1]
 have hgv : AHeap.get [(nm, some (numsB l)), (nv, some (.arr 1 [[.d (iD x)]]))] nv = some (.arr 1 [[.d (iD x)]]) := by rw [get_consI, if_neg (Ne.symm hne), get_consI, if_pos rfl]
 have hgm : AHeap.get [(nm, some (numsB l)), (nv, some (.arr 1 [[.d (iD x)]]))] nm = some (numsB l) := by rw [get_consI, if_pos rfl]
 rcases vrel_sl r2 with ⟨kv, cv, csv, ev, fzv, hUv, hbv, hlv, hrv, htv, hhv, hsv, hx2⟩ | ⟨_, h, _⟩
 rotate_left
 ·cases h
 obtain ⟨csv0, ev0, hhv0, hrov, _, _, hcsv⟩ := brel_flat (hH.blk nv _ hgv).2 hbv
 rw [hhv] at hhv0; cases hhv0
 have hv0 : csv[0]? = some (.int .i64 x) := by
  obtain ⟨y, h1, h2⟩ := hcsv 0 (.d (iD x)) rfl
  rw [h1, vrel_int h2]
 have hvs : ∀ j v, [Value.int .i64 x][j]? = some v → C.w.cell? ⟨kv, 0 * 1 + j, none⟩ = some v := fun j v hj => by
  match j, hj with
  | 0, hj => cases hj; rw [cell_of hhv]; exact hv0
 have h1v : ∀ v ∈ [Value.int .i64 x], v.oneCell' = true := fun v hv => by rw [List.mem_singleton.1 hv]; rfl
 have h1c : ∀ v ∈ l.map fun y => Value.int .i64 y, v.oneCell' = true := fun v hv => by
  obtain ⟨y, _, rfl⟩ := List.mem_map.1 hv; rfl
 have hnf : ∀ el, el ∈ ((insL l i x).map fun x => [iD x]).map (fun el => el.map AV.d) → el.length = 1 := numsB_len _
 have fin2 : ∀ (w' : World) (cs' : Array Value) (c' : Nat), Nw C.w w' cs' → (∀ (q : Nat) (v : Int), (insL l i x)[q]? = some v → cs'[q]? = some (.int .i64 v)) → l.length + 1 ≤ c' → c' ≤ cs'.size → c' ≤ 9223372036854775807 →
   ∃ y v H' nx' C', (Ending.returned (.slice (some ⟨C.w.heap.size, 0, none⟩) (l.length + 1) c') : Ending) = .returned y ∧ C'.w = w' ∧ (∃ r' : Nat, l.length + 1 ≤ r' ∧ r' ≤ 9223372036854775807 ∧ v = AV.sl n0 1 0 (l.length + 1) r' true ∧ H' = [(n0, some (numsB (insL l i x)))] ∧ nx' = n0 + 1) ∧ VRel C' v y ∧ HRel G C' H' ∧ (∀ m, C'.U m → m < nx') ∧ Tr C.U C [(nm, some (numsB l)), (nv, some (.arr 1 [[.d (iD x)]]))] C' H' := by
  intro w' cs' c' hc hq h1 h2 h63
  obtain ⟨C', e1, e2, e3, e4, e5, e6⟩ := made2 (S := 1) hH hn hc hnf (ints_rel hq)
  obtain ⟨e, at2⟩ := hc.at_
  refine ⟨_, _, _, _, C', rfl, e1, ⟨c', h1, h63, rfl, rfl, rfl⟩, ?_, hrel_dropS e4 ?_, fun m hm => ?_, e5.anti ?_⟩
  ·have := VRel.sl (C := C') n0 1 0 (l.length + 1) c' true C.w.heap.size c' cs' e (0, 0) e3 e2 h1 (Nat.le_refl _) (fun _ => rfl) (by rw [e1]; exact at2) (by simpa using h2)
   simpa using this
  ·intro a b hab
   rw [get_consI] at hab
   by_cases ea : a = n0
   ·rw [if_pos ea] at hab; rw [get_consI, if_pos ea]; exact hab
   ·rw [if_neg ea] at hab; cases hab
  ·rcases e6 m hm with h | h
   ·have := hU m h; omega
   ·omega
  ·intro a b hab
   rw [get_consI] at hab
   by_cases ea : a = n0
   ·rw [if_pos ea] at hab; rw [get_consI, if_pos ea]; exact hab
   ·rw [if_neg ea] at hab; cases hab
 have hxg : C.w.drew.heap.size = C.w.heap.size := rfl
 have gr := grownCap_ge C.w
 -- a new row at the end
 have endG : ∀ (base : Option Addr) (c : Nat) (ws : List Value), l.length ≤ c → c < l.length + 1 → (base = none → l.length = 0) → ws = l.map (fun y => Value.int .i64 y) → (∀ a, base = some a → ∀ j v, ws[j]? = some v → C.w.cell? (a.add j) = some v) → i = l.length →
   Calls Pr 146 #[.slice base l.length c, .int .i64 (i : Int), .slice (some ⟨kv, 0 * 1, none⟩) 1 cv] C.w fun e w' => ∃ y v H' nx' C', e = .returned y ∧ C'.w = w' ∧ (∃ r' : Nat, l.length + 1 ≤ r' ∧ r' ≤ 9223372036854775807 ∧ v = AV.sl n0 1 0 (l.length + 1) r' true ∧ H' = [(n0, some (numsB (insL l i x)))] ∧ nx' = n0 + 1) ∧ VRel C' v y ∧ HRel G C' H' ∧ (∀ m, C'.U m → m < nx') ∧ Tr C.U C [(nm, some (numsB l)), (nv, some (.arr 1 [[.d (iD x)]]))] C' H' := by
  intro base c ws h1 h2 h3 h4 h5 hil
  subst hil
  refine (Any2.slices_Insert_int_end_grow lays21 base l.length c kv (0 * 1) 1 cv ws [.int .i64 x] C.w (by decide) h1 h2 (by omega) (by rw [h4]; simp) rfl h3 h5 hvs h1v).mono ?_
  rintro e w' ⟨rfl, rfl⟩
  have hg2 := gr (l.length + 1) c (rnI.t 3)
  have hg3 := grownCap_le_maxLen C.w (l.length + 1) c (rnI.t 3) (by unfold maxLen; omega)
  generalize grownCap C.w (l.length + 1) c (rnI.t 3) = cap at hg2 hg3 ⊢
  refine fin2 _ _ cap (nw_drew (nw_alloc C.w.drew _ _)) (fun q v hq => ?_) hg2 ?_ ?_
  ·rw [insL_get (Nat.le_refl _)] at hq
   by_cases a : q < l.length
   ·rw [if_pos a] at hq
    rw [Array.getElem?_append_left (by simp [h4]; omega)]
    rw [h4]
    simp only [List.getElem?_toArray]
    rw [List.getElem?_append_left (by simpa using a), List.getElem?_map, hq]; rfl
   ·rw [if_neg a] at hq
    by_cases b : q = l.length
    ·rw [if_pos b] at hq
     cases hq
     rw [Array.getElem?_append_left (by simp [h4]; omega), h4]
     simp only [List.getElem?_toArray]
     rw [List.getElem?_append_right (by simp; omega), b]
     simp
    ·rw [if_neg b, List.getElem?_eq_none (show l.length ≤ q - 1 by omega)] at hq
     cases hq
  ·simp [h4, Builtin.zeroCells, Value.cells]; omega
  ·unfold maxLen at hg3; omega
 rcases vrel_sl r0 with ⟨k, c, cs, e, fz, hUk, hb, hl, hr0, ht, hh, hs, hx0⟩ | ⟨hUk, hl0, hr0, a0, hx0⟩
 rotate_left
 ·-- the nil slice
  have hl1 : l = [] := List.eq_nil_of_length_eq_zero hl0
  have hi0 : i = l.length := by omega
  have := endG a0 0 [] (by omega) (by omega) (fun _ => hl0) (by rw [hl1]; rfl) (fun a _ j v hj => by simp at hj) hi0
  have e0 : Value.slice a0 0 0 = .slice a0 l.length 0 := by rw [hl0]
  rw [hx0, e0, hx2]
  exact this
 obtain ⟨cs0, e0, hh0, hro, hsz, hcl, hcs⟩ := brel_flat (hH.blk nm _ hgm).2 hb
 rw [hh] at hh0; cases hh0
 have hq0 : ∀ (q : Nat) (v : Int), l[q]? = some v → cs[q]? = some (.int .i64 v) := fun q v hq => by
  obtain ⟨y, h1, h2⟩ := hcs q (.d (iD v)) (by rw [numsB_flat, List.getElem?_map, hq]; rfl)
  rw [h1, vrel_int h2]
 have hcsv' : ∀ j v, (l.map fun y => Value.int .i64 y)[j]? = some v → C.w.cell? ⟨k, 0 * 1 + j, none⟩ = some v := fun j v hj => by
  rw [cell_of hh]
  rw [List.getElem?_map] at hj
  obtain ⟨a, ha, rfl⟩ := Option.map_eq_some_iff.1 hj
  simpa using hq0 j a ha
 have hkk : kv ≠ k := fun e => hne ((hH.inj nv nm _ _ k hgv hgm (by rw [hbv, e]) hb).symm)
 have hsize : c ≤ cs.size := by simpa using hs
 have hc63 : c ≤ 9223372036854775807 := by rw [ht rfl]; exact hr63
 have fin1 : ∀ (w' : World) (cs' : Array Value), Chg C.w w' k cs cs' → (∀ (q : Nat) (v : Int), (insL l i x)[q]? = some v → cs'[q]? = some (.int .i64 v)) → l.length + 1 ≤ c →
   ∃ y v H' nx' C', (Ending.returned (.slice (some ⟨k, 0 * 1, none⟩) (l.length + 1) c) : Ending) = .returned y ∧ C'.w = w' ∧ (∃ r' : Nat, l.length + 1 ≤ r' ∧ r' ≤ 9223372036854775807 ∧ v = AV.sl n0 1 0 (l.length + 1) r' true ∧ H' = [(n0, some (numsB (insL l i x)))] ∧ nx' = n0 + 1) ∧ VRel C' v y ∧ HRel G C' H' ∧ (∀ m, C'.U m → m < nx') ∧ Tr C.U C [(nm, some (numsB l)), (nv, some (.arr 1 [[.d (iD x)]]))] C' H' := by
  intro w' cs' hc hq h1
  obtain ⟨C', e1, e2, e3, e4, e5, e6⟩ := renew (S := 1) hH hgm hb hn hc hro hnf (ints_rel hq)
  obtain ⟨e, _, at2⟩ := hc.at_
  refine ⟨_, _, _, _, C', rfl, e1, ⟨c, h1, hc63, rfl, rfl, rfl⟩, ?_, hrel_dropS e4 ?_, fun m hm => ?_, e5.anti ?_⟩
  ·have := VRel.sl (C := C') n0 1 0 (l.length + 1) c true k c cs' e (0, 0) e3 e2 h1 (Nat.le_refl _) (fun _ => rfl) (by rw [e1]; exact at2) (by rw [hc.csz]; simpa using hsize)
   simpa using this
  ·intro a b hab
   rw [get_consI] at hab
   by_cases ea : a = n0
   ·rw [if_pos ea] at hab; rw [get_consI, if_pos ea]; exact hab
   ·rw [if_neg ea] at hab; cases hab
  ·rcases e6 m hm with h | h
   ·have := hU m h; omega
   ·omega
  ·intro a b hab
   rw [get_consI] at hab
   by_cases ea : a = n0
   ·rw [if_pos ea] at hab; rw [get_consI, if_pos ea]; exact hab
   ·rw [if_neg ea] at hab; cases hab
 rw [hx0, hx2]
 have hcell : ∀ q, q < c → (C.w.cell? ⟨k, q, none⟩).isSome = true := fun q hq => by
  rw [cell_of hh]; simp; omega
 by_cases hroom : l.length + 1 ≤ c
 ·by_cases hil : i = l.length
  ·subst hil
   refine (Any2.slices_Insert_int_end_room lays21 k (0 * 1) l.length c kv (0 * 1) 1 cv [.int .i64 x] C.w (by decide) hroom hc63 rfl (fun j hj => hcell _ (by omega)) (fun j hj => frozen_of hh _) hvs h1v).mono ?_
   rintro e w' ⟨rfl, rfl⟩
   refine fin1 _ _ (chg_cells _ _ _ _ hh) (fun q v hq => ?_) hroom
   rw [setL_get _ _ _ _ (by simp; omega)]
   rw [insL_get (Nat.le_refl _)] at hq
   by_cases a : q < l.length
   ·rw [if_pos a] at hq
    rw [if_neg (by omega)]; exact hq0 q v hq
   ·rw [if_neg a] at hq
    by_cases b : q = l.length
    ·rw [if_pos b] at hq
     cases hq
     rw [if_pos (by simp; omega), b]; simp
    ·rw [if_neg b, List.getElem?_eq_none (show l.length ≤ q - 1 by omega)] at hq
     cases hq
  ·refine (Any2.slices_Insert_int_shift lays21 k (0 * 1) l.length c i kv (0 * 1) 1 cv (l.map fun y => Value.int .i64 y) [.int .i64 x] C.w (by omega) (by decide) hroom hc63 hkk (by simp) rfl hcsv' (fun j hj => hcell _ (by omega)) (fun j hj => frozen_of hh _) hvs h1c h1v _ _ _ _ (shape_of hhv) (shape_of hh) (by omega) (frozen_of hhv _) (frozen_of hhv _)).mono ?_
   rintro e w' ⟨rfl, rfl⟩
   have h1 := (chg_drew hh).trans (chg_cells ((l.map fun y => Value.int .i64 y).drop i) (0 * 1 + (i + 1)) C.w.drew cs hh)
   obtain ⟨e', _, at2⟩ := h1.at_
   refine fin1 _ _ (h1.trans (chg_cells [.int .i64 x] (0 * 1 + i) _ _ at2)) (fun q v hq => ?_) hroom
   rw [setL_get _ _ _ _ (by rw [setL_size]; simp; omega), setL_get _ _ _ _ (by simp; omega)]
   rw [insL_get hi] at hq
   by_cases a : q < i
   ·rw [if_pos a] at hq
    rw [if_neg (by omega), if_neg (by omega)]; exact hq0 q v hq
   ·rw [if_neg a] at hq
    by_cases b : q = i
    ·rw [if_pos b] at hq
     cases hq
     rw [if_pos (by simp; omega), b]; simp
    ·rw [if_neg b] at hq
     have hlt := (List.getElem?_eq_some_iff.1 hq).1
     rw [if_neg (by simp; omega), if_pos (by simp; omega), List.getElem?_drop, List.getElem?_map, show i + (q - (0 * 1 + (i + 1))) = q - 1 by omega, hq]; rfl
 ·by_cases hil : i = l.length
  ·refine endG (some ⟨k, 0 * 1, none⟩) c (l.map fun y => Value.int .i64 y) hl (by omega) (fun h => by cases h) rfl (fun a ha j v hj => ?_) hil
   cases ha
   have := hcsv' j v hj
   rw [Addr.add_lit]; exact this
  ·refine (Any2.slices_Insert_int_grow lays21 k (0 * 1) l.length c i kv (0 * 1) 1 cv (l.map fun y => Value.int .i64 y) [.int .i64 x] C.w (by omega) (by decide) hl (by omega) (by omega) (by simp) rfl hcsv' hvs h1c h1v).mono ?_
   rintro e w' ⟨rfl, rfl⟩
   have hg2 := gr (l.length + 1) c (rnI.t 3)
   have hg3 := grownCap_le_maxLen C.w (l.length + 1) c (rnI.t 3) (by unfold maxLen; omega)
   generalize grownCap C.w (l.length + 1) c (rnI.t 3) = cap at hg2 hg3 ⊢
   have n1 := nw_alloc C.w (((l.map fun y => Value.int .i64 y).take i).toArray ++ Builtin.zeroCells (Value.int .i64 0).cells (l.length + 1 - i) ++ Builtin.zeroCells (Value.int .i64 0).cells (cap - (l.length + 1))) (rnI.t 3)
   obtain ⟨e1, t1⟩ := n1.at_
   have n2 := n1.chg ((chg_drew t1).trans (chg_cells [.int .i64 x] i _ _ t1))
   obtain ⟨e2, t2⟩ := n2.at_
   have n3 := n2.chg ((chg_drew t2).trans (chg_cells ((l.map fun y => Value.int .i64 y).drop i) (i + 1) _ _ t2))
   have hz : (((l.map fun y => Value.int .i64 y).take i).toArray ++ Builtin.zeroCells (Value.int .i64 0).cells (l.length + 1 - i) ++ Builtin.zeroCells (Value.int .i64 0).cells (cap - (l.length + 1))).size = cap := by
    simp [Builtin.zeroCells, Value.cells]; omega
   refine fin2 _ _ cap n3 (fun q v hq => ?_) hg2 (by rw [setL_size, setL_size, hz]; exact Nat.le_refl _) (by unfold maxLen at hg3; omega)
   rw [setL_get _ _ _ _ (by rw [setL_size, hz]; simp; omega), setL_get _ _ _ _ (by rw [hz]; simp; omega)]
   rw [insL_get hi] at hq
   by_cases a : q < i
   ·rw [if_pos a] at hq
    rw [if_neg (by omega), if_neg (by omega), Array.getElem?_append_left (by simp; omega), Array.getElem?_append_left (by simp; omega)]
    simp only [List.getElem?_toArray]
    rw [List.getElem?_take_of_lt a, List.getElem?_map, hq]; rfl
   ·rw [if_neg a] at hq
    by_cases b : q = i
    ·rw [if_pos b] at hq
     cases hq
     rw [if_neg (by omega), if_pos (by simp; omega), b]; simp
    ·rw [if_neg b] at hq
     have hlt := (List.getElem?_eq_some_iff.1 hq).1
     rw [if_pos (by simp; omega), List.getElem?_drop, List.getElem?_map, show i + (q - (i + 1)) = q - 1 by omega, hq]; rfl
end Go.Tz
namespace Go.Tz
open Go Go.AL Go.Proofs
abbrev storeB (bs : List Int) (u : Bool) (nx st : Int) : Blk := .arr 3 [[.d (.sl (bs.map fun b => [.int .u8 b]) u), .d (iD nx), .d (.int .u32 st)]]
theorem wrap32 (n : Int) : IntKind.u32.wrap n = n % 4294967296 := by simp [IntKind.wrap, IntKind.bits, IntKind.signed]
theorem u32_ge (n : Int) : 0 ≤ IntKind.u32.wrap n := by rw [wrap32]; omega
theorem u32_lt (n : Int) : IntKind.u32.wrap n < 4294967296 := by rw [wrap32]; omega
theorem shr_ge {a b : Int} (h : 0 ≤ a) : 0 ≤ ishr .u32 a b := by
 unfold ishr
 exact Int.fdiv_nonneg h (by exact_mod_cast Nat.zero_le _)
theorem shr_lt {a b : Int} (h : 0 ≤ a) (h2 : a < 4294967296) : ishr .u32 a b < 4294967296 := by
 unfold ishr
 have hp : (0 : Int) < 2 ^ min b.toNat IntKind.u32.bits := by exact_mod_cast Nat.two_pow_pos _
 rw [Int.fdiv_eq_ediv_of_nonneg _ (Int.le_of_lt hp)]
 exact Int.lt_of_le_of_lt (Int.ediv_le_self _ h) h2
theorem chk147 : chkFn Tryz.f147 = true := by kernel_rfl
theorem draw147 (bs : List Int) (u : Bool) (nx : Nat) (st : Int) (n0 : Nat) (hnx : nx < 4611686018427387904) (hbs : bs.length ≤ 1000) :
  ACall Pr GG 147 [.ptr 0 3 0 0] [(0, some (storeB bs u nx st))] n0 fun v H n => ∃ (x st' : Int) (nx' : Nat), nx' ≤ nx + 1 ∧ 0 ≤ x ∧ x < 4294967296 ∧ v = .d (.int .u32 x) ∧ H.get 0 = some (storeB bs u nx' st') := by
 refine fn_walk pok Tryz.func147 chk147 ?_
 conv => whnf
 cases bs with
 | nil =>
  repeat' first | ((first | refine LookP.mk _ rfl ?_ | refine ShlP.mk _ (by first | (simp only [List.set, over, List.take, List.drop, List.append_eq, List.nil_append, List.cons_append, List.length]; rfl) | rfl) ?_ | refine And.intro (by first | assumption | exact ⟨by kernel_rfl, rfl⟩ | decide | omega | exact ⟨rfl, by decide, by simp only [List.length_map, Nat.zero_add]; omega⟩) ?_ | refine HpP.force ?_); conv => whnf) | (intro t ht; cases t <;> conv => whnf)
  ·exact fin ⟨_, _, nx, by omega, shr_ge (u32_ge _), shr_lt (u32_ge _) (u32_lt _), rfl, rfl⟩
  ·exact absurd ht (by decide)
 | cons b bs =>
  have hmd : (nx : Int).tmod ((((b :: bs).map fun b => [D.int IntKind.u8 b]).length : Nat) : Int) = ((nx % (bs.length + 1) : Nat) : Int) := by
   rw [Int.tmod_eq_emod_of_nonneg (by omega), List.length_map]; rfl
  have hlt : nx % (bs.length + 1) < bs.length + 1 := Nat.mod_lt _ (by omega)
  have hget : ∃ y : Int, ((b :: bs).map fun b => [D.int IntKind.u8 b])[((nx % (bs.length + 1) : Nat) : Int).toNat]? = some [D.int IntKind.u8 y] := by
   refine ⟨(b :: bs)[nx % (bs.length + 1)]'(by simpa using hlt), ?_⟩
   rw [Int.toNat_natCast, List.getElem?_map, List.getElem?_eq_getElem (by simpa using hlt)]; rfl
  obtain ⟨y, hget⟩ := hget
  have hne : ((((b :: bs).map fun b => [D.int IntKind.u8 b]).length : Nat) : Int) ≠ 0 := by simp only [List.length_map, List.length_cons]; omega
  have hgt : decide (((((b :: bs).map fun b => [D.int IntKind.u8 b]).length : Nat) : Int) > 0) = true := decide_eq_true (by simp only [List.length_map, List.length_cons]; omega)
  have hln : ((b :: bs).map fun b => [D.int IntKind.u8 b]).length = bs.length + 1 := by simp
  have e1 : iadd .i64 (nx : Int) 1 = ((nx + 1 : Nat) : Int) := iadd_nat (b := 1) (by omega)
  generalize nx % (bs.length + 1) = m at hmd hlt hget
  repeat' first | ((first | refine LookP.mk _ (by first | rfl | exact hget) ?_ | refine ShlP.mk _ (by first | (simp only [List.set, over, List.take, List.drop, List.append_eq, List.nil_append, List.cons_append, List.length]; rfl) | rfl) ?_ | refine And.intro (by first | exact hne | exact ⟨Int.natCast_nonneg _, by rw [hln]; omega⟩ | assumption | exact ⟨by kernel_rfl, rfl⟩ | decide | omega | exact ⟨rfl, by decide, by simp only [List.length_map, Nat.zero_add]; omega⟩) ?_ | refine knownB hgt ?_ | rw [hmd] | rw [e1] | refine HpP.force ?_); conv => whnf) | (intro t ht; cases t <;> conv => whnf)
  exact fin ⟨_, _, nx + 1, Nat.le_refl _, u32_ge _, u32_lt _, rfl, rfl⟩
structure SC {ι : Type} (f : FuncId) (args : List D) (bs : List Int) (u : Bool) (cnt n0 : Nat) (dof : ι → D) (Q : ι → Prop) : Prop where
 fn : IsFn Pr f
 call : ∀ (nx : Nat) (st : Int), nx + cnt ≤ 4611686018427387904 → ACall Pr GG f (.ptr 0 3 0 0 :: args.map .d) [(0, some (storeB bs u nx st))] n0 fun v H n => ∃ (i : ι) (st' : Int) (nx' : Nat), nx' ≤ nx + cnt ∧ Q i ∧ v = .d (dof i) ∧ H = [(0, some (storeB bs u nx' st'))] ∧ n = n0
variable {ι : Type} {f : FuncId} {args : List D} {bs : List Int} {u : Bool} {cnt n0 : Nat} {dof : ι → D} {Q : ι → Prop}
theorem sc_mk (hf : IsFn Pr f) (hn : 0 < n0)
  (h : ∀ (nx : Nat) (st : Int), nx + cnt ≤ 4611686018427387904 → ACall Pr GG f (.ptr 0 3 0 0 :: args.map .d) [(0, some (storeB bs u nx st))] n0 fun v H _ => ∃ (i : ι) (st' : Int) (nx' : Nat), nx' ≤ nx + cnt ∧ Q i ∧ v = .d (dof i) ∧ H.get 0 = some (storeB bs u nx' st')) : SC f args bs u cnt n0 dof Q := by
 refine ⟨hf, fun nx st hb => acall_sub (h nx st hb) ?_⟩
 rintro v H n ⟨i, st', nx', h1, h2, rfl, h4⟩
 refine ⟨.d (dof i), [(0, some (storeB bs u nx' st'))], n0, ?_, i, st', nx', h1, h2, rfl, rfl, rfl⟩
 exact keep_env (Nat.le_refl _) ⟨⟨rfl, rfl⟩, trivial⟩ ⟨⟨hn, _, rfl, h4, below_arr rfl⟩, trivial⟩ trivial
theorem sc_use {nx0 nx : Nat} {st : Int} {H : AHeap} {k : AV → AHeap → Nat → Prop} (h : SC f args bs u cnt n0 dof Q) (hn : nx0 ≤ n0) (hb : nx + cnt ≤ 4611686018427387904)
  (hg : H.get 0 = some (storeB bs u nx st)) (hk : ∀ (i : ι) (st' : Int) (nx' : Nat), nx' ≤ nx + cnt → Q i → k (.d (dof i)) ((0, some (storeB bs u nx' st')) :: H) n0) : CallVC Pr GG f (.ptr 0 3 0 0 :: args.map .d) H nx0 k := by
 refine ⟨h.fn, acall_frame (h.call nx st hb) hn (fun m b hm => ?_) ?_⟩
 ·rw [get_consI] at hm
  by_cases e : m = 0
  ·rw [if_pos e] at hm; rw [e, hg, hm]
  ·rw [if_neg e] at hm; cases hm
 ·rintro v H1 n ⟨d, st', nx', h1, h2, rfl, rfl, rfl⟩
  refine ⟨_, fun m b hm => ?_, hk d st' nx' h1 h2⟩
  rw [get_consI] at hm
  by_cases e : m = 0
  ·rw [if_pos e] at hm; left; rw [get_consI, if_pos e, hm]
  ·rw [if_neg e] at hm
   right
   exact ⟨by rw [get_consI, if_neg e]; rfl, hm⟩
theorem sc147 (bs : List Int) (u : Bool) (n0 : Nat) (hn : 0 < n0) (hbs : bs.length ≤ 1000) : SC 147 [] bs u 1 n0 (fun x : Int => .int .u32 x) fun x => 0 ≤ x ∧ x < 4294967296 :=
 sc_mk (isFn_of Tryz.func147 chk147) hn fun nx st hb => acall_mono (draw147 bs u nx st n0 (by omega) hbs) fun v H n ⟨x, st', nx', h1, h2, h3, h4, h5⟩ => ⟨x, st', nx', h1, ⟨h2, h3⟩, h4, h5⟩
theorem chk71 : chkFn Tryz.f71 = true := by kernel_rfl
theorem less_val {x : Int} {m : Nat} (x0 : 0 ≤ x) (x1 : x < 4294967296) (hm : 0 < m) : ∃ y : Nat, y < m ∧ (IntKind.i64.wrap (ishr .u32 x 4)).tmod m = y := by
 have h1 := shr_ge (b := 4) x0
 have h2 := shr_lt (b := 4) x0 x1
 generalize ishr .u32 x 4 = z at h1 h2
 have e : IntKind.i64.wrap z = z := by rw [IntKind.wrap_i64]; omega
 refine ⟨(z % m).toNat, ?_, ?_⟩
 ·have := Int.emod_lt_of_pos z (show (0 : Int) < m by omega)
  have := Int.emod_nonneg z (show (m : Int) ≠ 0 by omega)
  omega
 ·rw [e, Int.tmod_eq_emod_of_nonneg h1]
  have := Int.emod_nonneg z (show (m : Int) ≠ 0 by omega)
  omega
theorem sc71 (bs : List Int) (u : Bool) (n0 m : Nat) (hn : 0 < n0) (hbs : bs.length ≤ 1000) (hm : 0 < m) : SC 71 [iD m] bs u 1 n0 (fun y : Nat => iD y) fun y => y < m := by
 have c1 := sc147 bs u n0 hn hbs
 have hgt : decide ((m : Int) ≤ 0) = false := decide_eq_false (by omega)
 refine sc_mk (isFn_of Tryz.func71 chk71) hn fun nx st hb => ?_
 refine fn_walk pok Tryz.func71 chk71 ?_
 conv => whnf
 repeat' first | ((first | refine LookP.mk _ rfl ?_ | refine ShlP.mk _ (by first | (simp only [List.set, over, List.take, List.drop, List.append_eq, List.nil_append, List.cons_append, List.length]; rfl) | rfl) ?_ | refine And.intro (by first | assumption | exact ⟨by kernel_rfl, rfl⟩ | decide | omega | exact ⟨rfl, by decide, by simp only [List.length_map, Nat.zero_add]; omega⟩) ?_ | refine knownB hgt ?_ | refine HpP.force ?_); conv => whnf) | (intro t ht; cases t <;> conv => whnf)
 refine sc_use c1 (Nat.le_refl _) hb rfl ?_
 intro x st' nx' h1 hx
 obtain ⟨y, y1, y2⟩ := less_val hx.1 hx.2 hm
 conv => whnf
 repeat' first | ((first | refine LookP.mk _ rfl ?_ | refine ShlP.mk _ (by first | (simp only [List.set, over, List.take, List.drop, List.append_eq, List.nil_append, List.cons_append, List.length]; rfl) | rfl) ?_ | (refine And.intro (by first | exact (by omega : (m : Int) ≠ 0) | assumption | exact ⟨by kernel_rfl, rfl⟩ | decide | omega | exact ⟨rfl, by decide, by simp only [List.length_map, Nat.zero_add]; omega⟩) ?_) | refine HpP.force ?_); conv => whnf) | (intro t ht; cases t <;> conv => whnf)
 exact fin ⟨y, st', nx', h1, y1, congrArg (fun n => AV.d (iD n)) y2, rfl⟩
theorem chk63 : chkFn Tryz.f63 = true := by kernel_rfl
theorem sc63 (bs : List Int) (u : Bool) (n0 m : Nat) (hn : 0 < n0) (hbs : bs.length ≤ 1000) (hm : 0 < m) (hm2 : m < 1000000) : SC 63 [iD 1, iD m] bs u 1 n0 (fun y : Nat => iD y) fun y => 1 ≤ y ∧ y ≤ m := by
 have c1 := sc71 bs u n0 m hn hbs hm
 have e1 : iadd .i64 (isub .i64 (m : Int) 1) 1 = (m : Int) := by rw [isub_eq (by omega) (by omega), iadd_eq (by omega) (by omega)]; omega
 refine sc_mk (isFn_of Tryz.func63 chk63) hn fun nx st hb => ?_
 refine fn_walk pok Tryz.func63 chk63 ?_
 conv => whnf
 repeat' first | ((first | refine LookP.mk _ rfl ?_ | refine ShlP.mk _ (by first | (simp only [List.set, over, List.take, List.drop, List.append_eq, List.nil_append, List.cons_append, List.length]; rfl) | rfl) ?_ | refine And.intro (by first | assumption | exact ⟨by kernel_rfl, rfl⟩ | decide | omega | exact ⟨rfl, by decide, by simp only [List.length_map, Nat.zero_add]; omega⟩) ?_ | rw [e1] | refine HpP.force ?_); conv => whnf) | (intro t ht; cases t <;> conv => whnf)
 refine sc_use c1 (Nat.le_refl _) hb rfl ?_
 intro y st' nx' h1 hy
 have e2 : iadd .i64 1 (y : Int) = ((1 + y : Nat) : Int) := iadd_nat (a := 1) (by omega)
 conv => whnf
 repeat' first | ((first | refine LookP.mk _ rfl ?_ | refine ShlP.mk _ (by first | (simp only [List.set, over, List.take, List.drop, List.append_eq, List.nil_append, List.cons_append, List.length]; rfl) | rfl) ?_ | refine And.intro (by first | assumption | exact ⟨by kernel_rfl, rfl⟩ | decide | omega | exact ⟨rfl, by decide, by simp only [List.length_map, Nat.zero_add]; omega⟩) ?_ | refine HpP.force ?_); conv => whnf) | (intro t ht; cases t <;> conv => whnf)
 exact fin ⟨1 + y, st', nx', h1, ⟨by omega, by omega⟩, congrArg (fun n => AV.d (iD n)) e2, rfl⟩
end Go.Tz
namespace Go.AL
open Go
theorem acall_freeze1 {P : Program} {G : Nat → Option (List D)} {f : FuncId} {args : List AV} {H0 : AHeap} {n0 : Nat} {K K' : AV → AHeap → Nat → Prop} (h : ACall P G f args H0 n0 K) (hK : ∀ v H n, K v H n → ∃ nm b d, H.get nm = some b ∧ AsD [(nm, some b)] v d ∧ K' (.d d) (dels [nm] H) n) : ACall P G f args H0 n0 K' := by
 intro C vs hH hU hl hr
 refine (h C vs hH hU hl hr).mono ?_
 rintro e w' ⟨x, v, H', n, C', rfl, rfl, hk, hv, hHR, hU', hT⟩
 obtain ⟨nm, b, d, hg, ha, hk'⟩ := hK v H' n hk
 obtain ⟨C2, e1, e2, e3, g, tt, r, q⟩ := hrel_freezes [nm] hHR
 have hHL : HRel G C' [(nm, some b)] := hrel_dropS hHR fun m bl h => by
  by_cases em : m = nm
  ·subst em; rw [get_cons_same] at h; rw [hg, ← h]
  ·rw [get_cons_ne _ _ em] at h; cases h
 have hd : DRel C2.w C2.RO d x := by
  have := asD_relR hHL (RO := C2.RO) r (fun m bl j h1 h2 => by
   by_cases em : m = nm
   ·subst em; exact q m _ j (by simp) hg h2
   ·rw [get_cons_ne _ _ em] at h1; cases h1) ha x hv
  rw [e1]; exact this
 exact ⟨x, .d d, _, n, C2, rfl, e1, hk', .d _ _ hd, g, fun m hm => hU' m (by rw [← e2]; exact hm), tr_step hT tt⟩
end Go.AL
namespace Go.Tz
open Go Go.AL Go.Proofs Go.Shelf
theorem insert146n {G : Nat → Option (List D)} {nv n0 : Nat} (x : Int) : ACall Pr G 146 [.d (.sl [] true), .d (iD 0), .sl nv 1 0 1 1 true] [(nv, some (.arr 1 [[.d (iD x)]]))] n0
   fun v H n => ∃ r' : Nat, 1 ≤ r' ∧ r' ≤ 9223372036854775807 ∧ v = .sl n0 1 0 1 r' true ∧ H = [(n0, some (numsB [x]))] ∧ n = n0 + 1 := by
 intro C vs hH hU hsz hr
 have hn : ¬ C.U n0 := fun h => Nat.lt_irrefl _ (hU n0 h)
 have r0 := vrel_d (hr 0 _ rfl)
 have r1 := vrel_int (hr 1 _ rfl)
 have r2 := hr 2 _ rfl
 rw [arr3 (vs := vs) (by simpa using hsz), r1]
 have hgv : AHeap.get [(nv, some (Blk.arr 1 [[.d (iD x)]]))] nv = some (.arr 1 [[.d (iD x)]]) := by rw [get_consI, if_pos rfl]
 rcases vrel_sl r2 with ⟨kv, cv, csv, ev, fzv, hUv, hbv, hlv, hrv, htv, hhv, hsv, hx2⟩ | ⟨_, h, _⟩
 rotate_left
 ·cases h
 obtain ⟨csv0, ev0, hhv0, hrov, _, _, hcsv⟩ := brel_flat (hH.blk nv _ hgv).2 hbv
 rw [hhv] at hhv0; cases hhv0
 have hv0 : csv[0]? = some (.int .i64 x) := by
  obtain ⟨y, h1, h2⟩ := hcsv 0 (.d (iD x)) rfl
  rw [h1, vrel_int h2]
 have hvs : ∀ j v, [Value.int .i64 x][j]? = some v → C.w.cell? ⟨kv, 0 * 1 + j, none⟩ = some v := fun j v hj => by
  match j, hj with
  | 0, hj => cases hj; rw [cell_of hhv]; exact hv0
 have h1v : ∀ v ∈ [Value.int .i64 x], v.oneCell' = true := fun v hv => by rw [List.mem_singleton.1 hv]; rfl
 have hbase : ∃ a c, vs.getD 0 undef = .slice a 0 c ∧ c = 0 := by
  generalize vs.getD 0 undef = y at r0
  cases r0 with
  | sl0 _ a c ht => exact ⟨a, c, rfl, ht rfl⟩
  | sl _ _ b o c sz ws hro hc ht hsz hm hr => exact ⟨_, c, rfl, ht rfl⟩
 obtain ⟨a, c, ha, hc0⟩ := hbase
 subst hc0
 rw [ha, hx2]
 refine (Any2.slices_Insert_int_end_grow lays21 a 0 0 kv (0 * 1) 1 cv [] [.int .i64 x] C.w (by decide) (Nat.le_refl 0) (by decide) (by decide) rfl rfl (fun _ => rfl) (fun a _ j v hj => by simp at hj) hvs h1v).mono ?_
 rintro e w' ⟨rfl, rfl⟩
 have hg2 := grownCap_ge C.w (0 + 1) 0 (rnI.t 3)
 have hg3 := grownCap_le_maxLen C.w (0 + 1) 0 (rnI.t 3) (by unfold maxLen; omega)
 generalize grownCap C.w (0 + 1) 0 (rnI.t 3) = cap at hg2 hg3 ⊢
 have hc := nw_drew (nw_alloc C.w.drew (([] ++ [Value.int .i64 x]).toArray ++ Builtin.zeroCells (Value.int .i64 0).cells (cap - (0 + 1))) (rnI.t 3))
 have hq : ∀ (q : Nat) (v : Int), [x][q]? = some v → (([] ++ [Value.int .i64 x]).toArray ++ Builtin.zeroCells (Value.int .i64 0).cells (cap - (0 + 1)))[q]? = some (.int .i64 v) := fun q v hq => by
  match q, hq with
  | 0, hq => cases hq; rw [Array.getElem?_append_left (by simp)]; rfl
 obtain ⟨C', e1, e2, e3, e4, e5, e6⟩ := made2 (S := 1) hH hn hc (numsB_len [x]) (ints_rel hq)
 obtain ⟨e, at2⟩ := hc.at_
 have hsize : cap ≤ (([] ++ [Value.int .i64 x]).toArray ++ Builtin.zeroCells (Value.int .i64 0).cells (cap - (0 + 1))).size := by
  simp [Builtin.zeroCells, Value.cells]; omega
 refine ⟨_, _, _, _, C', rfl, e1, ⟨cap, hg2, by unfold maxLen at hg3; omega, rfl, rfl, rfl⟩, ?_, hrel_dropS e4 ?_, fun m hm => ?_, e5.anti ?_⟩
 ·have := VRel.sl (C := C') n0 1 0 1 cap true C.w.heap.size cap _ e (0, 0) e3 e2 hg2 (Nat.le_refl _) (fun _ => rfl) (by rw [e1]; exact at2) (by simpa using hsize)
  simpa using this
 ·intro a b hab
  rw [get_consI] at hab
  by_cases ea : a = n0
  ·rw [if_pos ea] at hab; rw [get_consI, if_pos ea]; exact hab
  ·rw [if_neg ea] at hab; cases hab
 ·rcases e6 m hm with h | h
  ·have := hU m h; omega
  ·omega
 ·intro a b hab
  rw [get_consI] at hab
  by_cases ea : a = n0
  ·rw [if_pos ea] at hab; rw [get_consI, if_pos ea]; exact hab
  ·rw [if_neg ea] at hab; cases hab
end Go.Tz
namespace Go.Tz
open Go Go.AL Go.Proofs
theorem ins_use {nm nv nx0 i r : Nat} {H : AHeap} {l : List Int} {x : Int} {k : AV → AHeap → Nat → Prop} (hi : i ≤ l.length) (hbig : l.length ≤ 1000) (hne : nm ≠ nv) (hr63 : r ≤ 9223372036854775807) (hg : H.get nm = some (numsB l)) (hgv : H.get nv = some (.arr 1 [[.d (iD x)]]))
  (hk : ∀ r' : Nat, l.length + 1 ≤ r' → r' ≤ 9223372036854775807 → k (.sl nx0 1 0 (l.length + 1) r' true) ((nx0, some (numsB (insL l i x))) :: (nm, none) :: (nv, none) :: H) (nx0 + 1)) :
  CallVC Pr GG 146 [.sl nm 1 0 l.length r true, .d (iD i), .sl nv 1 0 1 1 true] H nx0 k := by
 refine ⟨isFn146, acall_frame (insert146 (n0 := nx0) x hi hbig hne hr63) (Nat.le_refl _) (fun m b hm => ?_) ?_⟩
 ·rw [get_consI, get_consI] at hm
  by_cases e : m = nm
  ·rw [if_pos e] at hm; rw [e, hg, hm]
  ·rw [if_neg e] at hm
   by_cases e2 : m = nv
   ·rw [if_pos e2] at hm; rw [e2, hgv, hm]
   ·rw [if_neg e2] at hm; cases hm
 ·rintro v H1 n ⟨r', h1, h2, rfl, rfl, rfl⟩
  refine ⟨_, fun m b hm => ?_, hk r' h1 h2⟩
  rw [get_consI] at hm
  by_cases e : m = nx0
  ·rw [if_pos e] at hm; left; rw [get_consI, if_pos e, hm]
  ·rw [if_neg e] at hm
   right
   obtain ⟨a1, hm⟩ := get_drop hm
   obtain ⟨a2, hm⟩ := get_drop hm
   exact ⟨by rw [get_consI, if_neg a1, get_consI, if_neg a2]; rfl, hm⟩
theorem ins_useL {nm nv nx0 i r n : Nat} {H : AHeap} {l : List Int} {x : Int} {k : AV → AHeap → Nat → Prop} (hl : l.length = n) (hi : i ≤ n) (hbig : n ≤ 1000) (hne : nm ≠ nv) (hr63 : r ≤ 9223372036854775807) (hg : H.get nm = some (numsB l)) (hgv : H.get nv = some (.arr 1 [[.d (iD x)]]))
  (hk : ∀ r' : Nat, n + 1 ≤ r' → r' ≤ 9223372036854775807 → k (.sl nx0 1 0 (n + 1) r' true) ((nx0, some (numsB (insL l i x))) :: (nm, none) :: (nv, none) :: H) (nx0 + 1)) :
  CallVC Pr GG 146 [.sl nm 1 0 n r true, .d (iD i), .sl nv 1 0 1 1 true] H nx0 k := by
 subst hl
 exact ins_use hi hbig hne hr63 hg hgv hk
theorem insn_use {nv nx0 : Nat} {H : AHeap} {x : Int} {k : AV → AHeap → Nat → Prop} (hgv : H.get nv = some (.arr 1 [[.d (iD x)]]))
  (hk : ∀ r' : Nat, 1 ≤ r' → r' ≤ 9223372036854775807 → k (.sl nx0 1 0 1 r' true) ((nx0, some (numsB [x])) :: (nv, none) :: H) (nx0 + 1)) :
  CallVC Pr GG 146 [.d (.sl [] true), .d (iD 0), .sl nv 1 0 1 1 true] H nx0 k := by
 refine ⟨isFn146, acall_frame (insert146n (n0 := nx0) x) (Nat.le_refl _) (fun m b hm => ?_) ?_⟩
 ·rw [get_consI] at hm
  by_cases e2 : m = nv
  ·rw [if_pos e2] at hm; rw [e2, hgv, hm]
  ·rw [if_neg e2] at hm; cases hm
 ·rintro v H1 n ⟨r', h1, h2, rfl, rfl, rfl⟩
  refine ⟨_, fun m b hm => ?_, hk r' h1 h2⟩
  rw [get_consI] at hm
  by_cases e : m = nx0
  ·rw [if_pos e] at hm; left; rw [get_consI, if_pos e, hm]
  ·rw [if_neg e] at hm
   right
   obtain ⟨a2, hm⟩ := get_drop hm
   exact ⟨by rw [get_consI, if_neg a2]; rfl, hm⟩
def Ord (n : Nat) (l : List Int) : Prop := l.length = n ∧ l.Nodup ∧ ∀ x, x ∈ l → 0 ≤ x ∧ x < n
theorem ord_ins {n i : Nat} {l : List Int} (h : Ord n l) (hi : i ≤ n) : Ord (n + 1) (insL l i n) := by
 obtain ⟨h1, h2, h3⟩ := h
 have hp : (insL l i (n : Int)).Perm ((n : Int) :: l) := by
  unfold insL
  refine List.perm_middle.trans ?_
  rw [List.take_append_drop]
 refine ⟨by rw [insL_len (by omega), h1], hp.nodup_iff.2 (List.nodup_cons.2 ⟨fun hm => ?_, h2⟩), fun x hx => ?_⟩
 ·have := (h3 _ hm).2; omega
 ·rcases List.mem_cons.1 (hp.mem_iff.1 hx) with rfl | q
  ·exact ⟨by omega, by omega⟩
  ·have := h3 x q; exact ⟨this.1, by omega⟩
theorem chk70 : chkFn Tryz.f70 = true := by kernel_rfl
abbrev stOr (bs : List Int) (u : Bool) (n : Nat) (s : Nat × List Int × Nat × Int × Nat) : St := match s.1 with
 | 0 => ⟨[(0, .ptr 0 3 0 0), (5, .d (.sl [] true)), (7, .d (iD n)), (8, .d (iD (0 : Nat)))], [(0, some (storeB bs u s.2.2.2.2 s.2.2.2.1))], 100⟩
 | i + 1 => ⟨[(0, .ptr 0 3 0 0), (5, .sl 100 1 0 (i + 1) s.2.2.1 true), (7, .d (iD n)), (8, .d (iD (i + 1 : Nat)))], [(0, some (storeB bs u s.2.2.2.2 s.2.2.2.1)), (100, some (numsB s.2.1))], 101⟩
theorem order70 (bs : List Int) (u : Bool) (n nx : Nat) (st : Int) (hn0 : 0 < n) (hn : n ≤ 100) (hbs : bs.length ≤ 1000) (hb : nx + n ≤ 4611686018427387904) :
  ACall Pr GG 70 [.ptr 0 3 0 0, .d (iD n)] [(0, some (storeB bs u nx st))] 100 fun v H _ => ∃ (l : List Int) (t : Bool) (st' : Int) (nx' : Nat), nx' ≤ nx + n ∧ Ord n l ∧ v = .d (intsD l t) ∧ H.get 0 = some (storeB bs u nx' st') := by
 refine acall_mono (acall_freeze1 (K' := fun v H _ => ∃ (l : List Int) (t : Bool) (st' : Int) (nx' : Nat), nx' ≤ nx + n ∧ Ord n l ∧ v = .d (intsD l t) ∧ H.get 0 = some (storeB bs u nx' st')) (K := fun v H _ => ∃ (l : List Int) (r : Nat) (st' : Int) (nx' : Nat), nx' ≤ nx + n ∧ Ord n l ∧ 0 < n ∧ v = .sl 100 1 0 n r true ∧ H.get 0 = some (storeB bs u nx' st') ∧ H.get 100 = some (numsB l)) ?_ ?_) fun _ _ _ h => h
 ·refine fn_walk pok Tryz.func70 chk70 ?_
  conv => whnf
  repeat' first | ((first | refine LookP.mk _ rfl ?_ | refine ShlP.mk _ (by first | (simp only [List.set, over, List.take, List.drop, List.append_eq, List.nil_append, List.cons_append, List.length]; rfl) | rfl) ?_ | refine And.intro (by first | assumption | exact ⟨by kernel_rfl, rfl⟩ | decide | omega | exact ⟨rfl, by decide, by simp only [List.length_map, Nat.zero_add]; omega⟩) ?_ | refine HpP.force ?_); conv => whnf) | (intro t ht; cases t <;> conv => whnf)
  refine loop_use2 (σ := { s : Nat × List Int × Nat × Int × Nat // s.1 ≤ n ∧ Ord s.1 s.2.1 ∧ s.2.2.1 ≤ 9223372036854775807 ∧ s.2.2.2.2 ≤ nx + s.1 }) (fun s => stOr bs u n s.1) (fun s => n - s.1.1) ⟨(0, [], 0, st, nx), Nat.zero_le _, ⟨rfl, List.nodup_nil, fun x hx => by cases hx⟩, Nat.zero_le _, Nat.le_refl _⟩ ?_ (by kernel_rfl) ?_
  ·refine keep_env (by first | exact Nat.zero_le _ | exact Nat.le_of_ble_eq_true rfl) ?_ ?_ trivial
   ·repeat' first | exact trivial | refine ⟨⟨by first | rfl | assumption, rfl⟩, ?_⟩
   ·repeat' first | exact trivial | refine ⟨⟨ltB rfl, _, rfl, by first | rfl | assumption, by first | exact below1 rfl | exact below_dblk _ _ _ | exact below_arr rfl⟩, ?_⟩
  ·rintro ⟨⟨i, l, r, st', nx'⟩, h1, h2, h3, h4⟩ A hA
   dsimp only at h1 h2 h3 h4 hA ⊢
   have e1 : iadd .i64 (i : Int) 1 = ((i + 1 : Nat) : Int) := iadd_nat (b := 1) (by omega)
   cases i with
   | zero =>
    have c1 := sc71 bs u 101 1 (by decide) hbs (by decide)
    conv => whnf
    repeat' first | ((first | refine LookP.mk _ rfl ?_ | refine ShlP.mk _ (by first | (simp only [List.set, over, List.take, List.drop, List.append_eq, List.nil_append, List.cons_append, List.length]; rfl) | rfl) ?_ | refine And.intro (by first | assumption | exact ⟨by kernel_rfl, rfl⟩ | decide | omega | exact ⟨rfl, by decide, by simp only [List.length_map, Nat.zero_add]; omega⟩) ?_ | refine HpP.force ?_); conv => whnf) | (intro t ht; cases t <;> conv => whnf)
    ·exfalso; simp at ht; omega
    have e0 : iadd .i64 ((0 : Nat) : Int) 1 = ((1 : Nat) : Int) := rfl
    rw [e0]
    refine sc_use (nx := nx') (st := st') c1 (by decide) (by omega) rfl ?_
    intro y st2 nx2 g1 g2
    obtain rfl : y = 0 := by omega
    conv => whnf
    repeat' first | ((first | refine LookP.mk _ rfl ?_ | refine ShlP.mk _ (by first | (simp only [List.set, over, List.take, List.drop, List.append_eq, List.nil_append, List.cons_append, List.length]; rfl) | rfl) ?_ | refine And.intro (by first | assumption | exact ⟨by kernel_rfl, rfl⟩ | decide | omega | exact ⟨rfl, by decide, by simp only [List.length_map, Nat.zero_add]; omega⟩) ?_ | refine HpP.force ?_); conv => whnf) | (intro t ht; cases t <;> conv => whnf)
    refine insn_use rfl ?_
    intro r' r1 r2
    conv => whnf
    repeat' first | ((first | refine LookP.mk _ rfl ?_ | refine ShlP.mk _ (by first | (simp only [List.set, over, List.take, List.drop, List.append_eq, List.nil_append, List.cons_append, List.length]; rfl) | rfl) ?_ | refine And.intro (by first | assumption | exact ⟨by kernel_rfl, rfl⟩ | decide | omega | exact ⟨rfl, by decide, by simp only [List.length_map, Nat.zero_add]; omega⟩) ?_ | refine HpP.force ?_); conv => whnf) | (intro t ht; cases t <;> conv => whnf)
    refine hA _ ⟨(1, [((0 : Nat) : Int)], r', st2, nx2), by omega, ord_ins (n := 0) (i := 0) ⟨rfl, List.nodup_nil, fun x hx => by cases hx⟩ (Nat.le_refl 0), r2, by show nx2 ≤ nx + 1; omega⟩ ?_ (by show n - 1 < n - 0; omega)
    first | refine ren_env [(100, 102)] ?_ ?_ ?_ trivial | refine ren_envB [(100, 102)] rfl rfl ?_ ?_ ?_ trivial
    ·repeat' first | exact trivial | refine ⟨⟨by first | rfl | assumption | exact congrArg (fun n => AV.d (iD n)) e0, rfl⟩, ?_⟩
    ·repeat' first | exact trivial | refine ⟨⟨ltB rfl, _, rfl, by first | rfl | assumption | exact get_ren rfl (by first | rfl | assumption | exact get_ren rfl rfl) | exact get_ren rfl rfl, by first | exact below1 rfl | exact below_dblk _ _ _ | exact below_arr rfl⟩, ?_⟩
    ·repeat' first | exact trivial | (refine And.intro ?_ ?_) | (exact fun _ => rfl) | (exact fun h => absurd h (Nat.ne_of_beq_eq_false rfl))
   | succ i =>
    have c1 := sc71 bs u 101 (i + 1 + 1) (by decide) hbs (by omega)
    have hl : l.length = i + 1 := h2.1
    conv => whnf
    repeat' first | ((first | refine LookP.mk _ rfl ?_ | refine ShlP.mk _ (by first | (simp only [List.set, over, List.take, List.drop, List.append_eq, List.nil_append, List.cons_append, List.length]; rfl) | rfl) ?_ | refine And.intro (by first | assumption | exact ⟨by kernel_rfl, rfl⟩ | decide | omega | exact ⟨rfl, by decide, by simp only [List.length_map, Nat.zero_add]; omega⟩) ?_ | refine HpP.force ?_); conv => whnf) | (intro t ht; cases t <;> conv => whnf)
    ·have hin : i + 1 = n := by
      have := of_decide_eq_false ht
      omega
     subst hin
     exact fin ⟨l, r, st', nx', h4, h2, hn0, rfl, rfl, rfl⟩
    have hlt : i + 1 < n := by
     have := of_decide_eq_true ht
     omega
    rw [e1]
    refine sc_use (nx := nx') (st := st') c1 (by decide) (by omega) rfl ?_
    intro y st2 nx2 g1 g2
    conv => whnf
    repeat' first | ((first | refine LookP.mk _ rfl ?_ | refine ShlP.mk _ (by first | (simp only [List.set, over, List.take, List.drop, List.append_eq, List.nil_append, List.cons_append, List.length]; rfl) | rfl) ?_ | refine And.intro (by first | assumption | exact ⟨by kernel_rfl, rfl⟩ | decide | omega | exact ⟨rfl, by decide, by simp only [List.length_map, Nat.zero_add]; omega⟩) ?_ | refine HpP.force ?_); conv => whnf) | (intro t ht; cases t <;> conv => whnf)
    refine ins_useL hl (by omega) (by omega) (by decide) h3 rfl rfl ?_
    intro r' r1 r2
    conv => whnf
    repeat' first | ((first | refine LookP.mk _ rfl ?_ | refine ShlP.mk _ (by first | (simp only [List.set, over, List.take, List.drop, List.append_eq, List.nil_append, List.cons_append, List.length]; rfl) | rfl) ?_ | refine And.intro (by first | assumption | exact ⟨by kernel_rfl, rfl⟩ | decide | omega | exact ⟨rfl, by decide, by simp only [List.length_map, Nat.zero_add]; omega⟩) ?_ | refine HpP.force ?_); conv => whnf) | (intro t ht; cases t <;> conv => whnf)
    refine hA _ ⟨(i + 1 + 1, insL l y ((i + 1 : Nat) : Int), r', st2, nx2), hlt, ord_ins h2 (by omega), r2, by show nx2 ≤ nx + (i + 1 + 1); omega⟩ ?_ (by show n - (i + 1 + 1) < n - (i + 1); omega)
    first | refine ren_env [(100, 102)] ?_ ?_ ?_ trivial | refine ren_envB [(100, 102)] rfl rfl ?_ ?_ ?_ trivial
    ·repeat' first | exact trivial | refine ⟨⟨by first | rfl | assumption | exact congrArg (fun n => AV.d (iD n)) e1, rfl⟩, ?_⟩
    ·repeat' first | exact trivial | refine ⟨⟨ltB rfl, _, rfl, by first | rfl | assumption | exact get_ren rfl (by first | rfl | assumption | exact get_ren rfl (by rw [ren_dblk])) | exact get_ren rfl (by rw [ren_dblk]), by first | exact below1 rfl | exact below_dblk _ _ _ | exact below_arr rfl⟩, ?_⟩
    ·repeat' first | exact trivial | (refine And.intro ?_ ?_) | (exact fun _ => rfl) | (exact fun h => absurd h (Nat.ne_of_beq_eq_false rfl))
 ·rintro v H m ⟨l, r, st', nx', h1, h2, h3, rfl, g0, g1⟩
  have hd : AHeap.get (dels [100] H) 0 = some (storeB bs u nx' st') := by
   show (AHeap.del H 100).get 0 = _
   rw [get_del, if_neg (by decide)]; exact g0
  refine ⟨100, _, intsD l (true && decide (r = n)), g1, ?_, l, _, st', nx', h1, h2, rfl, hd⟩
  have := asD_pre (H := [(100, some (numsB l))]) (nm := 100) (sz := 1) (l := l.map fun x => [iD x]) (len := n) (room := r) (t := true) rfl (by rw [List.length_map, h2.1]; exact Nat.le_refl _)
  rwa [List.take_of_length_le (by rw [List.length_map, h2.1]; exact Nat.le_refl _)] at this
end Go.Tz
namespace Go.Tz
open Go Go.AL Go.Proofs
theorem sc70 (bs : List Int) (u : Bool) (n : Nat) (hn0 : 0 < n) (hn : n ≤ 100) (hbs : bs.length ≤ 1000) : SC 70 [iD n] bs u n 100 (fun p : List Int × Bool => intsD p.1 p.2) fun p => Ord n p.1 :=
 sc_mk (isFn_of Tryz.func70 chk70) (by decide) fun nx st hb => acall_mono (order70 bs u n nx st hn0 hn hbs hb) fun _ _ _ ⟨l, t, st', nx', h1, h2, h3, h4⟩ => ⟨(l, t), st', nx', h1, h2, h3, h4⟩
theorem chk140 : chkFn Tryz.f140 = true := by kernel_rfl
theorem ar140 (k : Int) : PC Pr GG 140 [iD k] (iD (arI k)) := by
 refine pc_walk pok Tryz.func140 chk140 ?_
 conv => whnf
 repeat' first | ((first | refine LookP.mk _ rfl ?_ | refine ShlP.mk _ (by first | (simp only [List.set, over, List.take, List.drop, List.append_eq, List.nil_append, List.cons_append, List.length]; rfl) | rfl) ?_ | refine And.intro (by first | assumption | exact ⟨by kernel_rfl, rfl⟩ | decide | omega | exact ⟨rfl, by decide, by simp only [List.length_map, Nat.zero_add]; omega⟩) ?_ | refine HpP.force ?_); conv => whnf) | (intro t ht; cases t <;> conv => whnf)
 all_goals refine fin ?_
 all_goals refine fiI ?_
 all_goals simp at *
 all_goals first | exact (ari1 (by omega)).symm | exact (ari2 (by omega)).symm | exact (ari3 (by omega)).symm | exact (ari0 (by omega)).symm
def cfL : List Int := [1, 2, 3, 4, 5, 6, 9, 10, 11]
abbrev cfD : D := .sl (cfL.map fun k => [iD k]) false
structure GtOk (w : Nat) (g : Gt) : Prop where
 chk : gchk g w 0 = 0
 kind : kindB g.k = true
 len : g.ws.length ≤ 2
 i0 : g.i = 0
theorem gt_ok {w a : Nat} {k : Int} {l : List Int} {t : Bool} (ho : Ord w l) (hk : kindB k = true) (ha : arI k = a) (haw : a ≤ w) : GtOk w ⟨k, l.take a, t, 0, 0⟩ := by
 obtain ⟨h1, h2, h3⟩ := ho
 have hk' := of_decide_eq_true hk
 have ha2 : a = 1 ∨ a = 2 := by
  rcases hk' with q | q
  ·rw [ari1 (by omega)] at ha; omega
  ·rw [ari2 q] at ha; omega
 have hlen : (l.take a).length = a := by rw [List.length_take, h1]; omega
 refine ⟨?_, hk, by show (l.take a).length ≤ 2; omega, rfl⟩
 unfold gchk
 dsimp only
 rw [if_neg (by omega), if_neg (by rw [hlen, ha]; simp)]
 have ho : outB w (l.take a) = false := List.any_eq_false.2 fun x hx => by
  have := h3 x (List.mem_of_mem_take hx)
  simp; omega
 have hd : dupB (l.take a) = false := dupB_no fun j hj => by
  rw [dupAt_lt hj]
  refine decide_eq_false fun hm => ?_
  obtain ⟨i, hi, he⟩ := List.mem_take_iff_getElem.1 hm
  have hnd : (l.take a).Nodup := h2.sublist (List.take_sublist _ _)
  exact List.pairwise_iff_getElem.1 hnd i j (by omega) hj (by omega) he
 rw [ho, hd, if_neg (by decide), if_neg (by decide)]
 unfold bitE
 dsimp only
 rw [if_neg (by omega), if_neg (by omega)]
theorem cf_get {y : Nat} (h : y < 9) : ∃ k : Int, (cfL.map fun k => [iD k])[(y : Int).toNat]? = some [iD k] ∧ kindB k = true ∧ ∃ a : Nat, arI k = a ∧ a ≤ 2 := by
 have : ((List.range 9).all fun y => match cfL[y]? with
  | some k => kindB k && (decide (arI k = 1) || decide (arI k = 2))
  | none => false) = true := by kernel_rfl
 have hy := List.all_eq_true.1 this y (List.mem_range.2 h)
 split at hy
 ·rename_i k hk
  simp only [Bool.and_eq_true, Bool.or_eq_true, decide_eq_true_eq] at hy
  refine ⟨k, by rw [Int.toNat_natCast, List.getElem?_map, hk]; rfl, hy.1, ?_⟩
  rcases hy.2 with q | q
  ·exact ⟨1, q, by decide⟩
  ·exact ⟨2, q, by decide⟩
 ·cases hy
theorem ints_len (l : List Int) : ∀ el : List D, el ∈ (l.map fun x => [iD x]) → el.length = 1 := fun el h => by
 obtain ⟨x, _, rfl⟩ := List.mem_map.1 h; rfl
theorem chk65 : chkFn Tryz.f65 = true := by kernel_rfl
theorem sc65 (bs : List Int) (u : Bool) (w : Nat) (hw : 1 ≤ w ∧ w ≤ 12) (hbs : bs.length ≤ 1000) : SC 65 [iD w, cfD] bs u 13 90 Gt.d fun g => GtOk w g := by
 have c1 := sc71 bs u 91 9 (by decide) hbs (by decide)
 have c2 := sc70 bs u w (by omega) (by omega) hbs
 refine sc_mk (isFn_of Tryz.func65 chk65) (by decide) fun nx st hb => ?_
 refine fn_walk pok Tryz.func65 chk65 ?_
 conv => whnf
 repeat' first | ((first | refine LookP.mk _ rfl ?_ | refine ShlP.mk _ (by first | (simp only [List.set, over, List.take, List.drop, List.append_eq, List.nil_append, List.cons_append, List.length]; rfl) | rfl) ?_ | refine And.intro (by first | assumption | exact ⟨by kernel_rfl, rfl⟩ | decide | omega | exact ⟨rfl, by decide, by simp only [List.length_map, Nat.zero_add]; omega⟩) ?_ | refine HpP.force ?_); conv => whnf) | (intro t ht; cases t <;> conv => whnf)
 refine sc_use (nx := nx) (st := st) c1 (by decide) (by omega) rfl ?_
 intro y st1 nx1 g1 g2
 obtain ⟨k, k1, k2, a, k3, k4⟩ := cf_get g2
 have c3 := ar140 k
 rw [k3] at c3
 conv => whnf
 repeat' first | ((first | refine LookP.mk _ (by first | rfl | exact k1) ?_ | refine ShlP.mk _ (by first | (simp only [List.set, over, List.take, List.drop, List.append_eq, List.nil_append, List.cons_append, List.length]; rfl) | rfl) ?_ | (refine And.intro (by first | exact ⟨Int.natCast_nonneg _, by simp only [List.length_map]; show _ < ((9 : Nat) : Int); omega⟩ | assumption | exact ⟨by kernel_rfl, rfl⟩ | decide | omega | exact ⟨rfl, by decide, by simp only [List.length_map, Nat.zero_add]; omega⟩) ?_) | refine pc_use c3 ?_ | refine pc_head c3 ?_ | refine HpP.force ?_); conv => whnf) | (intro t ht; cases t <;> conv => whnf)
 ·have hw2 : a ≤ w := by
   have := of_decide_eq_false ht
   omega
  refine sc_use (nx := nx1) (st := st1) c2 (by decide) (by omega) rfl ?_
  rintro ⟨l, t⟩ st2 nx2 g3 g4
  dsimp only at g4 ⊢
  have hsl : (0 ≤ (a : Int).toNat ∧ (a : Int).toNat ≤ (l.map fun x => [iD x]).length ∧ ∀ el : List D, el ∈ (l.map fun x => [iD x]) → el.length = 1) := ⟨Nat.zero_le _, by rw [List.length_map, g4.1]; omega, ints_len l⟩
  have hsE : (l.map fun x => [iD x]).take ((a : Int).toNat - 0) = (l.take a).map fun x => [iD x] := by rw [Int.toNat_natCast, Nat.sub_zero, List.map_take]
  conv => whnf
  repeat' first | ((first | refine LookP.mk _ rfl ?_ | refine ShlP.mk _ (by first | (simp only [List.set, over, List.take, List.drop, List.append_eq, List.nil_append, List.cons_append, List.length]; rfl) | rfl) ?_ | refine And.intro (by first | exact hsl | assumption | exact ⟨by kernel_rfl, rfl⟩ | decide | omega | exact ⟨rfl, by decide, by simp only [List.length_map, Nat.zero_add]; omega⟩) ?_ | refine pc_use c3 ?_ | refine pc_head c3 ?_ | rw [hsE] | refine HpP.force ?_); conv => whnf) | (intro t ht; cases t <;> conv => whnf)
  exact fin ⟨⟨k, l.take a, _, 0, 0⟩, st2, nx2, by omega, gt_ok g4 k2 k3 hw2, rfl, rfl⟩
 ·have c4 : PC Pr GG 140 [iD 1] (iD (1 : Nat)) := ar140 1
  refine sc_use (nx := nx1) (st := st1) c2 (by decide) (by omega) rfl ?_
  rintro ⟨l, t⟩ st2 nx2 g3 g4
  dsimp only at g4 ⊢
  have hsl : (0 ≤ ((1 : Nat) : Int).toNat ∧ ((1 : Nat) : Int).toNat ≤ (l.map fun x => [iD x]).length ∧ ∀ el : List D, el ∈ (l.map fun x => [iD x]) → el.length = 1) := ⟨Nat.zero_le _, by rw [List.length_map, g4.1]; omega, ints_len l⟩
  have hsE : (l.map fun x => [iD x]).take (((1 : Nat) : Int).toNat - 0) = (l.take 1).map fun x => [iD x] := by rw [Int.toNat_natCast, Nat.sub_zero, List.map_take]
  conv => whnf
  repeat' first | ((first | refine LookP.mk _ rfl ?_ | refine ShlP.mk _ (by first | (simp only [List.set, over, List.take, List.drop, List.append_eq, List.nil_append, List.cons_append, List.length]; rfl) | rfl) ?_ | refine And.intro (by first | exact hsl | assumption | exact ⟨by kernel_rfl, rfl⟩ | decide | omega | exact ⟨rfl, by decide, by simp only [List.length_map, Nat.zero_add]; omega⟩) ?_ | refine pc_use c4 ?_ | refine pc_head c4 ?_ | rw [hsE] | refine HpP.force ?_); conv => whnf) | (intro t ht; cases t <;> conv => whnf)
  exact fin ⟨⟨1, l.take 1, _, 0, 0⟩, st2, nx2, by omega, gt_ok (a := 1) g4 rfl rfl (by omega), rfl, rfl⟩
end Go.Tz
namespace Go.Tz
open Go Go.AL Go.Proofs
abbrev ksC (w m i : Nat) : List (Nat × AV) := [(0, .ptr 0 3 0 0), (1, .d (iD w)), (3, .d cfD), (8, .ptr 80 3 0 0), (9, .ptr 81 3 0 0), (15, .d (iD m)), (16, .d (iD i))]
abbrev r80 : Blk := .arr 3 [[.d (iD 0), .d (iD 0), .d (.sl [] true)]]
abbrev c81 (w nm i : Nat) : Blk := .arr 3 [[.d (iD w), .d (iD 0), .sl nm 4 0 i i false]]
def valC (w i : Nat) (g : Gt) : Nat → AV
 | 0 => .ptr 81 3 0 (0 + 2)
 | 1 => .sl 82 4 0 i i false
 | 2 => .ptr 0 3 0 0
 | 3 => .d (iD w)
 | 4 => .d cfD
 | 5 => .d g.d
 | 6 => .sl 90 4 0 1 1 true
 | 7 => .sl 91 4 0 (i + 1) (i + 1) false
 | _ => .ptr 81 3 0 (0 + 2)
structure SS (bs : List Int) (u : Bool) (w m i nx : Nat) (st : Int) (gs : List Gt) (g : Gt) (nx' : Nat) (st' : Int) (L : Nat → Bool) (s : St) : Prop where
 kp : ∀ t v, (t, v) ∈ ksC w m i → lk s.env t = v
 hr : s.heap.get 80 = some r80
 c0 : L 9 = false → s.heap.get 81 = some (c81 w 82 i)
 c1 : L 9 = true → s.heap.get 81 = some (c81 w 91 (i + 1))
 s0 : L 5 = false → s.heap.get 0 = some (storeB bs u nx st) ∧ s.nx = 83
 s1 : L 5 = true → s.heap.get 0 = some (storeB bs u nx' st')
 n5 : L 5 = true → L 6 = false → s.nx = 90
 n6 : L 6 = true → L 7 = false → s.nx = 91
 n7 : L 7 = true → s.nx = 92
 o6 : L 6 = true → L 5 = true
 o7 : L 7 = true → L 6 = true ∧ L 1 = true
 o9 : L 9 = true → L 7 = true
 g82 : L 7 = false → s.heap.get 82 = some (dblk 4 (gs.map Gt.l))
 b90 : L 6 = true → s.heap.get 90 = some (.arr 4 [g.l.map AV.d])
 b91 : L 7 = true → s.heap.get 91 = some (dblk 4 ((gs ++ [g]).map Gt.l))
 v : ∀ j, j < 9 → L j = true → lk s.env (18 + j) = valC w i g j
variable {bs : List Int} {u : Bool} {w m i nx nx' : Nat} {st st' : Int} {gs : List Gt} {g : Gt}
theorem ks_lt {t : Nat} {v : AV} (h : (t, v) ∈ ksC w m i) : t < 18 := by
 simp only [ksC, List.mem_cons, Prod.mk.injEq, List.not_mem_nil, or_false] at h
 omega
theorem ss_put {L : Nat → Bool} {s : St} {a : Nat} {v : AV} (h : SS bs u w m i nx st gs g nx' st' L s) (ha : a < 9) (h5 : a ≠ 5) (h6 : a ≠ 6) (h7 : a ≠ 7) (hv : valC w i g a = v) : SS bs u w m i nx st gs g nx' st' (fun j => if j = a then true else L j) (s.put (some (18 + a)) v) := by
 subst hv
 have e5 : (if 5 = a then true else L 5) = L 5 := if_neg (Ne.symm h5)
 have e6 : (if 6 = a then true else L 6) = L 6 := if_neg (Ne.symm h6)
 have e7 : (if 7 = a then true else L 7) = L 7 := if_neg (Ne.symm h7)
 have e9 : (if 9 = a then true else L 9) = L 9 := if_neg (by omega)
 refine ⟨fun t v hm => ?_, h.hr, ?_, ?_, ?_, ?_, ?_, ?_, ?_, ?_, ?_, ?_, ?_, ?_, ?_, fun j hj hl => ?_⟩ <;> (try simp only [e5, e6, e7, e9])
 ·have := ks_lt hm
  rw [lk_put_ne (by omega)]
  exact h.kp t v hm
 ·exact h.c0
 ·exact h.c1
 ·exact h.s0
 ·exact h.s1
 ·exact h.n5
 ·exact h.n6
 ·exact h.n7
 ·exact h.o6
 ·exact fun q => ⟨(h.o7 q).1, by by_cases e : 1 = a <;> simp [e, (h.o7 q).2]⟩
 ·exact h.o9
 ·exact h.g82
 ·exact h.b90
 ·exact h.b91
 ·by_cases e : j = a
  ·subst e; exact lk_cons_same _ _ _
  ·rw [lk_put_ne (by omega)]
   simp only [if_neg e] at hl
   exact h.v j hj hl
noncomputable def opsC : Array Oper := (Tryz.f139.body.bind (findReg 4)).getD #[]
theorem regC (hw : 1 ≤ w ∧ w ≤ 12) (hbs : bs.length ≤ 1000) (hnx : nx + 13 ≤ 4611686018427387904) (hl : gs.length = i) (hi : i ≤ 1000) {s0 : St} (S0 : SS bs u w m i nx st gs g nx' st' (fun _ => false) s0) {k : Exit → St → Prop}
  (hk : ∀ L s' g nx' st', GtOk w g → nx' ≤ nx + 13 → SS bs u w m i nx st gs g nx' st' L s' → (∀ a, a < 10 → L a = true) → ∃ st'', Sub GG 80 [] s' st'' ∧ k .normal st'') : RegVC Pr GG Tryz.f139.ntmps 80 [] 4 opsC s0 k := by
 refine ⟨fun r => awp_any pok.mixed (edgeB_ok (by kernel_rfl)) (fun L s => ∃ g nx' st', (L 5 = true → GtOk w g ∧ nx' ≤ nx + 13) ∧ SS bs u w m i nx st gs g nx' st' L s) ⟨g, nx', st', ⟨fun h => (nomatch h), S0⟩⟩ ?_ ?_⟩
 ·rintro L s a op ⟨g, nx', st', hg, hS⟩ hL ho hall
  have ha : a < 10 := (Array.getElem?_eq_some_iff.1 ho).1
  have v := hS.v
  have T65 := pok.tab.get (t := 65) rfl
  have T63 := pok.tab.get (t := 63) rfl
  have T67 := pok.tab.get (t := 67) rfl
  have keep : ∀ {c : Nat}, c ≠ 5 → ((if 5 = c then true else L 5) = true → GtOk w g ∧ nx' ≤ nx + 13) := fun hc h => hg (by rwa [if_neg (Ne.symm hc)] at h)
  have cases10 : a = 0 ∨ a = 1 ∨ a = 2 ∨ a = 3 ∨ a = 4 ∨ a = 5 ∨ a = 6 ∨ a = 7 ∨ a = 8 ∨ a = 9 := by omega
  rcases cases10 with rfl | rfl | rfl | rfl | rfl | rfl | rfl | rfl | rfl | rfl
  all_goals
   have ho := Option.some.inj (show some _ = some op from ho)
   subst ho
   refine ⟨rfl, ?_⟩
  ·exact opwp_pure (fun c h => by cases h) (pure_fieldAddr rfl (T65.fld rfl rfl) (hS.kp 9 _ (List.mem_of_getElem? (i := 4) rfl))) rfl ⟨g, nx', st', keep (by decide), ss_put hS (a := 0) (by decide) (by decide) (by decide) (by decide) rfl⟩
  ·have q := v 0 (by decide) (hall ⟨0, .data⟩ (Array.mem_of_getElem? (i := 0) rfl) rfl)
   have h9 : L 9 = false := by
    cases h : L 9 with
    | false => rfl
    | true => exact absurd (hS.o7 (hS.o9 h)).2 (by rw [hL]; decide)
   exact opwp_pure (fun c h => by cases h) (pure_load rfl T63.tok (fun _ => rfl) q (hS.c0 h9) rfl rfl rfl) rfl ⟨g, nx', st', keep (by decide), ss_put hS (a := 1) (by decide) (by decide) (by decide) (by decide) rfl⟩
  ·exact opwp_pure (fun c h => by cases h) (pure_move rfl (hS.kp 0 _ (List.mem_of_getElem? (i := 0) rfl))) rfl ⟨g, nx', st', keep (by decide), ss_put hS (a := 2) (by decide) (by decide) (by decide) (by decide) rfl⟩
  ·exact opwp_pure (fun c h => by cases h) (pure_move rfl (hS.kp 1 _ (List.mem_of_getElem? (i := 1) rfl))) rfl ⟨g, nx', st', keep (by decide), ss_put hS (a := 3) (by decide) (by decide) (by decide) (by decide) rfl⟩
  ·exact opwp_pure (fun c h => by cases h) (pure_move rfl (hS.kp 3 _ (List.mem_of_getElem? (i := 2) rfl))) rfl ⟨g, nx', st', keep (by decide), ss_put hS (a := 4) (by decide) (by decide) (by decide) (by decide) rfl⟩
  ·have q2 := v 2 (by decide) (hall ⟨2, .data⟩ (Array.mem_of_getElem? (i := 0) rfl) rfl)
   have q3 := v 3 (by decide) (hall ⟨3, .data⟩ (Array.mem_of_getElem? (i := 1) rfl) rfl)
   have q4 := v 4 (by decide) (hall ⟨4, .data⟩ (Array.mem_of_getElem? (i := 2) rfl) rfl)
   obtain ⟨e0, enx⟩ := hS.s0 hL
   have n6 : L 6 = false := by
    cases h : L 6 with
    | false => rfl
    | true => exact absurd (hS.o6 h) (by rw [hL]; decide)
   have n7 : L 7 = false := by
    cases h : L 7 with
    | false => rfl
    | true => exact absurd (hS.o7 h).1 (by rw [n6]; decide)
   have n9 : L 9 = false := by
    cases h : L 9 with
    | false => rfl
    | true => exact absurd (hS.o9 h) (by rw [n7]; decide)
   have hc := sc_use (nx0 := s.nx) (nx := nx) (st := st) (H := s.heap) (k := fun v H' n' => ∃ g nx' st', ((if 5 = 5 then true else L 5) = true → GtOk w g ∧ nx' ≤ nx + 13) ∧ SS bs u w m i nx st gs g nx' st' (fun j => if j = 5 then true else L j) (({ env := s.env, heap := H', nx := n' } : St).put (some 23) v)) (sc65 bs u w hw hbs) (by omega) hnx e0 ?_
   ·obtain ⟨hf, hc⟩ := hc
    refine opwp_call (f := 65) (fi := []) (ca := []) (l := [.ptr 0 3 0 0, .d (iD w), .d cfD]) rfl rfl hf ?_ rfl hc
    show [] ++ [lk s.env 20, lk s.env 21, lk s.env 22] ++ [] = _
    rw [show lk s.env 20 = _ from q2, show lk s.env 21 = _ from q3, show lk s.env 22 = _ from q4]; rfl
   ·intro g2 st2 nx2 hb2 hg2
    refine ⟨g2, nx2, st2, fun _ => ⟨hg2, hb2⟩, fun t v hm => ?_, (get_cons_ne _ _ (by decide)).trans hS.hr, fun _ => (get_cons_ne _ _ (by decide)).trans (hS.c0 n9), fun h => absurd (show L 9 = true from h) (by rw [n9]; decide), fun h => (nomatch h), fun _ => get_cons_same _ _ _, fun _ _ => rfl, fun h => absurd (show L 6 = true from h) (by rw [n6]; decide), fun h => absurd (show L 7 = true from h) (by rw [n7]; decide), fun h => absurd (show L 6 = true from h) (by rw [n6]; decide), fun h => absurd (show L 7 = true from h) (by rw [n7]; decide), fun h => absurd (show L 9 = true from h) (by rw [n9]; decide), fun _ => (get_cons_ne _ _ (by decide)).trans (hS.g82 n7), fun h => absurd (show L 6 = true from h) (by rw [n6]; decide), fun h => absurd (show L 7 = true from h) (by rw [n7]; decide), fun j hj hl => ?_⟩
    ·have := ks_lt hm
     exact (lk_cons_ne _ _ (by omega)).trans (hS.kp t v hm)
    ·by_cases e : j = 5
     ·subst e; exact lk_cons_same _ _ _
     ·simp only [if_neg e] at hl
      refine (lk_cons_ne _ _ (by omega)).trans ((hS.v j hj hl).trans ?_)
      match j, e with
      | 0, _ => rfl
      | 1, _ => rfl
      | 2, _ => rfl
      | 3, _ => rfl
      | 4, _ => rfl
      | 6, _ => rfl
      | 7, _ => rfl
      | j + 8, _ => rfl
  ·have q := v 5 (by decide) (hall ⟨5, .data⟩ (Array.mem_of_getElem? (i := 0) rfl) rfl)
   have l5 : L 5 = true := hall ⟨5, .data⟩ (Array.mem_of_getElem? (i := 0) rfl) rfl
   have n7 : L 7 = false := by
    cases h : L 7 with
    | false => rfl
    | true => exact absurd (hS.o7 h).1 (by rw [hL]; decide)
   have n9 : L 9 = false := by
    cases h : L 9 with
    | false => rfl
    | true => exact absurd (hS.o9 h) (by rw [n7]; decide)
   have enx := hS.n5 l5 hL
   refine opwp_step (k := 1) (fun c hc => by cases hc) ((step_buildSlice (len := 1) (ps := #[(0, .tmp 23)]) (nm := 90) (zs := [.d (iD 0), .d (.sl [] true), .d (iD 0), .d (iD 0)]) (els := [g.l.map AV.d]) rfl ⟨T63.2, T67.1⟩ rfl rfl (by show fillA [(0 * 4, 4)] _ [(0, lk s.env 23)] = _; rw [show lk s.env 23 = _ from q]; rfl) (fun el h => by simp at h; subst h; rfl) rfl (Nat.le_of_ble_eq_true rfl)).names fun m hm => by subst hm; omega) rfl ?_
   refine ⟨g, nx', st', keep (by decide), fun t v hm => ?_, (get_cons_ne _ _ (by decide)).trans hS.hr, fun _ => (get_cons_ne _ _ (by decide)).trans (hS.c0 n9), fun h => absurd (show L 9 = true from h) (by rw [n9]; decide), fun h => absurd (show L 5 = false from h) (by rw [l5]; decide), fun _ => (get_cons_ne _ _ (by decide)).trans (hS.s1 l5), fun _ h => (nomatch h), fun _ _ => by show s.nx + 1 = 91; omega, fun h => absurd (show L 7 = true from h) (by rw [n7]; decide), fun _ => l5, fun h => absurd (show L 7 = true from h) (by rw [n7]; decide), fun h => absurd (show L 9 = true from h) (by rw [n9]; decide), fun _ => (get_cons_ne _ _ (by decide)).trans (hS.g82 n7), fun _ => get_cons_same _ _ _, fun h => absurd (show L 7 = true from h) (by rw [n7]; decide), fun j hj hl => ?_⟩
   ·have := ks_lt hm
    exact (lk_cons_ne _ _ (by omega)).trans (hS.kp t v hm)
   ·by_cases e : j = 6
    ·subst e; exact lk_cons_same _ _ _
    ·simp only [if_neg e] at hl
     exact (lk_cons_ne _ _ (by omega)).trans (hS.v j hj hl)
  ·have q1 := v 1 (by decide) (hall ⟨1, .data⟩ (Array.mem_of_getElem? (i := 0) rfl) rfl)
   have q6 := v 6 (by decide) (hall ⟨6, .data⟩ (Array.mem_of_getElem? (i := 1) rfl) rfl)
   have l1 : L 1 = true := hall ⟨1, .data⟩ (Array.mem_of_getElem? (i := 0) rfl) rfl
   have l6 : L 6 = true := hall ⟨6, .data⟩ (Array.mem_of_getElem? (i := 1) rfl) rfl
   have l5 := hS.o6 l6
   have n9 : L 9 = false := by
    cases h : L 9 with
    | false => rfl
    | true => exact absurd (hS.o9 h) (by rw [hL]; decide)
   have enx := hS.n6 l6 hL
   have b82 := hS.g82 hL
   have b90 := hS.b90 l6
   have hlen : ((gs.map Gt.l).map fun el => el.map AV.d).length = i := by rw [List.length_map, List.length_map, hl]
   have hev : s.ev GG (.tmp 24) = .sl 90 4 0 1 1 true := q6
   have hE : Els s.heap 4 (s.ev GG (.tmp 24)) [g.l.map AV.d] := by
    rw [hev]
    exact Els.sl 90 0 1 1 true [g.l.map AV.d] b90 (Nat.le_refl 1)
   have hsc : ∀ el, el ∈ [g.l.map AV.d] → ∀ v, v ∈ el → v.scalar = true := fun el h v hv => by
    simp only [List.mem_singleton] at h
    subst h
    simp only [Gt.l, List.map_cons, List.map_nil, List.mem_cons, List.not_mem_nil, or_false] at hv
    rcases hv with rfl | rfl | rfl | rfl <;> rfl
   refine opwp_step (k := 1) (fun c hc => by cases hc) ((step_append (t := 63) (t2 := 63) (e := 67) (e2 := 67) (x := .tmp 19) (y := .tmp 24) (nm' := 91) (nm := 82) (len := i) (room := i) (tg := false) (S := 4) (B := 48) (ys := [g.l.map AV.d]) (by exact rfl) ⟨T63.2, T67.1⟩ T63.2 q1 b82 hlen (Nat.le_refl _) hE hsc (by decide) (by show (2 * (i + 1) + 192) * 48 ≤ 281474976710656; omega)).names fun m hm => by subst hm; omega) rfl ?_
   have old' : ∀ n bl, n ≠ 91 → n ≠ 82 → s.heap.get n = some bl → AHeap.get ((91, some (.arr 4 (((gs.map Gt.l).map fun el => el.map AV.d) ++ [g.l.map AV.d]))) :: (82, none) :: s.heap) n = some bl := fun n bl h1 h2 h3 => by rw [get_cons_ne _ _ h1, get_cons_ne _ _ h2, h3]
   refine ⟨g, nx', st', keep (by decide), fun t v hm => ?_, old' _ _ (by decide) (by decide) hS.hr, fun _ => old' _ _ (by decide) (by decide) (hS.c0 n9), fun h => absurd (show L 9 = true from h) (by rw [n9]; decide), fun h => absurd (show L 5 = false from h) (by rw [l5]; decide), fun _ => old' _ _ (by decide) (by decide) (hS.s1 l5), fun _ h => absurd (show L 6 = false from h) (by rw [l6]; decide), fun _ h => (nomatch h), fun _ => by show s.nx + 1 = 92; omega, fun _ => l5, fun _ => ⟨l6, l1⟩, fun h => absurd (show L 9 = true from h) (by rw [n9]; decide), fun h => (nomatch h), fun _ => old' _ _ (by decide) (by decide) b90, fun _ => ?_, fun j hj hl' => ?_⟩
   ·have := ks_lt hm
    exact (lk_cons_ne _ _ (by omega)).trans (hS.kp t v hm)
   ·refine (get_cons_same _ _ _).trans (congrArg some ?_)
    show _ = dblk 4 _
    unfold dblk
    simp only [List.map_append, List.map_cons, List.map_nil]
   ·by_cases e : j = 7
    ·subst e; exact lk_cons_same _ _ _
    ·simp only [if_neg e] at hl'
     exact (lk_cons_ne _ _ (by omega)).trans (hS.v j hj hl')
  ·exact opwp_pure (fun c h => by cases h) (pure_fieldAddr rfl (T65.fld rfl rfl) (hS.kp 9 _ (List.mem_of_getElem? (i := 4) rfl))) rfl ⟨g, nx', st', keep (by decide), ss_put hS (a := 8) (by decide) (by decide) (by decide) (by decide) rfl⟩
  ·have q7 := v 7 (by decide) (hall ⟨7, .data⟩ (Array.mem_of_getElem? (i := 1) rfl) rfl)
   have q8 := v 8 (by decide) (hall ⟨8, .data⟩ (Array.mem_of_getElem? (i := 0) rfl) rfl)
   have l7 : L 7 = true := hall ⟨7, .data⟩ (Array.mem_of_getElem? (i := 1) rfl) rfl
   have l6 := (hS.o7 l7).1
   have l5 := hS.o6 l6
   refine opwp_step (k := 0) (fun c hc => by cases hc) ((step_store (x := .tmp 26) (y := .tmp 25) (nm := 81) (sz := 3) (idx := 0) (off := 2) (v := .sl 91 4 0 (i + 1) (i + 1) false) rfl T63.1 q8 q7 (hS.c0 hL) rfl rfl rfl rfl (Nat.le_of_ble_eq_true rfl)).names fun _ h => h.elim) rfl ?_
   refine ⟨g, nx', st', keep (by decide), hS.kp, (get_cons_ne _ _ (by decide)).trans hS.hr, fun h => (nomatch h), fun _ => get_cons_same _ _ _, fun h => absurd (show L 5 = false from h) (by rw [l5]; decide), fun _ => (get_cons_ne _ _ (by decide)).trans (hS.s1 l5), fun _ h => absurd (show L 6 = false from h) (by rw [l6]; decide), fun _ h => absurd (show L 7 = false from h) (by rw [l7]; decide), fun _ => hS.n7 l7, fun _ => l5, hS.o7, fun _ => l7, fun h => absurd (show L 7 = false from h) (by rw [l7]; decide), fun _ => (get_cons_ne _ _ (by decide)).trans (hS.b90 l6), fun _ => (get_cons_ne _ _ (by decide)).trans (hS.b91 l7), fun j hj hl => hS.v j hj ?_⟩
   simpa [show j ≠ 9 by omega] using hl
 ·rintro L s ⟨g, nx', st', hg, hS⟩ hall
  obtain ⟨h1, h2⟩ := hg (hall 5 (by decide))
  exact ⟨rfl, hk L s g nx' st' h1 h2 hS fun a ha => hall a ha⟩
end Go.Tz
namespace Go.AL
open Go
variable {P : Program} {G : Nat → Option (List D)} {T : Tab} {b n : Nat} {ms : List Nat} {st : St}
theorem loop_useR {σ : Type} (hp : POk P T) (ID : Nat) {c : Code} {k : Exit → St → Prop} (I : σ → St) (μ : σ → Nat) (s0 : σ) (hs : Sub G b ms st (I s0)) (hc : chkCode n c = true)
  (round : ∀ (s : σ) (A : St → Prop), (∀ st' (t : σ), Sub G b ms st' (I t) → μ t < μ s → A st') → xcodeR P ID T G n b ms c (I s) fun e st' => nextK e st' A k) : LoopVC P G n b ms c st k := by
 refine ⟨fun r => awp_loop (Q := fun e st' ms' => ms' = ms ∧ k e st') I μ s0 hs ?_⟩
 intro s
 refine awp_mono (xcodeR_sound hp c (I s) _ hc (round s (fun st' => ∃ t : σ, Sub G b ms st' (I t) ∧ μ t < μ s) fun st' t h1 h2 => ⟨t, h1, h2⟩)) ?_
 rintro e s' m' ⟨hm, h⟩
 cases e with
 | normal => exact ⟨hm, h⟩
 | _ => exact ⟨hm, h⟩
end Go.AL
namespace Go.Tz
open Go Go.AL Go.Proofs
variable {bs : List Int} {u : Bool} {w m i nx : Nat} {st : Int} {gs : List Gt}
theorem regCc {ops : Array Oper} (hops : ops = opsC) (hw : 1 ≤ w ∧ w ≤ 12) (hbs : bs.length ≤ 1000) (hnx : nx + 13 ≤ 4611686018427387904) (hl : gs.length = i) (hi : i ≤ 1000) {e : List (Nat × AV)} {H : AHeap} {n : Nat}
  (he : AllP (fun p => lk e p.1 = p.2) (ksC w m i)) (h0 : H.get 0 = some (storeB bs u nx st)) (hr : H.get 80 = some r80) (h81 : H.get 81 = some (c81 w 82 i)) (h82 : H.get 82 = some (dblk 4 (gs.map Gt.l))) (hn : n = 83) {k : Exit → St → Prop}
  (hk : ∀ (g : Gt) (nx' : Nat) (st' : Int), GtOk w g → nx' ≤ nx + 13 → k .normal ⟨ksC w m i, [(0, some (storeB bs u nx' st')), (80, some r80), (81, some (c81 w 91 (i + 1))), (91, some (dblk 4 ((gs ++ [g]).map Gt.l)))], 92⟩) : RegVC Pr GG Tryz.f139.ntmps 80 [] 4 ops ⟨e, H, n⟩ k := by
 subst hops
 refine regC (g := ⟨0, [], false, 0, 0⟩) (nx' := 0) (st' := 0) hw hbs hnx hl hi ⟨fun t v hm => AllP.mem he _ hm, hr, fun _ => h81, fun h => (nomatch h), fun _ => ⟨h0, hn⟩, fun h => (nomatch h), fun h => (nomatch h), fun h => (nomatch h), fun h => (nomatch h), fun h => (nomatch h), fun h => (nomatch h), fun h => (nomatch h), fun _ => h82, fun h => (nomatch h), fun h => (nomatch h), fun j _ h => (nomatch h)⟩ ?_
 intro L s' g nx' st' hg hb hS hL
 refine ⟨_, keep_env (Nat.le_of_ble_eq_true rfl) ?_ ?_ trivial, hk g nx' st' hg hb⟩
 ·have q := fun j (v : Nat × AV) (h : (ksC w m i)[j]? = some v) => hS.kp v.1 v.2 (List.mem_of_getElem? h)
  exact ⟨⟨q 0 _ rfl, rfl⟩, ⟨q 1 _ rfl, rfl⟩, ⟨q 2 _ rfl, rfl⟩, ⟨q 3 _ rfl, rfl⟩, ⟨q 4 _ rfl, rfl⟩, ⟨q 5 _ rfl, rfl⟩, ⟨q 6 _ rfl, rfl⟩, trivial⟩
 ·exact ⟨⟨ltB rfl, _, rfl, hS.s1 (hL 5 (by decide)), below_arr rfl⟩, ⟨ltB rfl, _, rfl, hS.hr, below_arr rfl⟩, ⟨ltB rfl, _, rfl, hS.c1 (hL 9 (by decide)), below_arr rfl⟩, ⟨ltB rfl, _, rfl, hS.b91 (hL 7 (by decide)), below_dblk _ _ _⟩, trivial⟩
theorem chk139 : chkFn Tryz.f139 = true := by kernel_rfl
abbrev stC (bs : List Int) (u : Bool) (w m : Nat) (s : List Gt × Int × Nat) : St := ⟨ksC w m s.1.length, [(0, some (storeB bs u s.2.2 s.2.1)), (80, some r80), (81, some (c81 w 82 s.1.length)), (82, some (dblk 4 (s.1.map Gt.l)))], 83⟩
theorem circ139 (bs : List Int) (u : Bool) (w most nx : Nat) (st : Int) (hw : 1 ≤ w ∧ w ≤ 12) (hm : most ≤ 130) (hbs : bs.length ≤ 1000) (hb : nx + (1 + 13 * most) ≤ 4611686018427387904) :
  ACall Pr GG 139 [.ptr 0 3 0 0, .d (iD w), .d (iD most), .d cfD] [(0, some (storeB bs u nx st))] 80 fun v H _ => ∃ (gs : List Gt) (st' : Int) (nx' : Nat), nx' ≤ nx + (1 + 13 * most) ∧ (gs.length ≤ most ∧ ∀ g, g ∈ gs → GtOk w g) ∧ v = .agg [.d (iD w), .d (iD 0), .sl 82 4 0 gs.length gs.length false] ∧ H.get 0 = some (storeB bs u nx' st') ∧ H.get 82 = some (dblk 4 (gs.map Gt.l)) := by
 have c1 := sc71 bs u 82 (most + 1) (by decide) hbs (by omega)
 have e0 : iadd .i64 (most : Int) 1 = ((most + 1 : Nat) : Int) := iadd_nat (b := 1) (by omega)
 refine fn_walkR pok 4 Tryz.func139 chk139 ?_
 conv => whnf
 repeat' first | ((first | refine LookP.mk _ rfl ?_ | refine ShlP.mk _ (by first | (simp only [List.set, over, List.take, List.drop, List.append_eq, List.nil_append, List.cons_append, List.length]; rfl) | rfl) ?_ | refine And.intro (by first | assumption | exact ⟨by kernel_rfl, rfl⟩ | decide | omega | exact ⟨rfl, by decide, by simp only [List.length_map, Nat.zero_add]; omega⟩) ?_ | rw [e0] | refine HpP.force ?_); conv => whnf) | (intro t ht; cases t <;> conv => whnf)
 refine sc_use (nx := nx) (st := st) c1 (by decide) (by omega) rfl ?_
 intro m st1 nx1 b1 m1
 conv => whnf
 repeat' first | ((first | refine LookP.mk _ rfl ?_ | refine ShlP.mk _ (by first | (simp only [List.set, over, List.take, List.drop, List.append_eq, List.nil_append, List.cons_append, List.length]; rfl) | rfl) ?_ | refine And.intro (by first | assumption | exact ⟨by kernel_rfl, rfl⟩ | decide | omega | exact ⟨rfl, by decide, by simp only [List.length_map, Nat.zero_add]; omega⟩) ?_ | refine HpP.force ?_); conv => whnf) | (intro t ht; cases t <;> conv => whnf)
 refine loop_useR (σ := { s : List Gt × Int × Nat // s.1.length ≤ m ∧ (∀ g, g ∈ s.1 → GtOk w g) ∧ s.2.2 ≤ nx + 1 + 13 * s.1.length }) pok 4 (fun s => stC bs u w m s.1) (fun s => m - s.1.1.length) ⟨([], st1, nx1), Nat.zero_le _, fun g hg => (nomatch hg), b1⟩ ?_ (by kernel_rfl) ?_
 ·refine Sub.trans (sub_nilH3 (nm := 81) (S := 4) (by decide) rfl) ?_
  refine keep_env (by first | exact Nat.zero_le _ | exact Nat.le_of_ble_eq_true rfl) ?_ ?_ trivial
  ·repeat' first | exact trivial | refine ⟨⟨by first | rfl | assumption, rfl⟩, ?_⟩
  ·repeat' first | exact trivial | refine ⟨⟨ltB rfl, _, rfl, by first | rfl | assumption, by first | exact below1 rfl | exact below_dblk _ _ _ | exact below_arr rfl⟩, ?_⟩
 ·rintro ⟨⟨gs, st2, nx2⟩, h1, h2, h3⟩ A hA
  dsimp only at h1 h2 h3 hA ⊢
  have e1 : iadd .i64 (gs.length : Int) 1 = ((gs.length + 1 : Nat) : Int) := iadd_nat (b := 1) (by omega)
  conv => whnf
  repeat' first | ((first | refine LookP.mk _ rfl ?_ | refine ShlP.mk _ (by first | (simp only [List.set, over, List.take, List.drop, List.append_eq, List.nil_append, List.cons_append, List.length]; rfl) | rfl) ?_ | refine And.intro (by first | assumption | exact ⟨by kernel_rfl, rfl⟩ | decide | omega | exact ⟨rfl, by decide, by simp only [List.length_map, Nat.zero_add]; omega⟩) ?_ | refine HpP.force ?_); conv => whnf) | (intro t ht; cases t <;> conv => whnf)
  ·exact fin ⟨gs, st2, nx2, by omega, ⟨by omega, h2⟩, rfl, rfl, rfl⟩
  ·have hlt : gs.length < m := by
    have := of_decide_eq_true ht
    dsimp only at this
    omega
   refine regCc (gs := gs) (nx := nx2) (st := st2) rfl hw hbs (by omega) rfl (by omega) ⟨rfl, rfl, rfl, rfl, rfl, rfl, rfl, trivial⟩ rfl rfl rfl rfl rfl ?_
   intro g nx3 st3 g1 g2
   have hln : (gs ++ [g]).length = gs.length + 1 := by rw [List.length_append]; rfl
   conv => whnf
   repeat' first | ((first | refine LookP.mk _ rfl ?_ | refine ShlP.mk _ (by first | (simp only [List.set, over, List.take, List.drop, List.append_eq, List.nil_append, List.cons_append, List.length]; rfl) | rfl) ?_ | refine And.intro (by first | assumption | exact ⟨by kernel_rfl, rfl⟩ | decide | omega | exact ⟨rfl, by decide, by simp only [List.length_map, Nat.zero_add]; omega⟩) ?_ | refine HpP.force ?_); conv => whnf) | (intro t ht; cases t <;> conv => whnf)
   refine hA _ ⟨(gs ++ [g], st3, nx3), by rw [hln]; exact hlt, fun g' hg' => ?_, by show nx3 ≤ nx + 1 + 13 * (gs ++ [g]).length; rw [hln]; omega⟩ ?_ (by show m - (gs ++ [g]).length < m - gs.length; rw [hln]; omega)
   ·rcases List.mem_append.1 hg' with q | q
    ·exact h2 _ q
    ·rw [List.mem_singleton.1 q]; exact g1
   ·have e3 : stC bs u w m (gs ++ [g], st3, nx3) = ⟨ksC w m (gs.length + 1), [(0, some (storeB bs u nx3 st3)), (80, some r80), (81, some (c81 w 82 (gs.length + 1))), (82, some (dblk 4 ((gs ++ [g]).map Gt.l)))], 83⟩ := by
     simp only [stC, hln]
    refine Eq.subst (motive := fun s => AL.Sub GG 80 [] _ s) e3.symm ?_
    first | refine ren_env [(82, 91)] ?_ ?_ ?_ trivial | refine ren_envB [(82, 91)] rfl rfl ?_ ?_ ?_ trivial
    ·repeat' first | exact trivial | refine ⟨⟨by first | rfl | assumption | exact congrArg (fun n => AV.d (iD n)) e1, rfl⟩, ?_⟩
    ·repeat' first | exact trivial | refine ⟨⟨ltB rfl, _, rfl, by first | rfl | assumption | exact get_ren rfl (by first | rfl | assumption | exact get_ren rfl (show some (Blk.ren _ (dblk 4 ((gs ++ [g]).map Gt.l))) = some (dblk 4 ((gs ++ [g]).map Gt.l)) from by rw [ren_dblk])) | exact get_ren rfl (show some (Blk.ren _ (dblk 4 ((gs ++ [g]).map Gt.l))) = some (dblk 4 ((gs ++ [g]).map Gt.l)) from by rw [ren_dblk]), by first | exact below1 rfl | exact below_dblk _ _ _ | exact below_arr rfl⟩, ?_⟩
    ·repeat' first | exact trivial | (refine And.intro ?_ ?_) | (exact fun _ => rfl) | (exact fun h => absurd h (Nat.ne_of_beq_eq_false rfl))
theorem sc139 (bs : List Int) (u : Bool) (w most : Nat) (hw : 1 ≤ w ∧ w ≤ 12) (hm : most ≤ 130) (hbs : bs.length ≤ 1000) : SC 139 [iD w, iD most, cfD] bs u (1 + 13 * most) 80 (fun p : List Gt × Bool => circD w 0 p.1 p.2) fun p => p.1.length ≤ most ∧ ∀ g, g ∈ p.1 → GtOk w g :=
 sc_mk (isFn_of Tryz.func139 chk139) (by decide) fun nx st hb => by
  refine acall_mono (acall_freeze1 (K' := fun v H _ => ∃ (p : List Gt × Bool) (st' : Int) (nx' : Nat), nx' ≤ nx + (1 + 13 * most) ∧ (p.1.length ≤ most ∧ ∀ g, g ∈ p.1 → GtOk w g) ∧ v = .d (circD w 0 p.1 p.2) ∧ H.get 0 = some (storeB bs u nx' st')) (circ139 bs u w most nx st hw hm hbs hb) ?_) fun _ _ _ h => h
  rintro v H m ⟨gs, st', nx', h1, h2, rfl, g0, g1⟩
  have hd : AHeap.get (dels [82] H) 0 = some (storeB bs u nx' st') := by
   show (AHeap.del H 82).get 0 = _
   rw [get_del, if_neg (by decide)]; exact g0
  exact ⟨82, _, circD w 0 gs false, g1, asD_agg3 (.d _) (.d _) (asD_dblk (nm := 82) (sz := 4) (l := gs.map Gt.l) rfl (by simp)), (gs, false), st', nx', h1, h2, rfl, hd⟩
end Go.Tz
namespace Go.AL
open Go
variable {P : Program} {G G2 : Nat → Option (List D)} {f : FuncId}
theorem hrel_down (hG : ∀ g ds, G g = some ds → G2 g = some ds) {C : Ctx} {H : AHeap} (h : HRel G2 C H) : HRel G C H := ⟨h.blk, h.inj, h.ro, fun g ds e => h.glob g ds (hG g ds e)⟩
theorem acall_up (hG : ∀ g ds, G g = some ds → G2 g = some ds) {args : List AV} {H : AHeap} {nx : Nat} {K : AV → AHeap → Nat → Prop} (h : ACall P G f args H nx K) : ACall P G2 f args H nx K := by
 intro C vs hH hU hl hr
 refine (h C vs (hrel_down hG hH) hU hl hr).mono ?_
 rintro e w' ⟨x, v, H', n', C', rfl, rfl, hk, hv, h1, hU', hT⟩
 exact ⟨x, v, H', n', C', rfl, rfl, hk, hv, ⟨h1.blk, h1.inj, h1.ro, fun g ds e => (hH.glob g ds e).later hT hH⟩, hU', hT⟩
theorem pc_up (hG : ∀ g ds, G g = some ds → G2 g = some ds) {ds : List D} {d : D} (h : PC P G f ds d) : PC P G2 f ds d := ⟨h.fn, acall_up hG h.call⟩
end Go.AL
namespace Go.Tz
open Go Go.AL Go.Proofs
def GK : Nat → Option (List D) := fun g => match Nat.beq g 0 with
 | true => some [cfD]
 | false => GG g
theorem gk_up : ∀ g ds, GG g = some ds → GK g = some ds := fun g ds h => by
 match g, h with
 | g + 1, h => exact h
theorem up {f : FuncId} {ds : List D} {d : D} (h : PC Pr GG f ds d) : PC Pr GK f ds d := pc_up gk_up h
structure SK {ι : Type} (f : FuncId) (args : List D) (bs : List Int) (u : Bool) (cnt n0 : Nat) (dof : ι → D) (Q : ι → Prop) : Prop where
 fn : IsFn Pr f
 call : ∀ (nx : Nat) (st : Int), nx + cnt ≤ 4611686018427387904 → ACall Pr GK f (.ptr 0 3 0 0 :: args.map .d) [(0, some (storeB bs u nx st))] n0 fun v H n => ∃ (i : ι) (st' : Int) (nx' : Nat), nx' ≤ nx + cnt ∧ Q i ∧ v = .d (dof i) ∧ H = [(0, some (storeB bs u nx' st'))] ∧ n = n0
variable {ι : Type} {f : FuncId} {args : List D} {bs : List Int} {u : Bool} {cnt n0 : Nat} {dof : ι → D} {Q : ι → Prop}
theorem SC.k (h : SC f args bs u cnt n0 dof Q) : SK f args bs u cnt n0 dof Q := ⟨h.fn, fun nx st hb => acall_up gk_up (h.call nx st hb)⟩
theorem sk_mk (hf : IsFn Pr f) (hn : 0 < n0)
  (h : ∀ (nx : Nat) (st : Int), nx + cnt ≤ 4611686018427387904 → ACall Pr GK f (.ptr 0 3 0 0 :: args.map .d) [(0, some (storeB bs u nx st))] n0 fun v H _ => ∃ (i : ι) (st' : Int) (nx' : Nat), nx' ≤ nx + cnt ∧ Q i ∧ v = .d (dof i) ∧ H.get 0 = some (storeB bs u nx' st')) : SK f args bs u cnt n0 dof Q := by
 refine ⟨hf, fun nx st hb => acall_sub (h nx st hb) ?_⟩
 rintro v H n ⟨i, st', nx', h1, h2, rfl, h4⟩
 refine ⟨.d (dof i), [(0, some (storeB bs u nx' st'))], n0, ?_, i, st', nx', h1, h2, rfl, rfl, rfl⟩
 exact keep_env (Nat.le_refl _) ⟨⟨rfl, rfl⟩, trivial⟩ ⟨⟨hn, _, rfl, h4, below_arr rfl⟩, trivial⟩ trivial
theorem sk_use {nx0 nx : Nat} {st : Int} {H : AHeap} {k : AV → AHeap → Nat → Prop} (h : SK f args bs u cnt n0 dof Q) (hn : nx0 ≤ n0) (hb : nx + cnt ≤ 4611686018427387904)
  (hg : H.get 0 = some (storeB bs u nx st)) (hk : ∀ (i : ι) (st' : Int) (nx' : Nat), nx' ≤ nx + cnt → Q i → k (.d (dof i)) ((0, some (storeB bs u nx' st')) :: H) n0) : CallVC Pr GK f (.ptr 0 3 0 0 :: args.map .d) H nx0 k := by
 refine ⟨h.fn, acall_frame (h.call nx st hb) hn (fun m b hm => ?_) ?_⟩
 ·rw [get_consI] at hm
  by_cases e : m = 0
  ·rw [if_pos e] at hm; rw [e, hg, hm]
  ·rw [if_neg e] at hm; cases hm
 ·rintro v H1 n ⟨d, st', nx', h1, h2, rfl, rfl, rfl⟩
  refine ⟨_, fun m b hm => ?_, hk d st' nx' h1 h2⟩
  rw [get_consI] at hm
  by_cases e : m = 0
  ·rw [if_pos e] at hm; left; rw [get_consI, if_pos e, hm]
  ·rw [if_neg e] at hm
   right
   exact ⟨by rw [get_consI, if_neg e]; rfl, hm⟩
theorem zero_sok {w : Nat} (hw : 1 ≤ w ∧ w ≤ 12) : SOk w (zeroS w) := by
 have key : ((List.range 13).all fun w => Nat.beq w 0 || decide (chkS w (zeroS w) = 0)) = true := by kernel_rfl
 have h := List.all_eq_true.1 key w (List.mem_range.2 (by omega))
 simp only [Bool.or_eq_true, decide_eq_true_eq] at h
 rcases h with h | h
 ·have := Nat.eq_of_beq_eq_true h; omega
 ·obtain ⟨W, e, hs⟩ := chk_ok h
  obtain rfl : w = W := Int.ofNat.inj e
  exact hs
theorem of_sok {w : Nat} (hw : 1 ≤ w ∧ w ≤ 12) {gs : List Gt} (h : ∀ g, g ∈ gs → GtOk w g) : SOk w (ofS w gs) := by
 have key : ∀ (gs : List Gt) (l : List Ps), (∀ g, g ∈ gs → GtOk w g) → SOk w l → SOk w (gs.foldl (fun l g => appG w g l) l) := by
  intro gs
  induction gs with
  | nil => exact fun l _ h => h
  | cons g gs ih => exact fun l hg hl => ih _ (fun g' hg' => hg g' (List.mem_cons_of_mem _ hg')) (appG_sok (hg g (List.mem_cons_self ..)).chk (hg g (List.mem_cons_self ..)).kind hl)
 exact key gs _ h (zero_sok hw)
theorem ofE0 {w : Nat} (hw : 1 ≤ w ∧ w ≤ 12) {gs : List Gt} (hn : gs.length ≤ 120) (h : ∀ g, g ∈ gs → GtOk w g) : ofE w 0 gs = 0 := by
 have h1 : cchk w 0 gs = 0 := cchk0 (by omega) (by omega) fun g hg => (h g hg).chk
 have h2 : gs.all cliffB = true := List.all_eq_true.2 fun g hg => by
  unfold cliffB
  rw [(h g hg).i0, (h g hg).kind]; rfl
 unfold ofE
 rw [if_neg (fun q => q h1), if_pos h2]
theorem of49d {w : Nat} {gs : List Gt} (h : ofE w 0 gs = 0) (t : Bool) (hn : gs.length ≤ 1000) (hws : ∀ g, g ∈ gs → g.ws.length ≤ 1000) : PC Pr GG 49 [circD w 0 gs t] (.tup [stD w (ofS w gs) (tfB gs.length), iD 0]) := by
 have hc := of49 h t hn hws
 have hlen : (ofS w gs).length = w := by unfold ofS; rw [ofS_len, zeroS_len]
 refine pc_freeze hc.fn (acall_mono hc.call ?_)
 rintro v H _ ⟨rfl, rfl, _⟩
 refine asD_tup2 (asD_agg2 (.d _) ?_) (.d _)
 have := asD_pre (H := [(0, some (dblk 4 ((ofS w gs).map Ps.l)))]) (nm := 0) (sz := 4) (l := (ofS w gs).map Ps.l) (len := w) (room := w) (t := tfB gs.length) rfl (by rw [List.length_map, hlen]; exact Nat.le_refl _)
 rwa [List.take_of_length_le (by rw [List.length_map, hlen]; exact Nat.le_refl _), decide_eq_true rfl, Bool.and_true] at this
theorem chk64 : chkFn Tryz.f64 = true := by kernel_rfl
theorem sk64 (bs : List Int) (u : Bool) (w most : Nat) (hw : 1 ≤ w ∧ w ≤ 12) (hm : most ≤ 120) (hbs : bs.length ≤ 1000) : SK 64 [iD w, iD most] bs u (1 + 13 * most) 70 (fun p : List Ps × Bool => .tup [stD w p.1 p.2, .bool true]) fun p => SOk w p.1 := by
 have c1 := (sc139 bs u w most hw (by omega) hbs).k
 refine sk_mk (isFn_of Tryz.func64 chk64) (by decide) fun nx st hb => ?_
 refine fn_walk pok Tryz.func64 chk64 ?_
 conv => whnf
 repeat' first | ((first | refine LookP.mk _ rfl ?_ | refine ShlP.mk _ (by first | (simp only [List.set, over, List.take, List.drop, List.append_eq, List.nil_append, List.cons_append, List.length]; rfl) | rfl) ?_ | refine And.intro (by first | assumption | exact ⟨by kernel_rfl, rfl⟩ | decide | omega | exact ⟨rfl, by decide, by simp only [List.length_map, Nat.zero_add]; omega⟩) ?_ | refine HpP.force ?_); conv => whnf) | (intro t ht; cases t <;> conv => whnf)
 refine sk_use (nx := nx) (st := st) c1 (by decide) hb rfl ?_
 rintro ⟨gs, t⟩ st1 nx1 b1 ⟨g1, g2⟩
 dsimp only at g1 g2 ⊢
 have h0 := ofE0 hw (by omega) g2
 have hs := of_sok hw g2
 have c2 := up (of49d h0 t (by omega) fun g hg => by have := (g2 g hg).len; omega)
 have hlen : (ofS w gs).length = w := hs.len
 have c3 := up (check36 w (ofS w gs) (tfB gs.length) (by omega))
 rw [ok_chk hs] at c3
 conv => whnf
 repeat' first | ((first | refine LookP.mk _ rfl ?_ | refine ShlP.mk _ (by first | (simp only [List.set, over, List.take, List.drop, List.append_eq, List.nil_append, List.cons_append, List.length]; rfl) | rfl) ?_ | refine And.intro (by first | assumption | exact ⟨by kernel_rfl, rfl⟩ | decide | omega | exact ⟨rfl, by decide, by simp only [List.length_map, Nat.zero_add]; omega⟩) ?_ | refine pc_use c2 ?_ | refine pc_head c2 ?_ | refine pc_use c3 ?_ | refine pc_head c3 ?_ | refine HpP.force ?_); conv => whnf) | (intro t ht; cases t <;> conv => whnf)
 all_goals first
  | exact fin ⟨(ofS w gs, tfB gs.length), st1, nx1, b1, hs, rfl, rfl⟩
  | (exfalso; simp [hlen] at *; done)
end Go.Tz
namespace Go.Tz
open Go Go.AL Go.Proofs
variable {G : Nat → Option (List D)}
abbrev bytesD (bs : List Int) (t : Bool) : D := .sl (bs.map fun b => [.int .u8 b]) t
theorem bytes_len (l : List Int) : ∀ el : List D, el ∈ (l.map fun x => [D.int IntKind.u8 x]) → el.length = 1 := fun el h => by
 obtain ⟨x, _, rfl⟩ := List.mem_map.1 h; rfl
theorem chk138 : chkFn Tryz.f138 = true := by kernel_rfl
theorem bytes_sc (l : List Int) : (((l.map fun k => [D.int IntKind.u8 k]).map (·.map AV.d)).all fun el => el.all AV.scalar) = true := by
 simp [AV.scalar, D.scalar]
theorem clone138 (es : List (List D)) (tg : Bool) (hes : ∀ el, el ∈ es → el.length = 1) (hsc : ((es.map (·.map AV.d)).all fun el => el.all AV.scalar) = true) (hbig : es.length ≤ 1000000) :
  ACall Pr G 138 [.d (.sl es tg)] [] 0 fun v N k => (v = .d (.sl [] true) ∧ es = []) ∨ (v = .sl 1 1 0 (0 + es.length) (0 + es.length) false ∧ N.get 1 = some (.arr 1 (es.map (·.map .d))) ∧ k = 2) := by
 refine fn_walk pok Tryz.func138 chk138 ?_
 conv => whnf
 repeat' first | ((first | refine LookP.mk _ rfl ?_ | refine ShlP.mk _ (by first | (simp only [List.set, over, List.take, List.drop, List.append_eq, List.nil_append, List.cons_append, List.length]; rfl) | rfl) ?_ | refine And.intro (by first | exact ⟨rfl, by decide, by simp only [List.length_map, Nat.zero_add]; omega⟩ | assumption | exact ⟨by kernel_rfl, rfl⟩ | decide | omega | exact ⟨rfl, by decide, by simp only [List.length_map, Nat.zero_add]; omega⟩) ?_ | rw [hsc] | refine HpP.force ?_); conv => whnf) | (intro t ht; cases t <;> conv => whnf)
 ·refine fin (.inr ⟨by simp, ?_, rfl⟩)
  simp [chunk, AHeap.get]
 ·refine fin (.inl ⟨rfl, ?_⟩)
  cases es with
  | nil => rfl
  | cons a l => simp at ht
theorem cloneB (l : List Int) (t : Bool) (hn : l.length ≤ 1000000) : PC Pr G 138 [bytesD l t] (bytesD l false) := by
 refine pc_freezeW (isFn_of Tryz.func138 chk138) (acall_mono (clone138 _ t (bytes_len l) (bytes_sc l) (by simpa using hn)) ?_)
 rintro v N k (⟨rfl, he⟩ | ⟨rfl, hg, _⟩)
 ·exact ⟨_, .d _, by show DW _ (.sl _ false); rw [he]; exact dw_sl [] true⟩
 ·have := asD_sl_map (lo := 0) (len := 0 + (l.map fun k => [D.int IntKind.u8 k]).length) (room := 0 + (l.map fun k => [D.int IntKind.u8 k]).length) (t := false) hg (by omega)
  refine ⟨_, this, ?_⟩
  simp only [List.drop_zero, Nat.zero_add, List.take_length, Bool.false_and]
  exact DW.rfl _
theorem chk62 : chkFn Tryz.f62 = true := by kernel_rfl
theorem of62 (bs : List Int) (t : Bool) : ACall Pr G 62 [.d (bytesD bs t)] [] 0 fun v H n => ∃ (bs' : List Int) (u : Bool), bs'.length ≤ 300 ∧ v = .ptr 0 3 0 0 ∧ H = [(0, some (storeB bs' u 0 2463534242))] ∧ n = 1 := by
 have hM : ∃ m : Nat, m ≤ bs.length ∧ m ≤ 300 ∧ (if (300 : Int) < (((bs.map fun b => [D.int IntKind.u8 b]).length : Nat) : Int) then (300 : Int) else (((bs.map fun b => [D.int IntKind.u8 b]).length : Nat) : Int)).toNat = m := by
  rw [List.length_map]
  by_cases h : (300 : Int) < (bs.length : Int)
  ·exact ⟨300, by omega, Nat.le_refl _, by rw [if_pos h]; rfl⟩
  ·exact ⟨bs.length, Nat.le_refl _, by omega, by rw [if_neg h]; rfl⟩
 obtain ⟨m, m1, m2, m3⟩ := hM
 have hsl : (0 ≤ m ∧ m ≤ (bs.map fun b => [D.int IntKind.u8 b]).length ∧ ∀ el : List D, el ∈ (bs.map fun b => [D.int IntKind.u8 b]) → el.length = 1) := ⟨Nat.zero_le _, by rw [List.length_map]; exact m1, bytes_len bs⟩
 have hsE : ((bs.map fun b => [D.int IntKind.u8 b]).drop 0).take (m - 0) = (bs.take m).map fun b => [D.int IntKind.u8 b] := by rw [Nat.sub_zero, List.drop_zero, List.map_take]
 have hl : (bs.take m).length ≤ 300 := by rw [List.length_take]; omega
 have key : ∀ tt, PC Pr G 138 [bytesD (bs.take m) tt] (bytesD (bs.take m) false) := fun tt => cloneB _ tt (by omega)
 refine acall_sub (K := fun v H _ => v = .ptr 0 3 0 0 ∧ H.get 0 = some (storeB (bs.take m) false 0 2463534242)) (fn_walk pok Tryz.func62 chk62 ?_) ?_
 ·conv => whnf
  repeat' first | ((first | refine LookP.mk _ rfl ?_ | refine ShlP.mk _ (by first | (simp only [List.set, over, List.take, List.drop, List.append_eq, List.nil_append, List.cons_append, List.length]; rfl) | rfl) ?_ | refine And.intro (by first | exact hsl | assumption | exact ⟨by kernel_rfl, rfl⟩ | decide | omega | exact ⟨rfl, by decide, by simp only [List.length_map, Nat.zero_add]; omega⟩) ?_ | refine pc_use (key _) ?_ | refine pc_head (key _) ?_ | rw [m3] | rw [hsE] | refine HpP.force ?_); conv => whnf) | (intro t ht; cases t <;> conv => whnf)
  exact fin ⟨rfl, rfl⟩
 ·rintro v H n ⟨rfl, h4⟩
  refine ⟨.ptr 0 3 0 0, [(0, some (storeB (bs.take m) false 0 2463534242))], 1, ?_, bs.take m, false, hl, rfl, rfl, rfl⟩
  exact keep_env (Nat.zero_le _) ⟨⟨rfl, rfl⟩, trivial⟩ ⟨⟨ltB rfl, _, rfl, h4, below_arr rfl⟩, trivial⟩ trivial
end Go.Tz
namespace Go.Tz
open Go Go.AL Go.Proofs
theorem store_brel {C C' : Ctx} {nm nm' : Nat} {bs : List Int} {u : Bool} {nx st : Int} (hw : C'.w = C.w) (hro : ∀ k, C'.RO k ↔ C.RO k) (hβ : C'.β nm' = C.β nm) (h : BRel C nm (storeB bs u nx st)) : BRel C' nm' (storeB bs u nx st) := by
 rcases h with ⟨_, q⟩ | ⟨k, cs, ty, g1, g2, g3, g4, g5, g6⟩
 ·cases q
 ·refine .inr ⟨k, cs, ty, hβ.trans g1, by rw [hw]; exact g2, fun q => g3 ((hro k).1 q), g4, g5, fun i j el v a1 a2 => ?_⟩
  obtain ⟨x, x1, x2⟩ := g6 i j el v a1 a2
  refine ⟨x, x1, ?_⟩
  have hd : ∃ d, v = .d d := by
   match i, j, a1, a2 with
   | 0, 0, a1, a2 => simp at a1; subst a1; simp at a2; exact ⟨_, a2.symm⟩
   | 0, 1, a1, a2 => simp at a1; subst a1; simp at a2; exact ⟨_, a2.symm⟩
   | 0, 2, a1, a2 => simp at a1; subst a1; simp at a2; exact ⟨_, a2.symm⟩
   | 0, j + 3, a1, a2 => simp at a1; subst a1; simp at a2
   | i + 1, _, a1, _ => simp at a1
  obtain ⟨d, rfl⟩ := hd
  have := vrel_d x2
  refine .d _ _ ?_
  have e : C'.RO = C.RO := funext fun k => propext (hro k)
  rw [hw, e]; exact this
variable {ι : Type} {f : FuncId} {args : List D} {bs : List Int} {u : Bool} {cnt n0 : Nat} {dof : ι → D} {Q : ι → Prop}
theorem acall_at (h : SK f args bs u cnt n0 dof Q) (hn : 0 < n0) {sn nx : Nat} {st : Int} (hb : nx + cnt ≤ 4611686018427387904) (n1 : Nat) :
  ACall Pr GK f (.ptr sn 3 0 0 :: args.map .d) [(sn, some (storeB bs u nx st))] n1 fun v H n => ∃ (i : ι) (st' : Int) (nx' : Nat), nx' ≤ nx + cnt ∧ Q i ∧ v = .d (dof i) ∧ H = [(sn, some (storeB bs u nx' st'))] ∧ n = n1 := by
 intro C vs hH hU hl hr
 obtain ⟨us, bk⟩ := hH.blk sn _ (get_cons_same _ _ _)
 have one : ∀ {m nm : Nat} {b b' : Blk}, AHeap.get [(m, some b)] nm = some b' → nm = m ∧ b' = b := fun {m nm b b'} g => by
  by_cases e : nm = m
  ·subst e
   rw [get_cons_same] at g
   exact ⟨rfl, (Option.some.inj g).symm⟩
  ·rw [get_cons_ne _ _ e] at g; cases g
 have hH0 : HRel GK ⟨fun m => m = 0, fun m => if m = 0 then C.β sn else none, C.RO, C.w⟩ [(0, some (storeB bs u nx st))] := by
  refine ⟨fun nm b g => ?_, fun nm nm' b b' k g1 g2 _ _ => ?_, hH.ro, hH.glob⟩
  ·obtain ⟨rfl, rfl⟩ := one g
   exact ⟨rfl, store_brel (C := C) (nm := sn) rfl (fun _ => Iff.rfl) rfl bk⟩
  ·rw [(one g1).1, (one g2).1]
 refine (h.call nx st hb _ vs hH0 (fun m hm => by rw [show m = 0 from hm]; exact hn) hl (fun i v hi => ?_)).mono ?_
 ·match i, hi with
  | 0, hi =>
   cases hi
   obtain ⟨k, k1, k2, k3⟩ := vrel_ptr (hr 0 (.ptr sn 3 0 0) rfl)
   rw [k3]
   exact .ptr _ _ _ _ k rfl k2
  | i + 1, hi =>
   have := hr (i + 1) v hi
   simp only [List.getElem?_cons_succ, List.getElem?_map, Option.map_eq_some_iff] at hi
   obtain ⟨d, _, rfl⟩ := hi
   have h2 : DRel C.w C.RO d (vs.getD (i + 1) undef) := vrel_d this
   exact .d _ _ h2
 ·rintro e w' ⟨x, v, H1, n, C0, rfl, rfl, ⟨i, st', nx', h1, h2, rfl, rfl, rfl⟩, hv, hHR, hU', hT⟩
  obtain ⟨us0, bk0⟩ := hHR.blk 0 _ (get_cons_same _ _ _)
  obtain ⟨_, hβ⟩ := hT.names 0 rfl
  have hβ : C0.β 0 = C.β sn := hβ
  have hd : DRel C0.w C0.RO (dof i) x := vrel_d hv
  have hvd : VRel ⟨C.U, C.β, C0.RO, C0.w⟩ (.d (dof i)) x := .d _ _ hd
  refine ⟨x, .d (dof i), [(sn, some (storeB bs u nx' st'))], n1, ⟨C.U, C.β, C0.RO, C0.w⟩, rfl, rfl, ⟨i, st', nx', h1, h2, rfl, rfl, rfl⟩, hvd, ⟨fun nm b g => ?_, fun nm nm' b b' k g1 g2 _ _ => ?_, hHR.ro, hHR.glob⟩, hU, ?_⟩
  ·obtain ⟨rfl, rfl⟩ := one g
   exact ⟨us, store_brel (C := C0) (nm := 0) rfl (fun _ => Iff.rfl) hβ.symm bk0⟩
  ·rw [(one g1).1, (one g2).1]
  ·exact {
    os := hT.os, tape := hT.tape, output := hT.output, size := hT.size, shape := hT.shape,
    frame := fun k hk hn => hT.frame k hk fun nm b hb => by
     obtain ⟨rfl, rfl⟩ := one hb
     show (if 0 = 0 then C.β sn else none) ≠ some k
     rw [if_pos rfl]
     exact hn sn _ (get_cons_same _ _ _),
    names := fun nm h => ⟨h, rfl⟩, ros := hT.ros,
    img := fun nm b k q1 q2 q3 => by
     obtain ⟨rfl, rfl⟩ := one q1
     exact ⟨_, _, get_cons_same _ _ _, q2⟩,
    rob := fun k q1 q2 => by
     rcases hT.rob k q1 q2 with q | ⟨nm0, b0, c1, c2⟩
     ·exact .inl q
     ·obtain ⟨rfl, rfl⟩ := one c1
      have c2 : (if 0 = 0 then C.β sn else none) = some k := c2
      rw [if_pos rfl] at c2
      exact .inr ⟨sn, _, get_cons_same _ _ _, c2⟩ }
theorem sk_useN {sn nx0 nx : Nat} {st : Int} {H : AHeap} {k : AV → AHeap → Nat → Prop} (h : SK f args bs u cnt n0 dof Q) (hn : 0 < n0) (hb : nx + cnt ≤ 4611686018427387904)
  (hg : H.get sn = some (storeB bs u nx st)) (hk : ∀ (i : ι) (st' : Int) (nx' : Nat), nx' ≤ nx + cnt → Q i → k (.d (dof i)) ((sn, some (storeB bs u nx' st')) :: H) nx0) : CallVC Pr GK f (.ptr sn 3 0 0 :: args.map .d) H nx0 k := by
 refine ⟨h.fn, acall_frame (acall_at (st := st) (sn := sn) h hn hb nx0) (Nat.le_refl _) (fun m b hm => ?_) ?_⟩
 ·rw [get_consI] at hm
  by_cases e : m = sn
  ·rw [if_pos e] at hm; rw [e, hg, hm]
  ·rw [if_neg e] at hm; cases hm
 ·rintro v H1 n ⟨d, st', nx', h1, h2, rfl, rfl, rfl⟩
  refine ⟨_, fun m b hm => ?_, hk d st' nx' h1 h2⟩
  rw [get_consI] at hm
  by_cases e : m = sn
  ·rw [if_pos e] at hm; left; rw [get_consI, if_pos e, hm]
  ·rw [if_neg e] at hm
   right
   exact ⟨by rw [get_consI, if_neg e]; rfl, hm⟩
end Go.Tz
namespace Go.Tz
open Go Go.AL Go.Proofs Go.Ma
theorem q0 : isub IntKind.i64 (imul IntKind.i64 2 0) 1 = -1 := by kernel_rfl
theorem q1 : isub IntKind.i64 (imul IntKind.i64 2 1) 1 = 1 := by kernel_rfl
end Go.Tz
namespace Go.Tz
open Go Go.AL Go.Proofs Go.Ma
variable {w : Nat} {l : List Ps} {p q m : Ps}
theorem apply47d {g : Gt} (hs : SOk w l) (hg : GtOk w g) (t : Bool) : PC Pr GK 47 [stD w l t, g.d] (.tup [stD w (appG w g l) true, iD 0]) := by
 have h0 : apE w l g = 0 := by
  unfold apE
  rw [if_neg (fun q => q (ok_chk hs)), if_neg (fun q => q hg.chk), if_pos hg.kind]
 have hc := apply47 h0 t (by have := hg.len; omega)
 have hR := (appG_sok hg.chk hg.kind hs).len
 rw [hs.len] at hc
 refine up (pc_freeze hc.fn (acall_mono hc.call ?_))
 rintro v H _ ⟨rfl, rfl, _⟩
 refine asD_tup2 (asD_agg2 (.d _) ?_) (.d _)
 have := asD_pre (H := [(0, some (dblk 4 ((appG w g l).map Ps.l)))]) (nm := 0) (sz := 4) (l := (appG w g l).map Ps.l) (len := w) (room := w) (t := true) rfl (by rw [List.length_map, hR]; exact Nat.le_refl _)
 rwa [List.take_of_length_le (by rw [List.length_map, hR]; exact Nat.le_refl _), decide_eq_true rfl, Bool.and_true] at this
end Go.Tz
namespace Go.Tz
open Go Go.AL Go.Proofs Go.Ma
theorem of_useN {bs : List Int} {t : Bool} {H : AHeap} {nx : Nat} {k : AV → AHeap → Nat → Prop} (hk : ∀ (bs' : List Int) (u : Bool), bs'.length ≤ 300 → k (.ptr nx 3 0 0) ((nx, some (storeB bs' u ((0 : Nat) : Int) 2463534242)) :: H) (nx + 1)) : CallVC Pr GK 62 [.d (bytesD bs t)] H nx k :=
 ⟨isFn_of Tryz.func62 chk62, acall_data (ds := [bytesD bs t]) (of62 bs t) fun v H' n ⟨bs', u, h1, h2, h3, h4⟩ => by
  subst h2 h3 h4
  have := hk bs' u h1
  show k (.ptr (0 + nx) 3 0 0) ((0 + nx, some (Blk.ren _ (storeB bs' u 0 2463534242))) :: H) (nx + 1)
  rw [Nat.zero_add]
  exact this⟩
end Go.Tz
namespace Go.Ma
theorem cn_mono : ∀ (k : Nat) (f g : Nat → Bool), (∀ v, v < 2 ^ k → f v = true → g v = true) → cn k f ≤ cn k g
 | 0, f, g, h => by
  have := h 0 (by simp)
  simp only [cn]
  cases e1 : f 0 <;> cases e2 : g 0 <;> simp_all
 | k + 1, f, g, h => by
  have hp : 2 ^ (k + 1) = 2 ^ k + 2 ^ k := by rw [Nat.pow_succ]; omega
  simp only [cn]
  have h1 := cn_mono k f g fun v hv => h v (by omega)
  have h2 := cn_mono k (fun v => f (v ^^^ 2 ^ k)) (fun v => g (v ^^^ 2 ^ k)) fun v hv => h _ (Nat.xor_lt_two_pow (by omega) (by omega))
  omega
structure Lin (k : Nat) (f : Nat → Nat) : Prop where
 x : ∀ a b, f (a ^^^ b) = f a ^^^ f b
 lt : ∀ a, a < 2 ^ k → f a < 2 ^ k
variable {k : Nat} {f : Nat → Nat}
theorem lin_0 (h : Lin k f) : f 0 = 0 := by
 have := h.x 0 0
 rw [Nat.xor_self, Nat.xor_self] at this
 exact this
theorem sp_tl {a : Nat} {l : List Nat} {v : Nat} (h : spB l v = true) : spB (a :: l) v = true := by
 show (spB l v || spB l (v ^^^ a)) = true
 rw [h]; rfl
theorem sp_hd {a : Nat} {l : List Nat} {v : Nat} (h : spB l (v ^^^ a) = true) : spB (a :: l) v = true := by
 show (spB l v || spB l (v ^^^ a)) = true
 rw [h, Bool.or_true]
theorem sp_two {a : Nat} {l : List Nat} {v : Nat} (h : spB (a :: l) v = true) : spB l v = true ∨ spB l (v ^^^ a) = true := Bool.or_eq_true .. ▸ (show (spB l v || spB l (v ^^^ a)) = true from h)
theorem sp_in {a : Nat} {l : List Nat} (h : spB l a = true) (v : Nat) : spB l (v ^^^ a) = spB l v := by
 rw [Bool.eq_iff_iff]
 refine ⟨fun q => ?_, fun q => sp_xor _ _ _ q h⟩
 have := sp_xor _ _ _ q h
 rwa [xor_cancel] at this
theorem sp_same {a : Nat} {l : List Nat} (h : spB l a = true) (v : Nat) : spB (a :: l) v = spB l v := by
 show (spB l v || spB l (v ^^^ a)) = _
 rw [sp_in h, Bool.or_self]
theorem sp_map (h : Lin k f) : ∀ (l : List Nat) (v : Nat), spB l v = true → spB (l.map f) (f v) = true
 | [], v, e => by
  simp only [spB, beq_iff_eq] at e
  subst e
  rw [lin_0 h]; rfl
 | a :: l, v, e => by
  rcases sp_two e with e | e
  ·exact sp_tl (sp_map h l v e)
  ·refine sp_hd ?_
   rw [← h.x]
   exact sp_map h l _ e
theorem cn_split {a : Nat} {l : List Nat} (hs : spB l a = false) (ha : a < 2 ^ k) (P : Nat → Bool) : cn k (fun v => spB (a :: l) v && P v) = cn k (fun v => spB l v && P v) + cn k (fun v => spB l v && P (v ^^^ a)) := by
 have e : cn k (fun v => spB l v && P (v ^^^ a)) = cn k (fun v => (fun v => spB l v && P (v ^^^ a)) (v ^^^ a)) := (cn_xor k a _ ha).symm
 rw [e, ← cn_or]
 ·refine cn_congr k _ _ fun v _ => ?_
  show ((spB l v || spB l (v ^^^ a)) && P v) = ((spB l v && P v) || (spB l (v ^^^ a) && P (v ^^^ a ^^^ a)))
  rw [xor_cancel, Bool.and_or_distrib_right]
 ·intro v _
  show ((spB l v && P v) && (spB l (v ^^^ a) && P (v ^^^ a ^^^ a))) = false
  cases e1 : spB l v with
  | false => rfl
  | true =>
   cases e2 : spB l (v ^^^ a) with
   | false => simp
   | true =>
    have := sp_xor l _ _ e1 e2
    rw [← Nat.xor_assoc, Nat.xor_self, Nat.zero_xor, hs] at this
    cases this
theorem cn_map (h : Lin k f) : ∀ (l : List Nat), (∀ a, a ∈ l → a < 2 ^ k) → ∀ P : Nat → Bool, cn k (fun v => spB l v && P (f v)) * 2 ^ rk (l.map f) = 2 ^ rk l * cn k (fun u => spB (l.map f) u && P u)
 | [], _, P => by
  simp only [List.map_nil, rk, Nat.pow_zero, Nat.mul_one, Nat.one_mul]
  refine cn_congr k _ _ fun v _ => ?_
  show ((v == 0) && P (f v)) = ((v == 0) && P v)
  by_cases e : v = 0
  ·subst e; rw [lin_0 h]
  ·rw [beq_false_of_ne e]; rfl
 | a :: l, hl, P => by
  have ih := cn_map h l (fun b hb => hl b (List.mem_cons_of_mem _ hb))
  have ha := hl a (by simp)
  have hfa := h.lt a ha
  cases hs : spB l a with
  | true =>
   have hs2 := sp_map h l a hs
   have e3 : rk (a :: l) = rk l := by simp only [rk, hs, if_true, Nat.add_zero]
   have e4 : rk ((a :: l).map f) = rk (l.map f) := by simp only [List.map_cons, rk, hs2, if_true, Nat.add_zero]
   rw [e3, e4]
   have e1 : (fun v => spB (a :: l) v && P (f v)) = fun v => spB l v && P (f v) := funext fun v => by rw [sp_same hs]
   have e2 : (fun u => spB ((a :: l).map f) u && P u) = fun u => spB (l.map f) u && P u := funext fun u => by rw [List.map_cons, sp_same hs2]
   rw [e1, e2]
   exact ih P
  | false =>
   have e3 : rk (a :: l) = rk l + 1 := by simp only [rk, hs, Bool.false_eq_true, if_false]
   have s1 := cn_split hs ha fun v => P (f v)
   have i1 := ih P
   have i2 := ih fun u => P (u ^^^ f a)
   have e5 : (fun v => spB l v && P (f (v ^^^ a))) = fun v => spB l v && P (f v ^^^ f a) := funext fun v => by rw [h.x]
   rw [e5] at s1
   rw [s1, e3]
   cases hs2 : spB (l.map f) (f a) with
   | true =>
    have e4 : rk ((a :: l).map f) = rk (l.map f) := by simp only [List.map_cons, rk, hs2, if_true, Nat.add_zero]
    have e2 : (fun u => spB ((a :: l).map f) u && P u) = fun u => spB (l.map f) u && P u := funext fun u => by rw [List.map_cons, sp_same hs2]
    have j : cn k (fun u => spB (l.map f) u && P (u ^^^ f a)) = cn k (fun u => spB (l.map f) u && P u) := by
     rw [← cn_xor k (f a) (fun u => spB (l.map f) u && P u) hfa]
     refine cn_congr k _ _ fun u _ => ?_
     show _ = (spB (l.map f) (u ^^^ f a) && P (u ^^^ f a))
     rw [sp_in hs2]
    rw [j] at i2
    rw [e2, e4, Nat.add_mul, i1, i2, Nat.pow_succ, Nat.mul_two, Nat.add_mul]
   | false =>
    have e4 : rk ((a :: l).map f) = rk (l.map f) + 1 := by simp only [List.map_cons, rk, hs2, Bool.false_eq_true, if_false]
    have s2 := cn_split hs2 hfa P
    rw [e4, List.map_cons, s2, Nat.pow_succ, Nat.pow_succ, ← Nat.mul_assoc, Nat.add_mul, i1, i2, ← Nat.mul_add, Nat.mul_assoc, Nat.mul_comm (_ + _) 2, ← Nat.mul_assoc]
theorem cn_ker (h : Lin k f) {l : List Nat} (hl : ∀ a, a ∈ l → a < 2 ^ k) : cn k (fun v => spB l v && (f v == 0)) * 2 ^ rk (l.map f) = 2 ^ rk l := by
 have := cn_map h l hl fun u => u == 0
 have e : cn k (fun u => spB (l.map f) u && (u == 0)) = 1 := by
  rw [cn_congr k _ (spB []) fun u _ => ?_]
  ·exact cn_span (k := k) [] (fun a ha => by cases ha)
  ·show (spB (l.map f) u && (u == 0)) = (u == 0)
   by_cases e : u = 0
   ·subst e; rw [sp_zero]; rfl
   ·rw [beq_false_of_ne e, Bool.and_false]
 rw [e, Nat.mul_one] at this
 exact this
theorem pow_inj {a b : Nat} (h : 2 ^ a = 2 ^ b) : a = b := (Nat.pow_right_inj (by decide)).1 h
theorem pow_le {a b : Nat} (h : 2 ^ a ≤ 2 ^ b) : a ≤ b := (Nat.pow_le_pow_iff_right (by decide)).1 h
theorem rk_inj (h : Lin k f) {l : List Nat} (hl : ∀ a, a ∈ l → a < 2 ^ k) (hi : ∀ v, v < 2 ^ k → f v = 0 → v = 0) : rk (l.map f) = rk l := by
 have h1 := cn_ker h hl
 have e : cn k (fun v => spB l v && (f v == 0)) = 1 := by
  rw [cn_congr k _ (spB []) fun u hu => ?_]
  ·exact cn_span (k := k) [] (fun a ha => by cases ha)
  ·show (spB l u && (f u == 0)) = (u == 0)
   by_cases e : u = 0
   ·subst e; rw [sp_zero, lin_0 h]; rfl
   ·rw [beq_false_of_ne e, beq_false_of_ne fun q => e (hi u hu q), Bool.and_false]
 rw [e, Nat.one_mul] at h1
 exact pow_inj h1
theorem rk_map_le (h : Lin k f) {l : List Nat} (hl : ∀ a, a ∈ l → a < 2 ^ k) : rk (l.map f) ≤ rk l := by
 have h1 := cn_ker h hl
 refine pow_le ?_
 rw [← h1]
 refine Nat.le_mul_of_pos_left _ (Nat.pos_of_ne_zero fun q => ?_)
 rw [q, Nat.zero_mul] at h1
 have := Nat.two_pow_pos (rk l)
 omega
structure Msk (M : Nat) : Prop where
 lt : M < 2 ^ 24
 eq : ∀ j, j < 12 → M.testBit (12 + j) = M.testBit j
def msk (M v : Nat) : Nat := v &&& M
theorem msk_lin (M : Nat) : Lin 24 (msk M) := ⟨fun a b => Nat.and_xor_distrib_right, fun _ h => Nat.lt_of_le_of_lt Nat.and_le_left h⟩
theorem parF_ext {a b : Nat} : ∀ {k : Nat}, (∀ j, j < k → a.testBit j = b.testBit j) → parF k a = parF k b
 | 0, _ => rfl
 | k + 1, h => by
  simp only [parF]
  rw [parF_ext fun j hj => h j (by omega), h k (by omega)]
variable {M M' w : Nat}
theorem bt_msk (hM : Msk M) (a b : Nat) : bt (msk M a) b = bt a (msk M b) := by
 refine parF_ext fun j hj => ?_
 unfold msk
 rw [Nat.testBit_and, Nat.testBit_and, Nat.testBit_and, Nat.testBit_shiftRight, Nat.testBit_shiftRight, Nat.testBit_and, hM.eq j hj]
 cases a.testBit (12 + j) <;> cases M.testBit j <;> simp
theorem cm_msk (hM : Msk M) (a b : Nat) : cm (msk M a) b = cm a (msk M b) := by
 unfold cm
 rw [bt_msk hM, bt_msk hM]
def cw (M : Nat) : Nat → Nat
 | 0 => 0
 | w + 1 => cw M w + (M.testBit w).toNat
theorem rk_zero (l : List Nat) : rk (0 :: l) = rk l := by simp only [rk, sp_zero, if_true, Nat.add_zero]
theorem rk_new {a : Nat} {l : List Nat} (h : spB l a = false) : rk (a :: l) = rk l + 1 := by simp only [rk, h, Bool.false_eq_true, if_false]
theorem msk_pow (M j : Nat) : msk M (2 ^ j) = if M.testBit j then 2 ^ j else 0 := by
 unfold msk
 refine Nat.eq_of_testBit_eq fun i => ?_
 rw [Nat.testBit_and, Nat.testBit_two_pow]
 by_cases e : j = i
 ·subst e
  cases h : M.testBit j <;> simp
 ·rw [decide_eq_false e, Bool.false_and]
  split
  ·rw [Nat.testBit_two_pow, decide_eq_false e]
  ·rw [Nat.zero_testBit]
theorem rk_U (hM : Msk M) : ∀ {w : Nat}, w ≤ 12 → rk ((U w).map (msk M)) = 2 * cw M w
 | 0, _ => rfl
 | w + 1, hw => by
  have ih := rk_U hM (w := w) (by omega)
  show rk (msk M (2 ^ w) :: msk M (2 ^ (12 + w)) :: (U w).map (msk M)) = 2 * (cw M w + (M.testBit w).toNat)
  rw [msk_pow, msk_pow, hM.eq w (by omega)]
  have hb : ∀ j, (w ≤ j ∧ j < 12) ∨ 12 + w ≤ j → ∀ a, a ∈ (U w).map (msk M) → a.testBit j = false := fun j hj a ha => by
   obtain ⟨x, hx, rfl⟩ := List.mem_map.1 ha
   unfold msk
   rw [Nat.testBit_and, U_bit hj x hx]; rfl
  cases e : M.testBit w with
  | false =>
   simp only [Bool.false_eq_true, if_false, rk_zero, ih]
   rfl
  | true =>
   simp only [if_true]
   rw [rk_new, rk_new, ih]
   ·show 2 * cw M w + 1 + 1 = 2 * (cw M w + 1)
    omega
   ·cases h : spB ((U w).map (msk M)) (2 ^ (12 + w)) with
    | false => rfl
    | true =>
     have := sp_bit (j := 12 + w) _ (hb _ (.inr (Nat.le_refl _))) _ h
     rw [Nat.testBit_two_pow_self] at this; cases this
   ·cases h : spB (2 ^ (12 + w) :: (U w).map (msk M)) (2 ^ w) with
    | false => rfl
    | true =>
     have := sp_bit (j := w) (2 ^ (12 + w) :: (U w).map (msk M)) (fun a ha => by
      rcases List.mem_cons.1 ha with e | ha
      ·subst e; rw [Nat.testBit_two_pow]; simp
      ·exact hb _ (.inl ⟨Nat.le_refl _, by omega⟩) a ha) _ h
     rw [Nat.testBit_two_pow_self] at this; cases this
theorem inV_msk {v : Nat} (hv : inV w v) : inV w (msk M v) := inV_bits _ fun j hj => by
 unfold msk
 rw [Nat.testBit_and, sp_bit _ (U_bit hj) v hv]; rfl
structure Lag (w : Nat) (L : List Nat) : Prop where
 hw : w ≤ 12
 inn : ∀ a, a ∈ L → inV w a
 ind : Ind L
 len : L.length = w
 com : ∀ a b, a ∈ L → b ∈ L → cm a b = false
variable {L : List Nat}
theorem lag_lt (h : Lag w L) : ∀ a, a ∈ L → a < 2 ^ 24 := fun a ha => sp_lt _ (U_lt h.hw) _ (h.inn a ha)
def inn (w : Nat) (L : List Nat) (M : Nat) : Nat := cn 24 fun u => spB ((U w).map (msk M)) u && perpB L u
theorem inn_rk (h : Lag w L) (hM : Msk M) : inn w L M * 2 ^ rk (L.map (msk M)) = 2 ^ (2 * cw M w) := by
 have hw := h.hw
 have h1 := cn_perp hw (U_lt hw) (L.map (msk M)) fun a ha => by
  obtain ⟨x, hx, rfl⟩ := List.mem_map.1 ha
  exact inV_msk (h.inn x hx)
 have h2 := cn_map (msk_lin M) (U w) (U_lt hw) (perpB L)
 have e : (fun v => spB (U w) v && perpB (L.map (msk M)) v) = fun v => spB (U w) v && perpB L (msk M v) := funext fun v => by
  congr 1
  rw [Bool.eq_iff_iff, perp_iff, perp_iff]
  refine ⟨fun q r hr => ?_, fun q r hr => ?_⟩
  ·rw [cm_msk hM]
   exact q _ (List.mem_map.2 ⟨r, hr, rfl⟩)
  ·obtain ⟨x, hx, rfl⟩ := List.mem_map.1 hr
   rw [← cm_msk hM]
   exact q x hx
 have hU : rk (U w) = 2 * w := by
  have := U_ind hw
  unfold Ind at this
  rw [this, U_len]
 rw [e] at h1
 rw [rk_U hM hw, hU] at h2
 unfold inn
 generalize cn 24 (fun v => spB (U w) v && perpB L (msk M v)) = N at h1 h2
 generalize cn 24 (fun u => spB ((U w).map (msk M)) u && perpB L u) = X at h2 ⊢
 have hN : 0 < N := Nat.pos_of_ne_zero fun q => by
  rw [q, Nat.zero_mul] at h1
  have := Nat.two_pow_pos (2 * w)
  omega
 refine Nat.eq_of_mul_eq_mul_left hN ?_
 rw [h2, ← h1, Nat.mul_assoc, Nat.mul_comm X]
theorem inn_pos (h : Lag w L) (hM : Msk M) : 0 < inn w L M := Nat.pos_of_ne_zero fun q => by
 have h1 := inn_rk h hM
 rw [q, Nat.zero_mul] at h1
 have := Nat.two_pow_pos (2 * cw M w)
 omega
theorem perp_own (h : Lag w L) {u : Nat} (hu : inV w u) : perpB L u = spB L u := by
 rw [Bool.eq_iff_iff, perp_iff]
 refine ⟨fun q => maxi h.hw h.inn h.ind h.len h.com hu q, fun q r hr => ?_⟩
 rw [cm_symm]
 exact cm_span L (fun a ha => h.com r a hr ha) u q
structure Oth (w M M' : Nat) : Prop where
 a : Msk M
 b : Msk M'
 ne : ∀ j, j < w → M'.testBit j = !M.testBit j
theorem oth_bit (h : Oth w M M') {j : Nat} (hj : j < w ∨ (12 ≤ j ∧ j < 12 + w)) (hw : w ≤ 12) : M'.testBit j = !M.testBit j := by
 rcases hj with hj | ⟨h1, h2⟩
 ·exact h.ne j hj
 ·obtain ⟨i, rfl⟩ : ∃ i, j = 12 + i := ⟨j - 12, by omega⟩
  rw [h.a.eq i (by omega), h.b.eq i (by omega), h.ne i (by omega)]
theorem inV_other {v : Nat} (hv : inV w v) {j : Nat} (hj : ¬ (j < w ∨ (12 ≤ j ∧ j < 12 + w))) : v.testBit j = false :=
 sp_bit _ (U_bit (by omega)) v hv
theorem oth_zero (h : Oth w M M') (hw : w ≤ 12) {u : Nat} (hu : inV w u) : msk M' u = 0 ↔ msk M u = u := by
 unfold msk
 constructor
 ·intro q
  refine Nat.eq_of_testBit_eq fun j => ?_
  have := congrArg (Nat.testBit · j) q
  simp only [Nat.testBit_and, Nat.zero_testBit] at this ⊢
  by_cases hj : j < w ∨ (12 ≤ j ∧ j < 12 + w)
  ·rw [oth_bit h hj hw] at this
   cases e : u.testBit j <;> rw [e] at this <;> simp at this ⊢
   exact this
  ·rw [inV_other hu hj]; rfl
 ·intro q
  refine Nat.eq_of_testBit_eq fun j => ?_
  have := congrArg (Nat.testBit · j) q
  simp only [Nat.testBit_and, Nat.zero_testBit] at this ⊢
  by_cases hj : j < w ∨ (12 ≤ j ∧ j < 12 + w)
  ·rw [oth_bit h hj hw]
   cases e : u.testBit j <;> rw [e] at this <;> simp at this ⊢
   exact this
  ·rw [inV_other hu hj]; rfl
theorem inn_eq (h : Lag w L) (ho : Oth w M M') : inn w L M = cn 24 fun u => spB L u && (msk M' u == 0) := by
 have hw := h.hw
 refine cn_congr _ _ _ fun u _ => ?_
 rw [Bool.eq_iff_iff, Bool.and_eq_true, Bool.and_eq_true, beq_iff_eq]
 have key : ∀ x, inV w x → spB ((U w).map (msk M)) (msk M x) = true := fun x hx => sp_map (msk_lin M) _ _ hx
 constructor
 ·rintro ⟨h1, h2⟩
  have hin : inV w u := sp_sub _ _ (fun a ha => by
   obtain ⟨x, hx, rfl⟩ := List.mem_map.1 ha
   exact inV_msk (sp_mem _ _ hx)) u h1
  refine ⟨by rw [← perp_own h hin]; exact h2, (oth_zero ho hw hin).2 ?_⟩
  unfold msk
  refine Nat.eq_of_testBit_eq fun j => ?_
  rw [Nat.testBit_and]
  cases e : M.testBit j with
  | true => rw [Bool.and_true]
  | false =>
   rw [Bool.and_false]
   refine (sp_bit _ (fun a ha => ?_) u h1).symm
   obtain ⟨x, hx, rfl⟩ := List.mem_map.1 ha
   unfold msk
   rw [Nat.testBit_and, e, Bool.and_false]
 ·rintro ⟨h1, h2⟩
  have hin : inV w u := sp_sub _ _ h.inn u h1
  have e := (oth_zero ho hw hin).1 h2
  refine ⟨?_, by rw [perp_own h hin]; exact h1⟩
  have := key u hin
  rwa [e] at this
theorem inn_oth (h : Lag w L) (ho : Oth w M M') : inn w L M * 2 ^ rk (L.map (msk M')) = 2 ^ w := by
 have h1 := cn_ker (msk_lin M') (lag_lt h)
 rw [← inn_eq h ho] at h1
 have := h.ind
 unfold Ind at this
 rw [this, h.len] at h1
 exact h1
theorem rk_oth (h : Lag w L) (ho : Oth w M M') : rk (L.map (msk M')) + 2 * cw M w = rk (L.map (msk M)) + w := by
 have h1 := inn_rk h ho.a
 have h2 := inn_oth h ho
 refine pow_inj ?_
 rw [Nat.pow_add, Nat.pow_add, ← h1, ← h2]
 generalize 2 ^ rk (L.map (msk M)) = a
 generalize 2 ^ rk (L.map (msk M')) = b
 rw [Nat.mul_comm b, Nat.mul_comm a, Nat.mul_assoc, Nat.mul_assoc, Nat.mul_comm a b]
theorem rk_hi (h : Lag w L) (hM : Msk M) : rk (L.map (msk M)) ≤ 2 * cw M w := by
 have h1 := inn_rk h hM
 refine pow_le ?_
 rw [← h1]
 exact Nat.le_mul_of_pos_left _ (inn_pos h hM)
theorem rk_lo (h : Lag w L) (ho : Oth w M M') : cw M w ≤ rk (L.map (msk M)) := by
 have h1 := inn_rk h ho.a
 have h2 : inn w L M ≤ 2 ^ rk (L.map (msk M)) := by
  rw [← cn_span (k := 24) (L.map (msk M)) fun a ha => by
   obtain ⟨x, hx, rfl⟩ := List.mem_map.1 ha
   exact (msk_lin M).lt x (lag_lt h x hx), inn_eq h ho]
  refine cn_mono _ _ _ fun u _ hu => ?_
  rw [Bool.and_eq_true, beq_iff_eq] at hu
  have hin : inV w u := sp_sub _ _ h.inn u hu.1
  have e := (oth_zero ho h.hw hin).1 hu.2
  have := sp_map (msk_lin M) _ _ hu.1
  rwa [e] at this
 have h3 := Nat.mul_le_mul_right (2 ^ rk (L.map (msk M))) h2
 rw [h1, ← Nat.pow_add] at h3
 have := pow_le h3
 omega
theorem rk_more (h : Lag w L) (hM : Msk M) (hM' : Msk M') (hs : ∀ j, M.testBit j = true → M'.testBit j = true) (hc : cw M' w = cw M w + 1) : rk (L.map (msk M)) ≤ rk (L.map (msk M')) ∧ rk (L.map (msk M')) ≤ rk (L.map (msk M)) + 2 := by
 have hmm : ∀ x, msk M (msk M' x) = msk M x := fun x => by
  unfold msk
  refine Nat.eq_of_testBit_eq fun j => ?_
  rw [Nat.testBit_and, Nat.testBit_and, Nat.testBit_and]
  cases e : M.testBit j with
  | false => simp
  | true => rw [hs j e]; simp
 have hlt : ∀ a, a ∈ L.map (msk M') → a < 2 ^ 24 := fun a ha => by
  obtain ⟨x, hx, rfl⟩ := List.mem_map.1 ha
  exact (msk_lin M').lt x (lag_lt h x hx)
 constructor
 ·have := rk_map_le (msk_lin M) hlt
  rw [List.map_map, show (msk M ∘ msk M') = msk M from funext hmm] at this
  exact this
 ·have h1 := inn_rk h hM
  have h2 := inn_rk h hM'
  have h3 : inn w L M ≤ inn w L M' := cn_mono _ _ _ fun u _ hu => by
   rw [Bool.and_eq_true] at hu ⊢
   refine ⟨sp_sub _ _ (fun a ha => ?_) u hu.1, hu.2⟩
   obtain ⟨x, hx, rfl⟩ := List.mem_map.1 ha
   have := sp_map (msk_lin M') (U w) (msk M x) (inV_msk (sp_mem _ _ hx))
   rwa [show msk M' (msk M x) = msk M x from by
    unfold msk
    refine Nat.eq_of_testBit_eq fun j => ?_
    rw [Nat.testBit_and, Nat.testBit_and]
    cases e : M.testBit j with
    | false => simp
    | true => rw [hs j e]; simp] at this
  have h4 := Nat.mul_le_mul_right (2 ^ rk (L.map (msk M)) * 2 ^ rk (L.map (msk M'))) h3
  rw [← Nat.mul_assoc, h1, Nat.mul_comm (2 ^ rk (L.map (msk M))), ← Nat.mul_assoc, h2, ← Nat.pow_add, ← Nat.pow_add] at h4
  have := pow_le h4
  omega
theorem rk_full (h : Lag w L) (ha : ∀ j, j < w → M.testBit j = true) (hM : Msk M) : rk (L.map (msk M)) = w := by
 have e : L.map (msk M) = L := by
  rw [List.map_congr_left (g := id) fun x hx => ?_, List.map_id]
  show msk M x = x
  have hin := h.inn x hx
  unfold msk
  refine Nat.eq_of_testBit_eq fun j => ?_
  rw [Nat.testBit_and]
  by_cases hj : j < w ∨ (12 ≤ j ∧ j < 12 + w)
  ·have hw := h.hw
   have : M.testBit j = true := by
    rcases hj with hj | ⟨h1, h2⟩
    ·exact ha j hj
    ·obtain ⟨i, rfl⟩ : ∃ i, j = 12 + i := ⟨j - 12, by omega⟩
     rw [hM.eq i (by omega), ha i (by omega)]
   rw [this, Bool.and_true]
  ·rw [inV_other hin hj]; rfl
 have := h.ind
 unfold Ind at this
 rw [e, this, h.len]
theorem and_cd (t : Bool) (m M : Nat) : cd t m &&& M = cd t (m &&& M) := by cases t <;> simp [cd]
theorem cd_zero (t : Bool) : cd t 0 = 0 := by cases t <;> rfl
theorem gL_msk {k a b : Nat} (hM : Msk M) (h : gOk k a b) (hab : 9 ≤ k → M.testBit b = M.testBit a) (v : Nat) : msk M (gL k a b v) = if M.testBit a then gL k a b (msk M v) else msk M v := by
 have p1 : ∀ j, (2 ^ j &&& M) = if M.testBit j then 2 ^ j else 0 := fun j => msk_pow M j
 have t1 : ∀ j, (v &&& M).testBit j = (v.testBit j && M.testBit j) := fun j => Nat.testBit_and ..
 unfold msk
 rcases h with ⟨h1, h2, ha⟩ | ⟨h1, h2, ha, hb, hne⟩
 ·have ea := hM.eq a ha
  have hk : k = 1 ∨ k = 2 ∨ k = 3 ∨ k = 4 ∨ k = 5 ∨ k = 6 := by omega
  cases e : M.testBit a with
  | true =>
   rcases hk with rfl | rfl | rfl | rfl | rfl | rfl <;> simp [gL, Nat.and_xor_distrib_right, and_cd, p1, t1, ea, e]
  | false =>
   rcases hk with rfl | rfl | rfl | rfl | rfl | rfl <;> simp [gL, Nat.and_xor_distrib_right, and_cd, p1, t1, ea, e, cd_zero]
 ·have ea := hM.eq a ha
  have eb := hM.eq b hb
  have hk : k = 9 ∨ k = 10 ∨ k = 11 := by omega
  have hab' := hab h1
  cases e : M.testBit a with
  | true =>
   rw [e] at hab'
   rcases hk with rfl | rfl | rfl <;> simp [gL, Nat.and_xor_distrib_right, and_cd, p1, t1, ea, eb, e, hab']
  | false =>
   rw [e] at hab'
   rcases hk with rfl | rfl | rfl <;> simp [gL, Nat.and_xor_distrib_right, and_cd, p1, t1, ea, eb, e, hab', cd_zero]
theorem rk_gate {k a b : Nat} (hM : Msk M) (h : gOk k a b) (hab : 9 ≤ k → M.testBit b = M.testBit a) (hlt : ∀ v, v < 2 ^ 24 → gL k a b v < 2 ^ 24) {L : List Nat} (hl : ∀ a, a ∈ L → a < 2 ^ 24) : rk ((L.map (gL k a b)).map (msk M)) = rk (L.map (msk M)) := by
 rw [List.map_map]
 cases e : M.testBit a with
 | true =>
  have : (msk M ∘ gL k a b) = gL k a b ∘ msk M := funext fun v => by
   show msk M (gL k a b v) = _
   rw [gL_msk hM h hab, e]; rfl
  rw [this, ← List.map_map]
  exact rk_inj ⟨gL_xor h, hlt⟩ (fun a ha => by
   obtain ⟨x, hx, rfl⟩ := List.mem_map.1 ha
   exact (msk_lin M).lt x (hl x hx)) fun v hv q => gL_inj h hv q
 | false =>
  have : (msk M ∘ gL k a b) = msk M := funext fun v => by
   show msk M (gL k a b v) = _
   rw [gL_msk hM h hab, e]; rfl
  rw [this]
end Go.Ma
namespace Go.Tz
open Go Go.AL Go.Proofs Go.Ma
variable {w : Nat} {l : List Ps}
theorem sok_lag (hs : SOk w l) : Lag w (l.map vec) := by
 have h := sok_sta hs
 have e : l.map vec = (l.map nf).map (·.2) := by rw [List.map_map]; rfl
 have hm : ∀ a, a ∈ l.map vec → ∃ g, g ∈ l.map nf ∧ g.2 = a := fun a ha => by
  obtain ⟨q, hq, rfl⟩ := List.mem_map.1 ha
  exact ⟨nf q, List.mem_map.2 ⟨q, hq, rfl⟩, rfl⟩
 refine ⟨hs.hi, fun a ha => ?_, by rw [e]; exact h.ind, by rw [List.length_map, hs.len], fun a b ha hb => ?_⟩
 ·obtain ⟨g, hg, rfl⟩ := hm a ha
  exact h.inv g hg
 ·obtain ⟨g, hg, rfl⟩ := hm a ha
  obtain ⟨g', hg', rfl⟩ := hm b hb
  exact cm_ecom.1 (h.good.com g g' hg hg')
def wide (m : Nat) : Nat := m + 4096 * m
theorem wide_bit {m : Nat} (hm : m < 4096) {j : Nat} (hj : j < 12) : (wide m).testBit j = m.testBit j := by
 unfold wide
 rw [vec_bit hm, if_pos hj]
theorem wide_msk {m : Nat} (hm : m < 4096) : Msk (wide m) := by
 refine ⟨by unfold wide; omega, fun j hj => ?_⟩
 rw [wide_bit hm hj]
 unfold wide
 rw [vec_bit hm, if_neg (by omega), Nat.add_sub_cancel_left]
theorem vec_msk {X Z m : Nat} (hX : X < 4096) (hm : m < 4096) : (X &&& m) + 4096 * (Z &&& m) = msk (wide m) (X + 4096 * Z) := by
 unfold msk wide
 refine Nat.eq_of_testBit_eq fun j => ?_
 rw [Nat.testBit_and, vec_bit hX, vec_bit hm, vec_bit (Nat.lt_of_le_of_lt Nat.and_le_left hX)]
 split <;> rw [Nat.testBit_and]
def rkN (l : List Ps) (m : Nat) : Nat := rk ((l.map vec).map (msk (wide m)))
theorem rkSt_rk (hs : SOk w l) {m : Nat} (hm : m < 4096) : (rkSt (maskL l m) l.length).2.length = rkN l m := by
 have hp : (2 : Nat) ^ w ≤ 2 ^ 12 := Nat.pow_le_pow_right (by decide) hs.hi
 have hq : ∀ q, q ∈ l → q.x.toNat < 4096 ∧ q.z.toNat < 4096 ∧ vec q = q.x.toNat + 4096 * q.z.toNat := fun q hq => by
  obtain ⟨X, Z, P, rfl, h1, h2, h3⟩ := hs.vl q hq
  exact ⟨by show X < 4096; omega, by show Z < 4096; omega, rfl⟩
 have e2 := rk_len (l := maskL l m) (fun r hr' => by
  obtain ⟨q, hq', rfl⟩ := List.mem_map.1 hr'
  have := hq q hq'
  exact ⟨Nat.lt_of_le_of_lt Nat.and_le_left this.1, Nat.lt_of_le_of_lt Nat.and_le_left this.2.1⟩)
 have hml : (maskL l m).length = l.length := by simp [maskL]
 rw [hml] at e2
 rw [e2]
 unfold rkN
 congr 1
 rw [List.map_map, maskL, List.map_map]
 refine List.map_congr_left fun q hq' => ?_
 have := hq q hq'
 show (q.x.toNat &&& m) + 4096 * (q.z.toNat &&& m) = msk (wide m) (vec q)
 rw [this.2.2, vec_msk this.1 hm]
def enI (l : List Ps) (ks : List Int) : Int := isub .i64 (rkN l (maskN ks) : Nat) ks.length
structure Wrs (w : Nat) (ks : List Int) : Prop where
 inn : ∀ k, k ∈ ks → 0 ≤ k ∧ k < w
 nod : ks.Nodup
theorem wrs_ent {ks : List Int} (h : Wrs w ks) : entE w ks = 0 := by
 refine entE_none fun j hj => ?_
 unfold entA
 rw [List.getElem?_eq_getElem hj]
 dsimp only
 have h1 := h.inn _ (List.getElem_mem hj)
 rw [if_neg (by omega), if_neg]
 intro hm
 obtain ⟨i, hi, e⟩ := List.getElem_of_mem hm
 rw [List.getElem_take] at e
 rw [List.length_take] at hi
 have := (List.getElem_inj h.nod).1 e
 omega
theorem wrs_mask (hw : w ≤ 12) {ks : List Int} (h : Wrs w ks) : maskN ks < 4096 :=
 Nat.lt_of_lt_of_le (mask_lt h.inn) (Nat.pow_le_pow_right (n := 2) (by decide) hw)
theorem wrs_bit {ks : List Int} (h : Wrs w ks) (j : Nat) : (maskN ks).testBit j = decide ((j : Int) ∈ ks) := by
 rw [mask_bit, Bool.eq_iff_iff, List.any_eq_true, decide_eq_true_iff]
 constructor
 ·rintro ⟨k, hk, e⟩
  have := h.inn k hk
  have e2 : k = (j : Int) := by
   have := of_decide_eq_true e
   omega
  rwa [← e2]
 ·intro hj
  exact ⟨_, hj, decide_eq_true (by omega)⟩
theorem wrs_cw (hw : w ≤ 12) {ks : List Int} (h : Wrs w ks) : cw (wide (maskN ks)) w = ks.length := by
 have hm := wrs_mask hw h
 have key : ∀ n, n ≤ w → cw (wide (maskN ks)) n = (ks.filter fun k => decide (k < (n : Int))).length := by
  intro n
  induction n with
  | zero =>
   intro _
   rw [List.filter_eq_nil_iff.2 fun k hk => by
    have := h.inn k hk
    simp; omega]
   rfl
  | succ n ih =>
   intro hn
   rw [cw, ih (by omega), wide_bit hm (by omega), wrs_bit h]
   have : ∀ ks : List Int, ks.Nodup → (ks.filter fun k => decide (k < ((n + 1 : Nat) : Int))).length = (ks.filter fun k => decide (k < (n : Int))).length + (decide ((n : Int) ∈ ks)).toNat := by
    intro ks
    induction ks with
    | nil => intro _; rfl
    | cons k ks ih2 =>
     intro hnd
     obtain ⟨h1, h2⟩ := List.nodup_cons.1 hnd
     have ih2 := ih2 h2
     rw [List.filter_cons, List.filter_cons]
     by_cases e : k = (n : Int)
     ·subst e
      have a1 : decide ((n : Int) < ((n + 1 : Nat) : Int)) = true := decide_eq_true (by omega)
      have a2 : decide ((n : Int) < (n : Int)) = false := decide_eq_false (by omega)
      have a3 : decide ((n : Int) ∈ ks) = false := decide_eq_false h1
      have a4 : decide ((n : Int) ∈ (n : Int) :: ks) = true := decide_eq_true (by simp)
      rw [a3] at ih2
      rw [a1, a2, a4, if_pos rfl, if_neg (by simp), List.length_cons, ih2]; rfl
     ·have a4 : decide ((n : Int) ∈ k :: ks) = decide ((n : Int) ∈ ks) := decide_eq_decide.2 (by
       rw [List.mem_cons]
       exact ⟨fun q => q.resolve_left fun q => e q.symm, .inr⟩)
      rw [a4]
      by_cases e2 : k < (n : Int)
      ·have a1 : decide (k < ((n + 1 : Nat) : Int)) = true := decide_eq_true (by omega)
       have a2 : decide (k < (n : Int)) = true := decide_eq_true e2
       rw [a1, a2, if_pos rfl, if_pos rfl, List.length_cons, List.length_cons, ih2]; omega
      ·have a1 : decide (k < ((n + 1 : Nat) : Int)) = false := decide_eq_false (by omega)
       have a2 : decide (k < (n : Int)) = false := decide_eq_false e2
       rw [a1, a2, if_neg (by simp), if_neg (by simp), ih2]
   exact (this ks h.nod).symm
 rw [key w (Nat.le_refl _), List.filter_eq_self.2 fun k hk => decide_eq_true (h.inn k hk).2]
theorem cw_le (M : Nat) : ∀ n, cw M n ≤ n
 | 0 => Nat.le_refl _
 | n + 1 => by
  have := cw_le M n
  simp only [cw]
  cases M.testBit n <;> simp <;> omega
theorem wrs_len (hw : w ≤ 12) {ks : List Int} (h : Wrs w ks) : ks.length ≤ w := by
 rw [← wrs_cw hw h]
 exact cw_le _ _
theorem ent34d (hs : SOk w l) {ks : List Int} (h : Wrs w ks) (t u : Bool) : PC Pr GK 34 [stD w l t, intsD ks u] (.tup [iD (enI l ks), iD 0]) := by
 have hw := hs.hi
 have hlen := wrs_len hw h
 have c := up (entropy34 w l t ks u (by have := hs.len; omega) (by omega))
 unfold entD at c
 rw [if_neg (fun q => q (ok_chk hs)), if_neg (fun q => q (wrs_ent h)), rkSt_rk hs (wrs_mask hw h)] at c
 exact c
def hereL (f : Nat → Bool) (b : Bool) (i : Nat) : List Int := ((List.range i).filter fun j => f j == b).map fun j : Nat => (j : Int)
theorem here_yes {f : Nat → Bool} {i : Nat} {b : Bool} (h : f i = b) : hereL f b (i + 1) = hereL f b i ++ [(i : Int)] := by
 unfold hereL
 rw [List.range_succ, List.filter_append, List.map_append]
 congr 1
 rw [List.filter_cons, if_pos (by simp [h])]; rfl
theorem here_no {f : Nat → Bool} {i : Nat} {b : Bool} (h : f i = !b) : hereL f b (i + 1) = hereL f b i := by
 unfold hereL
 rw [List.range_succ, List.filter_append, List.map_append]
 have : List.filter (fun j => f j == b) [i] = [] := by
  rw [List.filter_cons, if_neg (by rw [h]; cases b <;> decide)]; rfl
 rw [this, List.map_nil, List.append_nil]
theorem here_mem {f : Nat → Bool} {i : Nat} {b : Bool} {x : Int} : x ∈ hereL f b i ↔ ∃ j : Nat, j < i ∧ f j = b ∧ x = j := by
 unfold hereL
 rw [List.mem_map]
 constructor
 ·rintro ⟨j, h1, rfl⟩
  obtain ⟨h2, h3⟩ := List.mem_filter.1 h1
  exact ⟨j, List.mem_range.1 h2, by simpa using h3, rfl⟩
 ·rintro ⟨j, h1, h2, rfl⟩
  exact ⟨j, List.mem_filter.2 ⟨List.mem_range.2 h1, by simp [h2]⟩, rfl⟩
theorem here_wrs (f : Nat → Bool) (b : Bool) (w : Nat) : Wrs w (hereL f b w) := by
 refine ⟨fun k hk => ?_, ?_⟩
 ·obtain ⟨j, h1, _, rfl⟩ := here_mem.1 hk
  omega
 ·unfold hereL
  refine List.Pairwise.map _ (fun a b (h : a ≠ b) (q : (a : Int) = b) => h (by omega)) (List.Pairwise.filter _ List.nodup_range)
theorem here_len (f : Nat → Bool) : ∀ i, (hereL f true i).length + (hereL f false i).length = i
 | 0 => rfl
 | i + 1 => by
  have ih := here_len f i
  cases e : f i with
  | true =>
   rw [here_yes (b := true) e, here_no (b := false) (by rw [e]; rfl), List.length_append]
   simp only [List.length_cons, List.length_nil]; omega
  | false =>
   rw [here_yes (b := false) e, here_no (b := true) (by rw [e]; rfl), List.length_append]
   simp only [List.length_cons, List.length_nil]; omega
theorem all_wrs (f : Nat → Bool) (w : Nat) : Wrs w (hereL f false w ++ hereL f true w) := by
 have h1 := here_wrs f true w
 have h2 := here_wrs f false w
 refine ⟨fun k hk => (List.mem_append.1 hk).elim (h2.inn k) (h1.inn k), List.nodup_append.2 ⟨h2.nod, h1.nod, fun a ha b hb e => ?_⟩⟩
 obtain ⟨i, _, e1, rfl⟩ := here_mem.1 ha
 obtain ⟨j, _, e2, rfl⟩ := here_mem.1 hb
 have : i = j := by omega
 subst this
 rw [e1] at e2; cases e2
theorem more_wrs {f : Nat → Bool} {w : Nat} {x : Int} (hx : x ∈ hereL f false w) : Wrs w (hereL f true w ++ [x]) := by
 have h1 := here_wrs f true w
 have h2 := here_wrs f false w
 refine ⟨fun k hk => (List.mem_append.1 hk).elim (h1.inn k) fun q => by rw [List.mem_singleton.1 q]; exact h2.inn x hx, List.nodup_append.2 ⟨h1.nod, by simp, fun a ha b hb e => ?_⟩⟩
 rw [List.mem_singleton.1 hb] at e
 subst e
 obtain ⟨i, _, e1, e3⟩ := here_mem.1 ha
 obtain ⟨j, _, e2, e4⟩ := here_mem.1 hx
 have : i = j := by omega
 subst this
 rw [e1] at e2; cases e2
theorem here_oth (f : Nat → Bool) (hw : w ≤ 12) (b : Bool) : Oth w (wide (maskN (hereL f b w))) (wide (maskN (hereL f (!b) w))) := by
 have h1 := here_wrs f b w
 have h2 := here_wrs f (!b) w
 refine ⟨wide_msk (wrs_mask hw h1), wide_msk (wrs_mask hw h2), fun j hj => ?_⟩
 rw [wide_bit (wrs_mask hw h1) (by omega), wide_bit (wrs_mask hw h2) (by omega), wrs_bit h1, wrs_bit h2]
 have k1 : decide ((j : Int) ∈ hereL f b w) = (f j == b) := by
  rw [Bool.eq_iff_iff, decide_eq_true_iff, here_mem, beq_iff_eq]
  exact ⟨fun ⟨i, _, e, q⟩ => by rwa [show i = j by omega] at e, fun e => ⟨j, hj, e, rfl⟩⟩
 have k2 : decide ((j : Int) ∈ hereL f (!b) w) = (f j == !b) := by
  rw [Bool.eq_iff_iff, decide_eq_true_iff, here_mem, beq_iff_eq]
  exact ⟨fun ⟨i, _, e, q⟩ => by rwa [show i = j by omega] at e, fun e => ⟨j, hj, e, rfl⟩⟩
 rw [k1, k2]
 cases f j <;> cases b <;> rfl
theorem ent_facts (hs : SOk w l) (f : Nat → Bool) : enI l (hereL f true w) = enI l (hereL f false w) ∧ 0 ≤ enI l (hereL f true w) ∧ enI l (hereL f true w) ≤ (hereL f true w).length ∧ enI l (hereL f true w) ≤ (hereL f false w).length ∧ enI l (hereL f false w ++ hereL f true w) = 0 ∧
  ∀ x, x ∈ hereL f false w → enI l (hereL f true w) - 1 ≤ enI l (hereL f true w ++ [x]) ∧ enI l (hereL f true w ++ [x]) ≤ enI l (hereL f true w) + 1 := by
 have hw := hs.hi
 have hL := sok_lag hs
 have h1 := here_wrs f true w
 have h2 := here_wrs f false w
 have hA := all_wrs f w
 have ho := here_oth f hw true
 have c1 := wrs_cw hw h1
 have c2 := wrs_cw hw h2
 have hlen := here_len f w
 have r1 := rk_oth hL ho
 have r2 := rk_hi hL ho.a
 have r3 := rk_lo hL ho
 have r4 := rk_hi hL ho.b
 rw [c1] at r1 r2 r3
 have r4 : rk ((l.map vec).map (msk (wide (maskN (hereL f false w))))) ≤ 2 * cw (wide (maskN (hereL f false w))) w := r4
 rw [c2] at r4
 have rA : rkN l (maskN (hereL f false w ++ hereL f true w)) = w := by
  refine rk_full hL (fun j hj => ?_) (wide_msk (wrs_mask hw hA))
  rw [wide_bit (wrs_mask hw hA) (by omega), wrs_bit hA, decide_eq_true_iff, List.mem_append]
  cases e : f j with
  | true => exact .inr (here_mem.2 ⟨j, hj, e, rfl⟩)
  | false => exact .inl (here_mem.2 ⟨j, hj, e, rfl⟩)
 have q1 : rkN l (maskN (hereL f true w)) = rk ((l.map vec).map (msk (wide (maskN (hereL f true w))))) := rfl
 have q2 : rkN l (maskN (hereL f false w)) = rk ((l.map vec).map (msk (wide (maskN (hereL f false w))))) := rfl
 have r1 : rk ((l.map vec).map (msk (wide (maskN (hereL f false w))))) + 2 * (hereL f true w).length = rk ((l.map vec).map (msk (wide (maskN (hereL f true w))))) + w := r1
 rw [← q1, ← q2] at r1
 rw [← q1] at r2 r3
 rw [← q2] at r4
 have eS : ∀ a b : Nat, a ≤ 1000 → b ≤ 1000 → isub .i64 (a : Int) (b : Int) = (a : Int) - b := fun a b _ _ => isub_eq (by omega) (by omega)
 have e1 : enI l (hereL f true w) = (rkN l (maskN (hereL f true w)) : Int) - (hereL f true w).length := eS _ _ (by omega) (by omega)
 have e2 : enI l (hereL f false w) = (rkN l (maskN (hereL f false w)) : Int) - (hereL f false w).length := eS _ _ (by omega) (by omega)
 have eA : enI l (hereL f false w ++ hereL f true w) = (rkN l (maskN (hereL f false w ++ hereL f true w)) : Int) - (hereL f false w ++ hereL f true w).length := eS _ _ (by omega) (by rw [List.length_append]; omega)
 refine ⟨by omega, by omega, by omega, by omega, by rw [eA, rA, List.length_append]; omega, fun x hx => ?_⟩
 have h3 := more_wrs hx
 have c3 := wrs_cw hw h3
 have hl3 : (hereL f true w ++ [x]).length = (hereL f true w).length + 1 := by rw [List.length_append]; rfl
 have r5 := rk_more hL ho.a (wide_msk (wrs_mask hw h3)) (fun j hj => ?_) (by rw [c3, c1, hl3])
 ·have q3 : rkN l (maskN (hereL f true w ++ [x])) = rk ((l.map vec).map (msk (wide (maskN (hereL f true w ++ [x]))))) := rfl
  rw [← q1, ← q3] at r5
  have e3 : enI l (hereL f true w ++ [x]) = (rkN l (maskN (hereL f true w ++ [x])) : Int) - (hereL f true w ++ [x]).length := eS _ _ (by omega) (by omega)
  rw [e3, e1, hl3]
  omega
 ·have hm1 := wrs_mask hw h1
  have hm3 := wrs_mask hw h3
  by_cases hj12 : j < 12
  ·rw [wide_bit hm1 hj12, wrs_bit h1, decide_eq_true_iff] at hj
   rw [wide_bit hm3 hj12, wrs_bit h3, decide_eq_true_iff, List.mem_append]
   exact .inl hj
  ·by_cases hj24 : j < 24
   ·obtain ⟨i, rfl⟩ : ∃ i, j = 12 + i := ⟨j - 12, by omega⟩
    rw [(wide_msk hm1).eq i (by omega), wide_bit hm1 (by omega), wrs_bit h1, decide_eq_true_iff] at hj
    rw [(wide_msk hm3).eq i (by omega), wide_bit hm3 (by omega), wrs_bit h3, decide_eq_true_iff, List.mem_append]
    exact .inl hj
   ·rw [Nat.testBit_lt_two_pow (Nat.lt_of_lt_of_le (wide_msk hm1).lt (Nat.pow_le_pow_right (by decide) (by omega)))] at hj
    cases hj
def oneSide (ks : List Int) (g : Gt) : Prop := g.ws.length = 2 → (decide (g.ws.getD 0 0 ∈ ks) = decide (g.ws.getD 1 0 ∈ ks))
theorem ent_gate (hs : SOk w l) {ks : List Int} (h : Wrs w ks) {g : Gt} (hg : GtOk w g) (h1 : oneSide ks g) : enI (appG w g l) ks = enI l ks := by
 have hw := hs.hi
 have hm := wrs_mask hw h
 have hM := wide_msk hm
 obtain ⟨hR, hk, hws⟩ := gR_of hg.chk hg.kind
 have hO := gR_ok hw hR
 have hsM := map_thr_sok hR hs
 obtain ⟨hs2, hsame⟩ := redRows_ok hsM
 have hv : ∀ q, q ∈ l.map vec → q < 2 ^ 24 := fun q hq => by
  obtain ⟨x, hx, rfl⟩ := List.mem_map.1 hq
  exact vec_lt hw (hs.vl x hx)
 have e1 : (l.map (thrS w (gK g) (gA g) (gB g))).map vec = (l.map vec).map (gL (gK g) (gA g) (gB g)) := by
  rw [List.map_map, List.map_map]
  refine List.map_congr_left fun q _ => ?_
  show (nf (thrS w (gK g) (gA g) (gB g) q)).2 = gL _ _ _ (nf q).2
  rw [nf_thr]; rfl
 have hlt : ∀ v, v < 2 ^ 24 → gL (gK g) (gA g) (gB g) v < 2 ^ 24 := fun v hv => by
  refine Nat.lt_pow_two_of_testBit _ fun j hj => ?_
  exact gL_bits hO (w := 12) (by unfold gOk at hO; omega) (by unfold gOk at hO; omega) (.inr (by omega)) (Nat.testBit_lt_two_pow (Nat.lt_of_lt_of_le hv (Nat.pow_le_pow_right (by decide) (by omega))))
 have e2 : rkN (appG w g l) (maskN ks) = rkN (l.map (thrS w (gK g) (gA g) (gB g))) (maskN ks) := by
  have hb : ∀ {L : List Ps}, SOk w L → ∀ a, a ∈ (L.map vec).map (msk (wide (maskN ks))) → a < 2 ^ 24 := fun hL a ha => by
   obtain ⟨x, hx, rfl⟩ := List.mem_map.1 ha
   obtain ⟨q, hq, rfl⟩ := List.mem_map.1 hx
   exact (msk_lin _).lt _ (vec_lt hw (hL.vl q hq))
  have sub : ∀ {L M : List Ps}, SOk w M → (∀ g, Gen (L.map nf) g → Gen (M.map nf) g) → SOk w L → ∀ a, a ∈ (L.map vec).map (msk (wide (maskN ks))) → spB ((M.map vec).map (msk (wide (maskN ks)))) a = true := fun {L M} _ hLM hL a ha => by
   obtain ⟨x, hx, rfl⟩ := List.mem_map.1 ha
   obtain ⟨q, hq, rfl⟩ := List.mem_map.1 hx
   refine sp_map (msk_lin _) _ _ ?_
   have := gen_span (hLM _ (gen_mem' (sok_sta hL).good (List.mem_map.2 ⟨q, hq, rfl⟩)))
   rw [List.map_map] at this
   exact this
  exact rk_eq (k := 24) (hb hs2) (hb hsM) (sp_ext (sub hsM (fun g q => (hsame g).2 q) hs2) (sub hs2 (fun g q => (hsame g).1 q) hsM))
 unfold enI
 rw [e2]
 unfold rkN
 rw [e1, rk_gate hM hO (fun hk9 => ?_) hlt hv]
 rw [wide_bit hm (by unfold gOk at hO; omega), wide_bit hm (by unfold gOk at hO; omega), wrs_bit h, wrs_bit h]
 have hws2 : g.ws = [(gA g : Int), (gB g : Int)] := by
  rw [hws]
  unfold wsOf
  rw [if_neg (by omega)]
 have := h1 (by rw [hws2]; rfl)
 rw [hws2] at this
 exact this.symm
end Go.Tz
namespace Go.Tz
open Go Go.AL Go.Proofs Go.Ma
noncomputable def ops9 (n : Nat) : Array Oper := (Tryz.f9.body.bind (findReg n)).getD #[]
structure ST (tv : List (Nat × Nat × AV)) (ks : List (Nat × AV)) (Z : (Nat → Bool) → St → Prop) (L : Nat → Bool) (s : St) : Prop where
 kp : ∀ p, p ∈ ks → lk s.env p.1 = p.2
 tv : ∀ p, p ∈ tv → L p.1 = true → lk s.env p.2.1 = p.2.2
 z : Z L s
variable {tv : List (Nat × Nat × AV)} {ks : List (Nat × AV)} {Z : (Nat → Bool) → St → Prop} {L : Nat → Bool} {s : St} {c i d : Nat} {v : AV} {H : AHeap} {n : Nat}
theorem st_put (h : ST tv ks Z L s) (hks : ∀ p, p ∈ ks → p.1 < c) (hd : c ≤ d) (htv : AllP (fun p : Nat × Nat × AV => (p.1 = i ∧ p.2 = (d, v)) ∨ (p.1 ≠ i ∧ p.2.1 ≠ d)) tv)
  (hz : Z (fun j => if j = i then true else L j) (({ env := s.env, heap := H, nx := n } : St).put (some d) v)) : ST tv ks Z (fun j => if j = i then true else L j) (({ env := s.env, heap := H, nx := n } : St).put (some d) v) := by
 refine ⟨fun p hp => ?_, fun p hp hl => ?_, hz⟩
 ·have := hks p hp
  exact (lk_cons_ne _ _ (by omega)).trans (h.kp p hp)
 ·rcases AllP.mem htv p hp with ⟨_, e⟩ | ⟨e1, e2⟩
  ·rw [e]; exact lk_cons_same _ _ _
  ·simp only [if_neg e1] at hl
   exact (lk_cons_ne _ _ e2).trans (h.tv p hp hl)
def zY (t base : Nat) (C : List (List D)) (s : St) : Prop := ∃ Y, base ≤ Y ∧ Y < s.nx ∧ lk s.env t = .sl Y 1 0 C.length C.length false ∧ s.heap.get Y = some (dblk 1 C)
theorem zY_put {t base : Nat} {C : List (List D)} (h : zY t base C s) (hd : t ≠ d) : zY t base C (s.put (some d) v) := by
 obtain ⟨Y, h1, h2, h3, h4⟩ := h
 exact ⟨Y, h1, h2, (lk_cons_ne _ _ hd).trans h3, h4⟩
theorem els_own {H : AHeap} {nm : Nat} {t : Bool} {es : List (List D)} {N : Nat} (hg : H.get nm = some (dblk 1 es)) (hN : N = es.length) : Els H 1 (.sl nm 1 0 N N t) (es.map (·.map .d)) := by
 subst hN
 have := Els.sl (sz := 1) nm 0 es.length es.length t (es.map (·.map AV.d)) hg (by simp)
 rw [List.drop_zero, List.take_of_length_le (by simp)] at this
 exact this
abbrev avs (A : List Int) : List (List AV) := (A.map fun k => [iD k]).map fun el => el.map AV.d
theorem int_sc (A : List Int) : ∀ el, el ∈ (A.map fun k => [iD k]).map (·.map AV.d) → ∀ v, v ∈ el → v.scalar = true := fun el h v hv => by
 obtain ⟨x, hx, rfl⟩ := List.mem_map.1 h
 obtain ⟨y, hy, rfl⟩ := List.mem_map.1 hx
 rw [List.mem_singleton.1 hv]; rfl
def zX16 (base : Nat) (B : List (List D)) (s : St) : Prop := (B = [] ∧ lk s.env 69 = .d (.sl [] true)) ∨ zY 69 base B s
structure Z16 (hs : List (Nat × Blk)) (base : Nat) (B C : List (List D)) (L : Nat → Bool) (s : St) : Prop where
 nx : base ≤ s.nx
 ho : ∀ p, p ∈ hs → s.heap.get p.1 = some p.2
 x : L 2 = true → L 4 = false → zX16 base B s
 y : L 4 = true → zY 71 base C s
theorem z16_put {hs : List (Nat × Blk)} {base : Nat} {B C : List (List D)} (h : Z16 hs base B C L s) (h2 : i ≠ 2) (h4 : i ≠ 4) (d1 : 69 ≠ d) (d2 : 71 ≠ d) : Z16 hs base B C (fun j => if j = i then true else L j) (s.put (some d) v) := by
 refine ⟨h.nx, h.ho, fun a b => ?_, fun a => ?_⟩
 ·simp only [if_neg (Ne.symm h2)] at a
  simp only [if_neg (Ne.symm h4)] at b
  rcases h.x a b with ⟨e, q⟩ | q
  ·exact .inl ⟨e, (lk_cons_ne _ _ d1).trans q⟩
  ·exact .inr (zY_put q d1)
 ·simp only [if_neg (Ne.symm h4)] at a
  exact zY_put (h.y a) d2
theorem clone24n {G : Nat → Option (List D)} (es : List (List D)) (tg : Bool) (hes : ∀ el, el ∈ es → el.length = 1) (hsc : ((es.map (·.map AV.d)).all fun el => el.all AV.scalar) = true) (hbig : es.length ≤ 1000000) :
  ACall Pr G 24 [.d (.sl es tg)] [] 0 fun v N k => (v = .d (.sl [] true) ∧ es = [] ∧ N = [] ∧ k = 0) ∨ (v = .sl 0 1 0 es.length es.length false ∧ N = [(0, some (dblk 1 es))] ∧ k = 1) := by
 refine acall_sub (clone24 es tg hes hsc hbig) ?_
 rintro v N k (⟨rfl, he⟩ | ⟨rfl, hg, _⟩)
 ·refine ⟨.d (.sl [] true), [], 0, ?_, .inl ⟨rfl, he, rfl, rfl⟩⟩
  exact keep_env (Nat.le_refl _) ⟨⟨rfl, rfl⟩, trivial⟩ trivial trivial
 ·have hg : N.get 1 = some (dblk 1 es) := hg
  rw [Nat.zero_add]
  refine ⟨.sl 0 1 0 es.length es.length false, [(0, some (dblk 1 es))], 1, ?_, .inr ⟨rfl, rfl, rfl⟩⟩
  first | refine ren_env [(0, 1)] ?_ ?_ ?_ trivial | refine ren_envB [(0, 1)] rfl rfl ?_ ?_ ?_ trivial
  ·repeat' first | exact trivial | refine ⟨⟨by first | rfl | assumption, rfl⟩, ?_⟩
  ·repeat' first | exact trivial | refine ⟨⟨ltB rfl, _, rfl, by first | rfl | assumption | exact get_ren rfl (by first | rfl | assumption | exact get_ren rfl hg) | exact get_ren rfl hg, by first | exact below1 rfl | exact below_dblk _ _ _ | exact below_arr rfl⟩, ?_⟩
  ·repeat' first | exact trivial | (refine And.intro ?_ ?_) | (exact fun _ => rfl) | (exact fun h => absurd h (Nat.ne_of_beq_eq_false rfl))
def tv16 (w : Nat) (l : List Ps) (lt : Bool) (A B : List Int) (e : Int) : List (Nat × Nat × AV) := [(0, 67, .d (stD w l lt)), (1, 68, .d (intsD B false)), (3, 70, .sl 2 1 0 A.length A.length false), (5, 72, .d (.tup [iD e, iD 0])), (6, 66, .d (.tup [iD e, iD 0])), (7, 73, .d (iD e)), (8, 74, .d (iD 0)), (9, 16, .d (iD e)), (10, 17, .d (iD 0))]
theorem reg16 {w : Nat} {l : List Ps} {lt : Bool} {A B : List Int} {e : Int} {hs : List (Nat × Blk)} {base : Nat} (hA : A.length ≤ 1000) (hB : B.length ≤ 1000) (hks : ∀ p, p ∈ ks → p.1 < 16) (k7 : (7, AV.ptr 1 2 0 0) ∈ ks) (k9 : (9, AV.sl 2 1 0 A.length A.length false) ∈ ks) (k10 : (10, AV.d (intsD B false)) ∈ ks)
  (h1 : (1, Blk.arr 2 [[.d (iD w), .d (rowsD l lt)]]) ∈ hs) (h2 : (2, dblk 1 (A.map fun k => [iD k])) ∈ hs) (hhs : ∀ p, p ∈ hs → p.1 < base) (cE : PC Pr GK 34 [stD w l lt, intsD (B ++ A) false] (.tup [iD e, iD 0])) {st : St}
  (S0 : ST (tv16 w l lt A B e) ks (Z16 hs base (B.map fun k => [iD k]) ((B ++ A).map fun k => [iD k])) (fun _ => false) st) {k : Exit → St → Prop}
  (hk : ∀ L s', ST (tv16 w l lt A B e) ks (Z16 hs base (B.map fun k => [iD k]) ((B ++ A).map fun k => [iD k])) L s' → (∀ i, i < 11 → L i = true) → ∃ st'', Sub GK 0 [] s' st'' ∧ k .normal st'') : RegVC Pr GK Tryz.f9.ntmps 0 [] 16 (ops9 16) st k := by
 refine ⟨fun r => awp_any pok.mixed (edgeB_ok (by kernel_rfl)) (ST (tv16 w l lt A B e) ks (Z16 hs base (B.map fun k => [iD k]) ((B ++ A).map fun k => [iD k]))) S0 ?_ ?_⟩
 ·intro L s i op hS hL ho hall
  have hi : i < 11 := (Array.getElem?_eq_some_iff.1 ho).1
  have T24 := pok.tab.get (t := 24) rfl
  have T42 := pok.tab.get (t := 42) rfl
  have T3 := pok.tab.get (t := 3) rfl
  have hcs : i = 0 ∨ i = 1 ∨ i = 2 ∨ i = 3 ∨ i = 4 ∨ i = 5 ∨ i = 6 ∨ i = 7 ∨ i = 8 ∨ i = 9 ∨ i = 10 := by omega
  have htv : ∀ (q j d : Nat) (v : AV), (tv16 w l lt A B e)[q]? = some (j, d, v) → L j = true → lk s.env d = v := fun q j d v hm hl => hS.tv (j, d, v) (List.mem_of_getElem? hm) hl
  rcases hcs with rfl | rfl | rfl | rfl | rfl | rfl | rfl | rfl | rfl | rfl | rfl
  all_goals
   have ho := Option.some.inj (show some _ = some op from ho)
   subst ho
   refine ⟨rfl, ?_⟩
  ·exact opwp_pure (fun c h => by cases h) (pure_load rfl T24.tok (fun h => by cases h) (hS.kp _ k7) (hS.z.ho _ h1) rfl rfl rfl) rfl (st_put (i := 0) (d := 67) hS hks (by decide) (by repeat' first | exact trivial | (refine ⟨by first | exact .inl ⟨rfl, rfl⟩ | exact .inr ⟨Nat.ne_of_beq_eq_false rfl, Nat.ne_of_beq_eq_false rfl⟩, ?_⟩)) (z16_put hS.z (by decide) (by decide) (by decide) (by decide)))
  ·exact opwp_pure (fun c h => by cases h) (pure_move rfl (hS.kp _ k10)) rfl (st_put (i := 1) (d := 68) hS hks (by decide) (by repeat' first | exact trivial | (refine ⟨by first | exact .inl ⟨rfl, rfl⟩ | exact .inr ⟨Nat.ne_of_beq_eq_false rfl, Nat.ne_of_beq_eq_false rfl⟩, ?_⟩)) (z16_put hS.z (by decide) (by decide) (by decide) (by decide)))
  ·have q := htv 1 1 68 _ rfl (hall ⟨1, .data⟩ (Array.mem_of_getElem? (i := 0) rfl) rfl)
   have hnx := hS.z.nx
   have hc := acall_data (ds := [intsD B false]) (H := s.heap) (nx := s.nx) (K := fun v H' nx' => ST (tv16 w l lt A B e) ks (Z16 hs base (B.map fun k => [iD k]) ((B ++ A).map fun k => [iD k])) (fun j => if j = 2 then true else L j) (({ env := s.env, heap := H', nx := nx' } : St).put (some 69) v)) (clone24n (G := GK) (B.map fun k => [iD k]) false (fun el h => by obtain ⟨q, _, rfl⟩ := List.mem_map.1 h; rfl) (ints_sc B) (by rw [List.length_map]; omega)) ?_
   ·refine opwp_call (f := 24) (fi := []) (ca := []) (l := [.d (intsD B false)]) rfl rfl (isFn_of Tryz.func24 chk24) ?_ rfl hc
    show [] ++ [lk s.env 68] ++ [] = _
    rw [q]; rfl
   ·rintro v N m (⟨rfl, he, rfl, rfl⟩ | ⟨rfl, rfl, rfl⟩)
    ·refine st_put (i := 2) (d := 69) hS hks (by decide) (by repeat' first | exact trivial | (refine ⟨by first | exact .inl ⟨rfl, rfl⟩ | exact .inr ⟨Nat.ne_of_beq_eq_false rfl, Nat.ne_of_beq_eq_false rfl⟩, ?_⟩)) ⟨by show base ≤ s.nx + 0; omega, hS.z.ho, fun _ _ => .inl ⟨he, lk_cons_same _ _ _⟩, fun a => ?_⟩
     have := hS.z.y (by simpa using a)
     obtain ⟨Y, y1, y2, y3, y4⟩ := this
     exact ⟨Y, y1, y2, (lk_cons_ne _ _ (by decide)).trans y3, y4⟩
    ·have hne : ∀ m, m < s.nx → AHeap.get ((0 + s.nx, some (Blk.ren (· + s.nx) (dblk 1 (B.map fun k => [iD k])))) :: s.heap) m = s.heap.get m := fun m hm => get_cons_ne _ _ (by omega)
     refine st_put (i := 2) (d := 69) hS hks (by decide) (by repeat' first | exact trivial | (refine ⟨by first | exact .inl ⟨rfl, rfl⟩ | exact .inr ⟨Nat.ne_of_beq_eq_false rfl, Nat.ne_of_beq_eq_false rfl⟩, ?_⟩)) ⟨by show base ≤ s.nx + 1; omega, fun p hp => (hne p.1 (by have := hhs p hp; omega)).trans (hS.z.ho p hp), fun _ _ => .inr ⟨0 + s.nx, by omega, by show 0 + s.nx < s.nx + 1; omega, lk_cons_same _ _ _, (get_cons_same _ _ _).trans (congrArg some (ren_dblk _ _ _))⟩, fun a => ?_⟩
     obtain ⟨Y, y1, y2, y3, y4⟩ := hS.z.y (by simpa using a)
     exact ⟨Y, y1, by show Y < s.nx + 1; omega, (lk_cons_ne _ _ (by decide)).trans y3, (hne Y y2).trans y4⟩
  ·exact opwp_pure (fun c h => by cases h) (pure_move rfl (hS.kp _ k9)) rfl (st_put (i := 3) (d := 70) hS hks (by decide) (by repeat' first | exact trivial | (refine ⟨by first | exact .inl ⟨rfl, rfl⟩ | exact .inr ⟨Nat.ne_of_beq_eq_false rfl, Nat.ne_of_beq_eq_false rfl⟩, ?_⟩)) (z16_put hS.z (by decide) (by decide) (by decide) (by decide)))
  ·have q3 := htv 2 3 70 _ rfl (hall ⟨3, .data⟩ (Array.mem_of_getElem? (i := 1) rfl) rfl)
   have q2 := hS.z.x (hall ⟨2, .data⟩ (Array.mem_of_getElem? (i := 0) rfl) rfl) hL
   have hnx := hS.z.nx
   have hEls : Els s.heap 1 (lk s.env 70) ((A.map fun k => [iD k]).map (·.map AV.d)) := by
    rw [q3]
    exact els_own (hS.z.ho _ h2) (by rw [List.length_map])
   have hap : ((B ++ A).map fun k => [iD k]).map (·.map AV.d) = ((B.map fun k => [iD k]).map (·.map AV.d)) ++ ((A.map fun k => [iD k]).map (·.map AV.d)) := by rw [List.map_append, List.map_append]
   rcases q2 with ⟨he, q2⟩ | ⟨X, x1, x2, x3, x4⟩
   ·have hB0 : B = [] := List.map_eq_nil_iff.1 he
    subst hB0
    refine opwp_step (k := 1) (fun c hc => by cases hc) ((step_append_ro (x := .tmp 69) (y := .tmp 70) (nm' := s.nx) (es := []) (G := GK) (S := 1) (ys := avs A) (by exact rfl) ⟨T42.2, T3.1⟩ T42.2 q2 (fun el h => by cases h) hEls (.inr rfl) (by decide) (by simp only [List.length_map, List.length_nil]; show (2 * (0 + A.length) + 192) * 8 ≤ _; omega)).names fun m hm => by subst hm; omega) rfl ?_
    have hne : ∀ m, m < s.nx → ∀ b, AHeap.get ((s.nx, b) :: s.heap) m = s.heap.get m := fun m hm b => get_cons_ne _ _ (by omega)
    refine st_put (i := 4) (d := 71) hS hks (by decide) (by repeat' first | exact trivial | (refine ⟨by first | exact .inl ⟨rfl, rfl⟩ | exact .inr ⟨Nat.ne_of_beq_eq_false rfl, Nat.ne_of_beq_eq_false rfl⟩, ?_⟩)) ⟨by show base ≤ s.nx + 1; omega, fun p hp => (hne p.1 (by have := hhs p hp; omega) _).trans (hS.z.ho p hp), fun _ h => (by simp at h), fun _ => ⟨s.nx, hnx, by show s.nx < s.nx + 1; omega, (lk_cons_same _ _ _).trans ?_, (get_cons_same _ _ _).trans ?_⟩⟩
    ·simp
    ·simp [dblk]
   ·refine opwp_step (k := 1) (fun c hc => by cases hc) ((step_append (x := .tmp 69) (y := .tmp 70) (nm' := s.nx) (nm := X) (els := avs B) (G := GK) (S := 1) (ys := avs A) (by exact rfl) ⟨T42.2, T3.1⟩ T42.2 x3 x4 (by rw [List.length_map]) (Nat.le_refl _) hEls (int_sc A) (by decide) (by simp only [List.length_map]; show (2 * (B.length + A.length) + 192) * 8 ≤ _; omega)).names fun m hm => by subst hm; omega) rfl ?_
    have hne : ∀ m, m < base → ∀ b c, AHeap.get ((s.nx, b) :: (X, c) :: s.heap) m = s.heap.get m := fun m hm b c => (get_cons_ne _ _ (by omega)).trans (get_cons_ne _ _ (by omega))
    refine st_put (i := 4) (d := 71) hS hks (by decide) (by repeat' first | exact trivial | (refine ⟨by first | exact .inl ⟨rfl, rfl⟩ | exact .inr ⟨Nat.ne_of_beq_eq_false rfl, Nat.ne_of_beq_eq_false rfl⟩, ?_⟩)) ⟨by show base ≤ s.nx + 1; omega, fun p hp => (hne p.1 (hhs p hp) _ _).trans (hS.z.ho p hp), fun _ h => (by simp at h), fun _ => ⟨s.nx, hnx, by show s.nx < s.nx + 1; omega, (lk_cons_same _ _ _).trans ?_, (get_cons_same _ _ _).trans ?_⟩⟩
    ·simp
    ·unfold dblk; rw [hap]
  ·have q0 := htv 0 0 67 _ rfl (hall ⟨0, .data⟩ (Array.mem_of_getElem? (i := 0) rfl) rfl)
   obtain ⟨Y, y1, y2, y3, y4⟩ := hS.z.y (hall ⟨4, .data⟩ (Array.mem_of_getElem? (i := 1) rfl) rfl)
   have hc := pc_lend2 (H := s.heap) (nx := s.nx) (k := fun v H' nx' => ST (tv16 w l lt A B e) ks (Z16 hs base (B.map fun k => [iD k]) ((B ++ A).map fun k => [iD k])) (fun j => if j = 5 then true else L j) (({ env := s.env, heap := H', nx := nx' } : St).put (some 72) v)) cE (.d _) (asD_own (t := false) y4 rfl) rfl ?_
   ·obtain ⟨hf, hc⟩ := hc
    refine opwp_call (f := 34) (fi := []) (ca := []) (l := [.d (stD w l lt), .sl Y 1 0 ((B ++ A).map fun k => [iD k]).length ((B ++ A).map fun k => [iD k]).length false]) rfl rfl hf ?_ rfl hc
    show [] ++ [lk s.env 67, lk s.env 71] ++ [] = _
    rw [q0, y3]; rfl
   ·exact st_put (i := 5) (d := 72) hS hks (by decide) (by repeat' first | exact trivial | (refine ⟨by first | exact .inl ⟨rfl, rfl⟩ | exact .inr ⟨Nat.ne_of_beq_eq_false rfl, Nat.ne_of_beq_eq_false rfl⟩, ?_⟩)) (z16_put hS.z (by decide) (by decide) (by decide) (by decide))
  ·exact opwp_pure (fun c h => by cases h) (pure_move rfl (htv 3 5 72 _ rfl (hall ⟨5, .data⟩ (Array.mem_of_getElem? (i := 0) rfl) rfl))) rfl (st_put (i := 6) (d := 66) hS hks (by decide) (by repeat' first | exact trivial | (refine ⟨by first | exact .inl ⟨rfl, rfl⟩ | exact .inr ⟨Nat.ne_of_beq_eq_false rfl, Nat.ne_of_beq_eq_false rfl⟩, ?_⟩)) (z16_put hS.z (by decide) (by decide) (by decide) (by decide)))
  ·exact opwp_pure (fun c h => by cases h) (pure_extract_d rfl (htv 4 6 66 _ rfl (hall ⟨6, .data⟩ (Array.mem_of_getElem? (i := 0) rfl) rfl)) rfl) rfl (st_put (i := 7) (d := 73) hS hks (by decide) (by repeat' first | exact trivial | (refine ⟨by first | exact .inl ⟨rfl, rfl⟩ | exact .inr ⟨Nat.ne_of_beq_eq_false rfl, Nat.ne_of_beq_eq_false rfl⟩, ?_⟩)) (z16_put hS.z (by decide) (by decide) (by decide) (by decide)))
  ·exact opwp_pure (fun c h => by cases h) (pure_extract_d rfl (htv 4 6 66 _ rfl (hall ⟨6, .data⟩ (Array.mem_of_getElem? (i := 0) rfl) rfl)) rfl) rfl (st_put (i := 8) (d := 74) hS hks (by decide) (by repeat' first | exact trivial | (refine ⟨by first | exact .inl ⟨rfl, rfl⟩ | exact .inr ⟨Nat.ne_of_beq_eq_false rfl, Nat.ne_of_beq_eq_false rfl⟩, ?_⟩)) (z16_put hS.z (by decide) (by decide) (by decide) (by decide)))
  ·exact opwp_pure (fun c h => by cases h) (pure_assign rfl (htv 5 7 73 _ rfl (hall ⟨7, .data⟩ (Array.mem_of_getElem? (i := 0) rfl) rfl))) rfl (st_put (i := 9) (d := 16) hS hks (by decide) (by repeat' first | exact trivial | (refine ⟨by first | exact .inl ⟨rfl, rfl⟩ | exact .inr ⟨Nat.ne_of_beq_eq_false rfl, Nat.ne_of_beq_eq_false rfl⟩, ?_⟩)) (z16_put hS.z (by decide) (by decide) (by decide) (by decide)))
  ·exact opwp_pure (fun c h => by cases h) (pure_assign rfl (htv 6 8 74 _ rfl (hall ⟨8, .data⟩ (Array.mem_of_getElem? (i := 0) rfl) rfl))) rfl (st_put (i := 10) (d := 17) hS hks (by decide) (by repeat' first | exact trivial | (refine ⟨by first | exact .inl ⟨rfl, rfl⟩ | exact .inr ⟨Nat.ne_of_beq_eq_false rfl, Nat.ne_of_beq_eq_false rfl⟩, ?_⟩)) (z16_put hS.z (by decide) (by decide) (by decide) (by decide)))
 ·intro L s hS hall
  exact ⟨rfl, hk L s hS fun i hi => hall i hi⟩
structure Z32 (hs : List (Nat × Blk)) (base : Nat) (x : Int) (A C : List (List D)) (L : Nat → Bool) (s : St) : Prop where
 nx : base ≤ s.nx
 ho : ∀ p, p ∈ hs → s.heap.get p.1 = some p.2
 g : L 6 = false → s.heap.get 2 = some (dblk 1 A)
 x : L 5 = true → L 6 = false → ∃ X, base ≤ X ∧ X < s.nx ∧ lk s.env 164 = .sl X 1 0 1 1 true ∧ s.heap.get X = some (dblk 1 [[iD x]])
 y : L 6 = true → zY 165 base C s
theorem z32_put {hs : List (Nat × Blk)} {base : Nat} {x : Int} {A C : List (List D)} (h : Z32 hs base x A C L s) (h2 : i ≠ 5) (h4 : i ≠ 6) (d1 : 164 ≠ d) (d2 : 165 ≠ d) : Z32 hs base x A C (fun j => if j = i then true else L j) (s.put (some d) v) := by
 refine ⟨h.nx, h.ho, fun a => h.g (by simpa only [if_neg (Ne.symm h4)] using a), fun a b => ?_, fun a => ?_⟩
 ·simp only [if_neg (Ne.symm h2)] at a
  simp only [if_neg (Ne.symm h4)] at b
  obtain ⟨X, x1, x2, x3, x4⟩ := h.x a b
  exact ⟨X, x1, x2, (lk_cons_ne _ _ d1).trans x3, x4⟩
 ·simp only [if_neg (Ne.symm h4)] at a
  exact zY_put (h.y a) d2
def tv32 (w : Nat) (l : List Ps) (lt : Bool) (A : List Int) (x : Int) (B : List Int) (e : Int) : List (Nat × Nat × AV) := [(0, 159, .d (stD w l lt)), (1, 160, .sl 2 1 0 A.length A.length false), (2, 161, .d (intsD (x :: B) false)), (3, 162, .d (.rop [iD x] 0)), (4, 163, .d (iD x)), (7, 166, .d (.tup [iD e, iD 0])), (8, 158, .d (.tup [iD e, iD 0])), (9, 167, .d (iD e)), (10, 168, .d (iD 0)), (11, 21, .d (iD e)), (12, 22, .d (iD 0))]
theorem reg32 {w : Nat} {l : List Ps} {lt : Bool} {A B : List Int} {x e : Int} {hs : List (Nat × Blk)} {base : Nat} (hA : A.length ≤ 1000) (hks : ∀ p, p ∈ ks → p.1 < 21) (k7 : (7, AV.ptr 1 2 0 0) ∈ ks) (k9 : (9, AV.sl 2 1 0 A.length A.length false) ∈ ks) (k10 : (10, AV.d (intsD (x :: B) false)) ∈ ks)
  (h1 : (1, Blk.arr 2 [[.d (iD w), .d (rowsD l lt)]]) ∈ hs) (hhs : ∀ p, p ∈ hs → p.1 ≠ 2 ∧ p.1 < base) (hb : 2 < base) (cE : PC Pr GK 34 [stD w l lt, intsD (A ++ [x]) false] (.tup [iD e, iD 0])) {st : St}
  (S0 : ST (tv32 w l lt A x B e) ks (Z32 hs base x (A.map fun k => [iD k]) ((A ++ [x]).map fun k => [iD k])) (fun _ => false) st) {k : Exit → St → Prop}
  (hk : ∀ L s', ST (tv32 w l lt A x B e) ks (Z32 hs base x (A.map fun k => [iD k]) ((A ++ [x]).map fun k => [iD k])) L s' → (∀ i, i < 13 → L i = true) → ∃ st'', Sub GK 0 [] s' st'' ∧ k .normal st'') : RegVC Pr GK Tryz.f9.ntmps 0 [] 32 (ops9 32) st k := by
 refine ⟨fun r => awp_any pok.mixed (edgeB_ok (by kernel_rfl)) (ST (tv32 w l lt A x B e) ks (Z32 hs base x (A.map fun k => [iD k]) ((A ++ [x]).map fun k => [iD k]))) S0 ?_ ?_⟩
 ·intro L s i op hS hL ho hall
  have hi : i < 13 := (Array.getElem?_eq_some_iff.1 ho).1
  have T24 := pok.tab.get (t := 24) rfl
  have T42 := pok.tab.get (t := 42) rfl
  have T3 := pok.tab.get (t := 3) rfl
  have hcs : i = 0 ∨ i = 1 ∨ i = 2 ∨ i = 3 ∨ i = 4 ∨ i = 5 ∨ i = 6 ∨ i = 7 ∨ i = 8 ∨ i = 9 ∨ i = 10 ∨ i = 11 ∨ i = 12 := by omega
  have htv : ∀ (q j d : Nat) (v : AV), (tv32 w l lt A x B e)[q]? = some (j, d, v) → L j = true → lk s.env d = v := fun q j d v hm hl => hS.tv (j, d, v) (List.mem_of_getElem? hm) hl
  rcases hcs with rfl | rfl | rfl | rfl | rfl | rfl | rfl | rfl | rfl | rfl | rfl | rfl | rfl
  all_goals
   have ho := Option.some.inj (show some _ = some op from ho)
   subst ho
   refine ⟨rfl, ?_⟩
  ·exact opwp_pure (fun c h => by cases h) (pure_load rfl T24.tok (fun h => by cases h) (hS.kp _ k7) (hS.z.ho _ h1) rfl rfl rfl) rfl (st_put (i := 0) (d := 159) hS hks (by decide) (by repeat' first | exact trivial | (refine ⟨by first | exact .inl ⟨rfl, rfl⟩ | exact .inr ⟨Nat.ne_of_beq_eq_false rfl, Nat.ne_of_beq_eq_false rfl⟩, ?_⟩)) (z32_put hS.z (by decide) (by decide) (by decide) (by decide)))
  ·exact opwp_pure (fun c h => by cases h) (pure_move rfl (hS.kp _ k9)) rfl (st_put (i := 1) (d := 160) hS hks (by decide) (by repeat' first | exact trivial | (refine ⟨by first | exact .inl ⟨rfl, rfl⟩ | exact .inr ⟨Nat.ne_of_beq_eq_false rfl, Nat.ne_of_beq_eq_false rfl⟩, ?_⟩)) (z32_put hS.z (by decide) (by decide) (by decide) (by decide)))
  ·exact opwp_pure (fun c h => by cases h) (pure_move rfl (hS.kp _ k10)) rfl (st_put (i := 2) (d := 161) hS hks (by decide) (by repeat' first | exact trivial | (refine ⟨by first | exact .inl ⟨rfl, rfl⟩ | exact .inr ⟨Nat.ne_of_beq_eq_false rfl, Nat.ne_of_beq_eq_false rfl⟩, ?_⟩)) (z32_put hS.z (by decide) (by decide) (by decide) (by decide)))
  ·exact opwp_pure (fun c h => by cases h) (pure_indexAddr_ro (ki := .i64) (i := 0) (cs := [iD x]) rfl ⟨T42.2, T3.1⟩ (htv 2 2 161 _ rfl (hall ⟨2, .data⟩ (Array.mem_of_getElem? (i := 0) rfl) rfl)) rfl (by decide) rfl rfl) rfl (st_put (i := 3) (d := 162) hS hks (by decide) (by repeat' first | exact trivial | (refine ⟨by first | exact .inl ⟨rfl, rfl⟩ | exact .inr ⟨Nat.ne_of_beq_eq_false rfl, Nat.ne_of_beq_eq_false rfl⟩, ?_⟩)) (z32_put hS.z (by decide) (by decide) (by decide) (by decide)))
  ·exact opwp_pure (fun c h => by cases h) (pure_load_ro rfl T3.tok (fun _ => rfl) (htv 3 3 162 _ rfl (hall ⟨3, .data⟩ (Array.mem_of_getElem? (i := 0) rfl) rfl)) rfl rfl) rfl (st_put (i := 4) (d := 163) hS hks (by decide) (by repeat' first | exact trivial | (refine ⟨by first | exact .inl ⟨rfl, rfl⟩ | exact .inr ⟨Nat.ne_of_beq_eq_false rfl, Nat.ne_of_beq_eq_false rfl⟩, ?_⟩)) (z32_put hS.z (by decide) (by decide) (by decide) (by decide)))
  ·have q := (htv 4 4 163 _ rfl (hall ⟨4, .data⟩ (Array.mem_of_getElem? (i := 0) rfl) rfl))
   have hnx := hS.z.nx
   have hne : ∀ m, m < s.nx → ∀ b, AHeap.get ((s.nx, b) :: s.heap) m = s.heap.get m := fun m hm b => get_cons_ne _ _ (by omega)
   refine opwp_step (k := 1) (fun c hc => by cases hc) ((step_buildSlice (G := GK) (len := 1) (ps := #[(0, .tmp 163)]) (nm := s.nx) (zs := [.d (iD 0)]) (els := [[.d (iD x)]]) rfl ⟨T42.2, T3.1⟩ rfl rfl (by show fillA [(0 * 1, 1)] [AV.d (iD 0)] [(0, lk s.env 163)] = _; rw [show lk s.env 163 = _ from q]; rfl) (fun el h => by simp at h; subst h; rfl) rfl (Nat.le_of_ble_eq_true rfl)).names fun m hm => by subst hm; omega) rfl ?_
   refine st_put (i := 5) (d := 164) hS hks (by decide) (by repeat' first | exact trivial | (refine ⟨by first | exact .inl ⟨rfl, rfl⟩ | exact .inr ⟨Nat.ne_of_beq_eq_false rfl, Nat.ne_of_beq_eq_false rfl⟩, ?_⟩)) ⟨by show base ≤ s.nx + 1; omega, fun p hp => (hne p.1 (by have := hhs p hp; omega) _).trans (hS.z.ho p hp), fun h => (hne 2 (by omega) _).trans (hS.z.g (by simpa using h)), fun _ _ => ⟨s.nx, hnx, by show s.nx < s.nx + 1; omega, lk_cons_same _ _ _, get_cons_same _ _ _⟩, fun a => ?_⟩
   obtain ⟨Y, y1, y2, y3, y4⟩ := hS.z.y (by simpa using a)
   exact ⟨Y, y1, by show Y < s.nx + 1; omega, (lk_cons_ne _ _ (by decide)).trans y3, (hne Y y2 _).trans y4⟩
  ·have q1 := (htv 1 1 160 _ rfl (hall ⟨1, .data⟩ (Array.mem_of_getElem? (i := 0) rfl) rfl))
   obtain ⟨X, x1, x2, x3, x4⟩ := hS.z.x (hall ⟨5, .data⟩ (Array.mem_of_getElem? (i := 1) rfl) rfl) hL
   have hnx := hS.z.nx
   have hEls : Els s.heap 1 (lk s.env 164) (avs [x]) := by
    rw [x3]
    exact els_own (es := [[iD x]]) x4 rfl
   have hap : ((A ++ [x]).map fun k => [iD k]).map (·.map AV.d) = avs A ++ avs [x] := by rw [List.map_append, List.map_append]
   refine opwp_step (k := 1) (fun c hc => by cases hc) ((step_append (x := .tmp 160) (y := .tmp 164) (nm' := s.nx) (nm := 2) (G := GK) (S := 1) (els := avs A) (ys := avs [x]) (by exact rfl) ⟨T42.2, T3.1⟩ T42.2 q1 (hS.z.g hL) (by rw [List.length_map, List.length_map]) (Nat.le_refl _) hEls (int_sc [x]) (by decide) (by simp only [List.length_map]; show (2 * (A.length + 1) + 192) * 8 ≤ _; omega)).names fun m hm => by subst hm; omega) rfl ?_
   have hne : ∀ m, m < s.nx → m ≠ 2 → ∀ b c, AHeap.get ((s.nx, b) :: (2, c) :: s.heap) m = s.heap.get m := fun m hm h2 b c => (get_cons_ne _ _ (by omega)).trans (get_cons_ne _ _ h2)
   refine st_put (i := 6) (d := 165) hS hks (by decide) (by repeat' first | exact trivial | (refine ⟨by first | exact .inl ⟨rfl, rfl⟩ | exact .inr ⟨Nat.ne_of_beq_eq_false rfl, Nat.ne_of_beq_eq_false rfl⟩, ?_⟩)) ⟨by show base ≤ s.nx + 1; omega, fun p hp => (hne p.1 (by have := hhs p hp; omega) (hhs p hp).1 _ _).trans (hS.z.ho p hp), fun h => (by simp at h), fun _ h => (by simp at h), fun _ => ⟨s.nx, hnx, by show s.nx < s.nx + 1; omega, (lk_cons_same _ _ _).trans ?_, (get_cons_same _ _ _).trans ?_⟩⟩
   ·simp
   ·unfold dblk; rw [hap]
  ·have q0 := (htv 0 0 159 _ rfl (hall ⟨0, .data⟩ (Array.mem_of_getElem? (i := 0) rfl) rfl))
   obtain ⟨Y, y1, y2, y3, y4⟩ := hS.z.y (hall ⟨6, .data⟩ (Array.mem_of_getElem? (i := 1) rfl) rfl)
   have hc := pc_lend2 (H := s.heap) (nx := s.nx) (k := fun v H' nx' => ST (tv32 w l lt A x B e) ks (Z32 hs base x (A.map fun k => [iD k]) ((A ++ [x]).map fun k => [iD k])) (fun j => if j = 7 then true else L j) (({ env := s.env, heap := H', nx := nx' } : St).put (some 166) v)) cE (.d _) (asD_own (t := false) y4 rfl) rfl ?_
   ·obtain ⟨hf, hc⟩ := hc
    refine opwp_call (f := 34) (fi := []) (ca := []) (l := [.d (stD w l lt), .sl Y 1 0 ((A ++ [x]).map fun k => [iD k]).length ((A ++ [x]).map fun k => [iD k]).length false]) rfl rfl hf ?_ rfl hc
    show [] ++ [lk s.env 159, lk s.env 165] ++ [] = _
    rw [q0, y3]; rfl
   ·exact st_put (i := 7) (d := 166) hS hks (by decide) (by repeat' first | exact trivial | (refine ⟨by first | exact .inl ⟨rfl, rfl⟩ | exact .inr ⟨Nat.ne_of_beq_eq_false rfl, Nat.ne_of_beq_eq_false rfl⟩, ?_⟩)) (z32_put hS.z (by decide) (by decide) (by decide) (by decide))
  ·exact opwp_pure (fun c h => by cases h) (pure_move rfl (htv 5 7 166 _ rfl (hall ⟨7, .data⟩ (Array.mem_of_getElem? (i := 0) rfl) rfl))) rfl (st_put (i := 8) (d := 158) hS hks (by decide) (by repeat' first | exact trivial | (refine ⟨by first | exact .inl ⟨rfl, rfl⟩ | exact .inr ⟨Nat.ne_of_beq_eq_false rfl, Nat.ne_of_beq_eq_false rfl⟩, ?_⟩)) (z32_put hS.z (by decide) (by decide) (by decide) (by decide)))
  ·exact opwp_pure (fun c h => by cases h) (pure_extract_d rfl (htv 6 8 158 _ rfl (hall ⟨8, .data⟩ (Array.mem_of_getElem? (i := 0) rfl) rfl)) rfl) rfl (st_put (i := 9) (d := 167) hS hks (by decide) (by repeat' first | exact trivial | (refine ⟨by first | exact .inl ⟨rfl, rfl⟩ | exact .inr ⟨Nat.ne_of_beq_eq_false rfl, Nat.ne_of_beq_eq_false rfl⟩, ?_⟩)) (z32_put hS.z (by decide) (by decide) (by decide) (by decide)))
  ·exact opwp_pure (fun c h => by cases h) (pure_extract_d rfl (htv 6 8 158 _ rfl (hall ⟨8, .data⟩ (Array.mem_of_getElem? (i := 0) rfl) rfl)) rfl) rfl (st_put (i := 10) (d := 168) hS hks (by decide) (by repeat' first | exact trivial | (refine ⟨by first | exact .inl ⟨rfl, rfl⟩ | exact .inr ⟨Nat.ne_of_beq_eq_false rfl, Nat.ne_of_beq_eq_false rfl⟩, ?_⟩)) (z32_put hS.z (by decide) (by decide) (by decide) (by decide)))
  ·exact opwp_pure (fun c h => by cases h) (pure_assign rfl (htv 7 9 167 _ rfl (hall ⟨9, .data⟩ (Array.mem_of_getElem? (i := 0) rfl) rfl))) rfl (st_put (i := 11) (d := 21) hS hks (by decide) (by repeat' first | exact trivial | (refine ⟨by first | exact .inl ⟨rfl, rfl⟩ | exact .inr ⟨Nat.ne_of_beq_eq_false rfl, Nat.ne_of_beq_eq_false rfl⟩, ?_⟩)) (z32_put hS.z (by decide) (by decide) (by decide) (by decide)))
  ·exact opwp_pure (fun c h => by cases h) (pure_assign rfl (htv 8 10 168 _ rfl (hall ⟨10, .data⟩ (Array.mem_of_getElem? (i := 0) rfl) rfl))) rfl (st_put (i := 12) (d := 22) hS hks (by decide) (by repeat' first | exact trivial | (refine ⟨by first | exact .inl ⟨rfl, rfl⟩ | exact .inr ⟨Nat.ne_of_beq_eq_false rfl, Nat.ne_of_beq_eq_false rfl⟩, ?_⟩)) (z32_put hS.z (by decide) (by decide) (by decide) (by decide)))
 ·intro L s hS hall
  exact ⟨rfl, hk L s hS fun i hi => hall i hi⟩
theorem reg16c {ops : Array Oper} (hops : ops = ops9 16) (ks : List (Nat × AV)) (hs : List (Nat × Blk)) (base : Nat) {w : Nat} {l : List Ps} {lt : Bool} {A B : List Int} {e : Int} (hA : A.length ≤ 1000) (hB : B.length ≤ 1000) (hks : AllP (fun p => p.1 < 16 ∧ p.2.bel base = true) ks)
  (k7 : (7, AV.ptr 1 2 0 0) ∈ ks) (k9 : (9, AV.sl 2 1 0 A.length A.length false) ∈ ks) (k10 : (10, AV.d (intsD B false)) ∈ ks) (h1 : (1, Blk.arr 2 [[.d (iD w), .d (rowsD l lt)]]) ∈ hs) (h2 : (2, dblk 1 (A.map fun k => [iD k])) ∈ hs) (hhs : AllP (fun p => p.1 < base ∧ p.2.Below base) hs)
  (cE : PC Pr GK 34 [stD w l lt, intsD (B ++ A) false] (.tup [iD e, iD 0])) {e0 : List (Nat × AV)} {H : AHeap} {nx : Nat} (hnx : base ≤ nx) (he : AllP (fun p => lk e0 p.1 = p.2) ks) (hH : AllP (fun p => H.get p.1 = some p.2) hs) {k : Exit → St → Prop}
  (hk : k .normal ⟨(16, .d (iD e)) :: (17, .d (iD 0)) :: ks, hs.map (fun p => (p.1, some p.2)), base⟩) : RegVC Pr GK Tryz.f9.ntmps 0 [] 16 ops ⟨e0, H, nx⟩ k := by
 subst hops
 refine reg16 (base := base) hA hB (fun p hp => (AllP.mem hks p hp).1) k7 k9 k10 h1 h2 (fun p hp => (AllP.mem hhs p hp).1) cE ⟨fun p hp => AllP.mem he _ hp, fun p _ h => (by cases h), ⟨hnx, fun p hp => AllP.mem hH _ hp, fun h => (by cases h), fun h => (by cases h)⟩⟩ ?_
 intro L s' hS hL
 refine ⟨_, keep_env (Nat.zero_le _) ?_ ?_ trivial, hk⟩
 ·refine ⟨⟨hS.tv (9, 16, .d (iD e)) (List.mem_of_getElem? (i := 7) rfl) (hL 9 (by decide)), rfl⟩, ⟨hS.tv (10, 17, .d (iD 0)) (List.mem_of_getElem? (i := 8) rfl) (hL 10 (by decide)), rfl⟩, allP_of fun p hp => ⟨hS.kp _ hp, (AllP.mem hks p hp).2⟩⟩
 ·refine allP_of fun p hp => ?_
  obtain ⟨q, hq, rfl⟩ := List.mem_map.1 hp
  have := (AllP.mem hhs q hq)
  exact ⟨this.1, _, rfl, hS.z.ho _ hq, this.2⟩
theorem reg32c {ops : Array Oper} (hops : ops = ops9 32) (ks ks' : List (Nat × AV)) (hs : List (Nat × Blk)) (base : Nat) {w : Nat} {l : List Ps} {lt : Bool} {A B : List Int} {x e : Int} (hA : A.length ≤ 1000) (hks : AllP (fun p => p.1 < 21) ks) (hks' : AllP (fun p => p ∈ ks ∧ p.2.bel base = true) ks')
  (k7 : (7, AV.ptr 1 2 0 0) ∈ ks) (k9 : (9, AV.sl 2 1 0 A.length A.length false) ∈ ks) (k10 : (10, AV.d (intsD (x :: B) false)) ∈ ks) (h1 : (1, Blk.arr 2 [[.d (iD w), .d (rowsD l lt)]]) ∈ hs) (hhs : AllP (fun p => (p.1 ≠ 2 ∧ p.1 < base) ∧ p.2.Below base) hs) (hb : 2 < base)
  (cE : PC Pr GK 34 [stD w l lt, intsD (A ++ [x]) false] (.tup [iD e, iD 0])) {e0 : List (Nat × AV)} {H : AHeap} {nx : Nat} (hnx : base ≤ nx) (he : AllP (fun p => lk e0 p.1 = p.2) ks) (hH : AllP (fun p => H.get p.1 = some p.2) hs) (h0 : H.get 2 = some (dblk 1 (A.map fun k => [iD k]))) {k : Exit → St → Prop}
  (hk : k .normal ⟨(21, .d (iD e)) :: (22, .d (iD 0)) :: ks', hs.map (fun p => (p.1, some p.2)), base⟩) : RegVC Pr GK Tryz.f9.ntmps 0 [] 32 ops ⟨e0, H, nx⟩ k := by
 subst hops
 refine reg32 (base := base) hA (fun p hp => AllP.mem hks p hp) k7 k9 k10 h1 (fun p hp => (AllP.mem hhs p hp).1) hb cE ⟨fun p hp => AllP.mem he _ hp, fun p _ h => (by cases h), ⟨hnx, fun p hp => AllP.mem hH _ hp, fun _ => h0, fun h => (by cases h), fun h => (by cases h)⟩⟩ ?_
 intro L s' hS hL
 refine ⟨_, keep_env (Nat.zero_le _) ?_ ?_ trivial, hk⟩
 ·refine ⟨⟨hS.tv (11, 21, .d (iD e)) (List.mem_of_getElem? (i := 9) rfl) (hL 11 (by decide)), rfl⟩, ⟨hS.tv (12, 22, .d (iD 0)) (List.mem_of_getElem? (i := 10) rfl) (hL 12 (by decide)), rfl⟩, allP_of fun p hp => ⟨hS.kp _ (AllP.mem hks' p hp).1, (AllP.mem hks' p hp).2⟩⟩
 ·refine allP_of fun p hp => ?_
  obtain ⟨q, hq, rfl⟩ := List.mem_map.1 hp
  have := (AllP.mem hhs q hq)
  exact ⟨this.1.2, _, rfl, hS.z.ho _ hq, this.2⟩
theorem sub_freezeE {bb : Nat} {ms : List Nat} {e : List (Nat × AV)} {H : AHeap} {n t nm sz N : Nat} {es : List (List D)} {tg : Bool} {G : Nat → Option (List D)} (ht : lk e t = .sl nm sz 0 N N tg) (hg : H.get nm = some (dblk sz es)) (hN : N = es.length) :
  Sub G bb ms ⟨e, H, n⟩ ⟨(t, .d (.sl es tg)) :: e, dels [nm] H, n⟩ := by
 intro k C ac hR
 obtain ⟨C', w', u', b', g, tt, r, q⟩ := hrel_freezes [nm] hR.heap
 have hHL : HRel G C [(nm, some (dblk sz es))] := hrel_dropS hR.heap fun m bl h => by
  by_cases em : m = nm
  ·subst em; rw [get_cons_same] at h; rw [hg, ← h]
  ·rw [get_cons_ne _ _ em] at h; cases h
 have hAs' : AsD [(nm, some (dblk sz es))] (.sl nm sz 0 N N tg) (.sl es tg) := asD_own (get_cons_same nm _ []) hN
 have hcell : ∀ x, VRel C (.sl nm sz 0 N N tg) x → DRel C'.w C'.RO (.sl es tg) x := fun x hx => by
  have := asD_relR hHL (RO := C'.RO) r (fun m bl j h1 h2 => by
   by_cases em : m = nm
   ·subst em; exact q m _ j (by simp) hg h2
   ·rw [get_cons_ne _ _ em] at h1; cases h1) hAs' x hx
  rw [w']; exact this
 refine ⟨C', w', ⟨g, ⟨hR.env.size, fun m => ?_⟩, fun m hm => ?_, fun m hm => ?_, ?_⟩, fun X hX => tt.weaken fun m hm => (hX m hm).1⟩
 ·by_cases hm : m = t
  ·subst hm
   show VRel C' (lk ((m, _) :: e) m) _
   rw [lk_cons_same]
   have := hR.env.env m
   have this : VRel C (lk e m) (ac.tmps.getD m undef) := this
   rw [ht] at this
   exact .d _ _ (hcell _ this)
  ·show VRel C' (lk ((t, _) :: e) m) _
   rw [lk_cons_ne _ _ hm]
   exact (hR.env.env m).later tt hR.heap
 ·rw [u'] at hm; exact hR.names m hm
 ·rw [u']; exact hR.marks m hm
 ·rw [hR.defers]; exact (marks_later tt hR.marks).symm
theorem lendH {V : AHeap} {nm sz N : Nat} {t : Bool} {es : List (List D)} {a : D} (hg : V.get nm = some (dblk sz es)) (hN : N = es.length) : mapO (asDX V 9 []) [.sl nm sz 0 N N t, .d a] = some [.sl es t, a] := by
 have h := asDX_sl (q := 7) (vis := []) (t := t) hg hN
 have e1 : asDX V 9 [] (.d a) = some a := rfl
 simp only [mapO, e1, h]
end Go.Tz
