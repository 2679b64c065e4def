import Derived.Test.YtehjjpbpdfnnfaaGreatDoorM07
namespace Go.Tz
open Go Go.AL Go.Proofs
abbrev ksC (w m i : Nat) : List (Nat × AV) := [(0, .ptr 0 3 0 0), (1, .d (iD w)), (3, .d cfD), (8, .ptr 80 3 0 0), (9, .ptr 81 3 0 0), (15, .d (iD m)), (16, .d (iD i))]
abbrev r80 : Blk := .arr 3 [[.d (iD 0), .d (iD 0), .d (.sl [] true)]]
abbrev c81 (w nm i : Nat) : Blk := .arr 3 [[.d (iD w), .d (iD 0), .sl nm 4 0 i i false]]
def valC (w i : Nat) (g : Gt) : Nat → AV
 | 0 => .ptr 81 3 0 (0 + 2)
 | 1 => .sl 82 4 0 i i false
 | 2 => .ptr 0 3 0 0
 | 3 => .d (iD w)
 | 4 => .d cfD
 | 5 => .d g.d
 | 6 => .sl 90 4 0 1 1 true
 | 7 => .sl 91 4 0 (i + 1) (i + 1) false
 | _ => .ptr 81 3 0 (0 + 2)
structure SS (bs : List Int) (u : Bool) (w m i nx : Nat) (st : Int) (gs : List Gt) (g : Gt) (nx' : Nat) (st' : Int) (L : Nat → Bool) (s : St) : Prop where
 kp : ∀ t v, (t, v) ∈ ksC w m i → lk s.env t = v
 hr : s.heap.get 80 = some r80
 c0 : L 9 = false → s.heap.get 81 = some (c81 w 82 i)
 c1 : L 9 = true → s.heap.get 81 = some (c81 w 91 (i + 1))
 s0 : L 5 = false → s.heap.get 0 = some (storeB bs u nx st) ∧ s.nx = 83
 s1 : L 5 = true → s.heap.get 0 = some (storeB bs u nx' st')
 n5 : L 5 = true → L 6 = false → s.nx = 90
 n6 : L 6 = true → L 7 = false → s.nx = 91
 n7 : L 7 = true → s.nx = 92
 o6 : L 6 = true → L 5 = true
 o7 : L 7 = true → L 6 = true ∧ L 1 = true
 o9 : L 9 = true → L 7 = true
 g82 : L 7 = false → s.heap.get 82 = some (dblk 4 (gs.map Gt.l))
 b90 : L 6 = true → s.heap.get 90 = some (.arr 4 [g.l.map AV.d])
 b91 : L 7 = true → s.heap.get 91 = some (dblk 4 ((gs ++ [g]).map Gt.l))
 v : ∀ j, j < 9 → L j = true → lk s.env (18 + j) = valC w i g j
variable {bs : List Int} {u : Bool} {w m i nx nx' : Nat} {st st' : Int} {gs : List Gt} {g : Gt}
theorem ks_lt {t : Nat} {v : AV} (h : (t, v) ∈ ksC w m i) : t < 18 := by
 simp only [ksC, List.mem_cons, Prod.mk.injEq, List.not_mem_nil, or_false] at h
 omega
theorem ss_put {L : Nat → Bool} {s : St} {a : Nat} {v : AV} (h : SS bs u w m i nx st gs g nx' st' L s) (ha : a < 9) (h5 : a ≠ 5) (h6 : a ≠ 6) (h7 : a ≠ 7) (hv : valC w i g a = v) : SS bs u w m i nx st gs g nx' st' (fun j => if j = a then true else L j) (s.put (some (18 + a)) v) := by
 subst hv
 have e5 : (if 5 = a then true else L 5) = L 5 := if_neg (Ne.symm h5)
 have e6 : (if 6 = a then true else L 6) = L 6 := if_neg (Ne.symm h6)
 have e7 : (if 7 = a then true else L 7) = L 7 := if_neg (Ne.symm h7)
 have e9 : (if 9 = a then true else L 9) = L 9 := if_neg (by omega)
 refine ⟨fun t v hm => ?_, h.hr, ?_, ?_, ?_, ?_, ?_, ?_, ?_, ?_, ?_, ?_, ?_, ?_, ?_, fun j hj hl => ?_⟩ <;> (try simp only [e5, e6, e7, e9])
 ·have := ks_lt hm
  rw [lk_put_ne (by omega)]
  exact h.kp t v hm
 ·exact h.c0
 ·exact h.c1
 ·exact h.s0
 ·exact h.s1
 ·exact h.n5
 ·exact h.n6
 ·exact h.n7
 ·exact h.o6
 ·exact fun q => ⟨(h.o7 q).1, by by_cases e : 1 = a <;> simp [e, (h.o7 q).2]⟩
 ·exact h.o9
 ·exact h.g82
 ·exact h.b90
 ·exact h.b91
 ·by_cases e : j = a
  ·subst e; exact lk_cons_same _ _ _
  ·rw [lk_put_ne (by omega)]
   simp only [if_neg e] at hl
   exact h.v j hj hl
noncomputable def opsC : Array Oper := (Tryz.f139.body.bind (findReg 4)).getD #[]
theorem regC (hw : 1 ≤ w ∧ w ≤ 12) (hbs : bs.length ≤ 1000) (hnx : nx + 13 ≤ 4611686018427387904) (hl : gs.length = i) (hi : i ≤ 1000) {s0 : St} (S0 : SS bs u w m i nx st gs g nx' st' (fun _ => false) s0) {k : Exit → St → Prop}
  (hk : ∀ L s' g nx' st', GtOk w g → nx' ≤ nx + 13 → SS bs u w m i nx st gs g nx' st' L s' → (∀ a, a < 10 → L a = true) → ∃ st'', Sub GG 80 [] s' st'' ∧ k .normal st'') : RegVC Pr GG Tryz.f139.ntmps 80 [] 4 opsC s0 k := by
 refine ⟨fun r => awp_any pok.mixed (edgeB_ok (by kernel_rfl)) (fun L s => ∃ g nx' st', (L 5 = true → GtOk w g ∧ nx' ≤ nx + 13) ∧ SS bs u w m i nx st gs g nx' st' L s) ⟨g, nx', st', ⟨fun h => (nomatch h), S0⟩⟩ ?_ ?_⟩
 ·rintro L s a op ⟨g, nx', st', hg, hS⟩ hL ho hall
  have ha : a < 10 := (Array.getElem?_eq_some_iff.1 ho).1
  have v := hS.v
  have T65 := pok.tab.get (t := 65) rfl
  have T63 := pok.tab.get (t := 63) rfl
  have T67 := pok.tab.get (t := 67) rfl
  have keep : ∀ {c : Nat}, c ≠ 5 → ((if 5 = c then true else L 5) = true → GtOk w g ∧ nx' ≤ nx + 13) := fun hc h => hg (by rwa [if_neg (Ne.symm hc)] at h)
  have cases10 : a = 0 ∨ a = 1 ∨ a = 2 ∨ a = 3 ∨ a = 4 ∨ a = 5 ∨ a = 6 ∨ a = 7 ∨ a = 8 ∨ a = 9 := by omega
  rcases cases10 with rfl | rfl | rfl | rfl | rfl | rfl | rfl | rfl | rfl | rfl
  all_goals
   have ho := Option.some.inj (show some _ = some op from ho)
   subst ho
   refine ⟨rfl, ?_⟩
  ·exact opwp_pure (fun c h => by cases h) (pure_fieldAddr rfl (T65.fld rfl rfl) (hS.kp 9 _ (List.mem_of_getElem? (i := 4) rfl))) rfl ⟨g, nx', st', keep (by decide), ss_put hS (a := 0) (by decide) (by decide) (by decide) (by decide) rfl⟩
  ·have q := v 0 (by decide) (hall ⟨0, .data⟩ (Array.mem_of_getElem? (i := 0) rfl) rfl)
   have h9 : L 9 = false := by
    cases h : L 9 with
    | false => rfl
    | true => exact absurd (hS.o7 (hS.o9 h)).2 (by rw [hL]; decide)
   exact opwp_pure (fun c h => by cases h) (pure_load rfl T63.tok (fun _ => rfl) q (hS.c0 h9) rfl rfl rfl) rfl ⟨g, nx', st', keep (by decide), ss_put hS (a := 1) (by decide) (by decide) (by decide) (by decide) rfl⟩
  ·exact opwp_pure (fun c h => by cases h) (pure_move rfl (hS.kp 0 _ (List.mem_of_getElem? (i := 0) rfl))) rfl ⟨g, nx', st', keep (by decide), ss_put hS (a := 2) (by decide) (by decide) (by decide) (by decide) rfl⟩
  ·exact opwp_pure (fun c h => by cases h) (pure_move rfl (hS.kp 1 _ (List.mem_of_getElem? (i := 1) rfl))) rfl ⟨g, nx', st', keep (by decide), ss_put hS (a := 3) (by decide) (by decide) (by decide) (by decide) rfl⟩
  ·exact opwp_pure (fun c h => by cases h) (pure_move rfl (hS.kp 3 _ (List.mem_of_getElem? (i := 2) rfl))) rfl ⟨g, nx', st', keep (by decide), ss_put hS (a := 4) (by decide) (by decide) (by decide) (by decide) rfl⟩
  ·have q2 := v 2 (by decide) (hall ⟨2, .data⟩ (Array.mem_of_getElem? (i := 0) rfl) rfl)
   have q3 := v 3 (by decide) (hall ⟨3, .data⟩ (Array.mem_of_getElem? (i := 1) rfl) rfl)
   have q4 := v 4 (by decide) (hall ⟨4, .data⟩ (Array.mem_of_getElem? (i := 2) rfl) rfl)
   obtain ⟨e0, enx⟩ := hS.s0 hL
   have n6 : L 6 = false := by
    cases h : L 6 with
    | false => rfl
    | true => exact absurd (hS.o6 h) (by rw [hL]; decide)
   have n7 : L 7 = false := by
    cases h : L 7 with
    | false => rfl
    | true => exact absurd (hS.o7 h).1 (by rw [n6]; decide)
   have n9 : L 9 = false := by
    cases h : L 9 with
    | false => rfl
    | true => exact absurd (hS.o9 h) (by rw [n7]; decide)
   have hc := sc_use (nx0 := s.nx) (nx := nx) (st := st) (H := s.heap) (k := fun v H' n' => ∃ g nx' st', ((if 5 = 5 then true else L 5) = true → GtOk w g ∧ nx' ≤ nx + 13) ∧ SS bs u w m i nx st gs g nx' st' (fun j => if j = 5 then true else L j) (({ env := s.env, heap := H', nx := n' } : St).put (some 23) v)) (sc65 bs u w hw hbs) (by omega) hnx e0 ?_
   ·obtain ⟨hf, hc⟩ := hc
    refine opwp_call (f := 65) (fi := []) (ca := []) (l := [.ptr 0 3 0 0, .d (iD w), .d cfD]) rfl rfl hf ?_ rfl hc
    show [] ++ [lk s.env 20, lk s.env 21, lk s.env 22] ++ [] = _
    rw [show lk s.env 20 = _ from q2, show lk s.env 21 = _ from q3, show lk s.env 22 = _ from q4]; rfl
   ·intro g2 st2 nx2 hb2 hg2
    refine ⟨g2, nx2, st2, fun _ => ⟨hg2, hb2⟩, fun t v hm => ?_, (get_cons_ne _ _ (by decide)).trans hS.hr, fun _ => (get_cons_ne _ _ (by decide)).trans (hS.c0 n9), fun h => absurd (show L 9 = true from h) (by rw [n9]; decide), fun h => (nomatch h), fun _ => get_cons_same _ _ _, fun _ _ => rfl, fun h => absurd (show L 6 = true from h) (by rw [n6]; decide), fun h => absurd (show L 7 = true from h) (by rw [n7]; decide), fun h => absurd (show L 6 = true from h) (by rw [n6]; decide), fun h => absurd (show L 7 = true from h) (by rw [n7]; decide), fun h => absurd (show L 9 = true from h) (by rw [n9]; decide), fun _ => (get_cons_ne _ _ (by decide)).trans (hS.g82 n7), fun h => absurd (show L 6 = true from h) (by rw [n6]; decide), fun h => absurd (show L 7 = true from h) (by rw [n7]; decide), fun j hj hl => ?_⟩
    ·have := ks_lt hm
     exact (lk_cons_ne _ _ (by omega)).trans (hS.kp t v hm)
    ·by_cases e : j = 5
     ·subst e; exact lk_cons_same _ _ _
     ·simp only [if_neg e] at hl
      refine (lk_cons_ne _ _ (by omega)).trans ((hS.v j hj hl).trans ?_)
      match j, e with
      | 0, _ => rfl
      | 1, _ => rfl
      | 2, _ => rfl
      | 3, _ => rfl
      | 4, _ => rfl
      | 6, _ => rfl
      | 7, _ => rfl
      | j + 8, _ => rfl
  ·have q := v 5 (by decide) (hall ⟨5, .data⟩ (Array.mem_of_getElem? (i := 0) rfl) rfl)
   have l5 : L 5 = true := hall ⟨5, .data⟩ (Array.mem_of_getElem? (i := 0) rfl) rfl
   have n7 : L 7 = false := by
    cases h : L 7 with
    | false => rfl
    | true => exact absurd (hS.o7 h).1 (by rw [hL]; decide)
   have n9 : L 9 = false := by
    cases h : L 9 with
    | false => rfl
    | true => exact absurd (hS.o9 h) (by rw [n7]; decide)
   have enx := hS.n5 l5 hL
   refine opwp_step (k := 1) (fun c hc => by cases hc) ((step_buildSlice (len := 1) (ps := #[(0, .tmp 23)]) (nm := 90) (zs := [.d (iD 0), .d (.sl [] true), .d (iD 0), .d (iD 0)]) (els := [g.l.map AV.d]) rfl ⟨T63.2, T67.1⟩ rfl rfl (by show fillA [(0 * 4, 4)] _ [(0, lk s.env 23)] = _; rw [show lk s.env 23 = _ from q]; rfl) (fun el h => by simp at h; subst h; rfl) rfl (Nat.le_of_ble_eq_true rfl)).names fun m hm => by subst hm; omega) rfl ?_
   refine ⟨g, nx', st', keep (by decide), fun t v hm => ?_, (get_cons_ne _ _ (by decide)).trans hS.hr, fun _ => (get_cons_ne _ _ (by decide)).trans (hS.c0 n9), fun h => absurd (show L 9 = true from h) (by rw [n9]; decide), fun h => absurd (show L 5 = false from h) (by rw [l5]; decide), fun _ => (get_cons_ne _ _ (by decide)).trans (hS.s1 l5), fun _ h => (nomatch h), fun _ _ => by show s.nx + 1 = 91; omega, fun h => absurd (show L 7 = true from h) (by rw [n7]; decide), fun _ => l5, fun h => absurd (show L 7 = true from h) (by rw [n7]; decide), fun h => absurd (show L 9 = true from h) (by rw [n9]; decide), fun _ => (get_cons_ne _ _ (by decide)).trans (hS.g82 n7), fun _ => get_cons_same _ _ _, fun h => absurd (show L 7 = true from h) (by rw [n7]; decide), fun j hj hl => ?_⟩
   ·have := ks_lt hm
    exact (lk_cons_ne _ _ (by omega)).trans (hS.kp t v hm)
   ·by_cases e : j = 6
    ·subst e; exact lk_cons_same _ _ _
    ·simp only [if_neg e] at hl
     exact (lk_cons_ne _ _ (by omega)).trans (hS.v j hj hl)
  ·have q1 := v 1 (by decide) (hall ⟨1, .data⟩ (Array.mem_of_getElem? (i := 0) rfl) rfl)
   have q6 := v 6 (by decide) (hall ⟨6, .data⟩ (Array.mem_of_getElem? (i := 1) rfl) rfl)
   have l1 : L 1 = true := hall ⟨1, .data⟩ (Array.mem_of_getElem? (i := 0) rfl) rfl
   have l6 : L 6 = true := hall ⟨6, .data⟩ (Array.mem_of_getElem? (i := 1) rfl) rfl
   have l5 := hS.o6 l6
   have n9 : L 9 = false := by
    cases h : L 9 with
    | false => rfl
    | true => exact absurd (hS.o9 h) (by rw [hL]; decide)
   have enx := hS.n6 l6 hL
   have b82 := hS.g82 hL
   have b90 := hS.b90 l6
   have hlen : ((gs.map Gt.l).map fun el => el.map AV.d).length = i := by rw [List.length_map, List.length_map, hl]
   have hev : s.ev GG (.tmp 24) = .sl 90 4 0 1 1 true := q6
   have hE : Els s.heap 4 (s.ev GG (.tmp 24)) [g.l.map AV.d] := by
    rw [hev]
    exact Els.sl 90 0 1 1 true [g.l.map AV.d] b90 (Nat.le_refl 1)
   have hsc : ∀ el, el ∈ [g.l.map AV.d] → ∀ v, v ∈ el → v.scalar = true := fun el h v hv => by
    simp only [List.mem_singleton] at h
    subst h
    simp only [Gt.l, List.map_cons, List.map_nil, List.mem_cons, List.not_mem_nil, or_false] at hv
    rcases hv with rfl | rfl | rfl | rfl <;> rfl
   refine opwp_step (k := 1) (fun c hc => by cases hc) ((step_append (t := 63) (t2 := 63) (e := 67) (e2 := 67) (x := .tmp 19) (y := .tmp 24) (nm' := 91) (nm := 82) (len := i) (room := i) (tg := false) (S := 4) (B := 48) (ys := [g.l.map AV.d]) (by exact rfl) ⟨T63.2, T67.1⟩ T63.2 q1 b82 hlen (Nat.le_refl _) hE hsc (by decide) (by show (2 * (i + 1) + 192) * 48 ≤ 281474976710656; omega)).names fun m hm => by subst hm; omega) rfl ?_
   have old' : ∀ n bl, n ≠ 91 → n ≠ 82 → s.heap.get n = some bl → AHeap.get ((91, some (.arr 4 (((gs.map Gt.l).map fun el => el.map AV.d) ++ [g.l.map AV.d]))) :: (82, none) :: s.heap) n = some bl := fun n bl h1 h2 h3 => by rw [get_cons_ne _ _ h1, get_cons_ne _ _ h2, h3]
   refine ⟨g, nx', st', keep (by decide), fun t v hm => ?_, old' _ _ (by decide) (by decide) hS.hr, fun _ => old' _ _ (by decide) (by decide) (hS.c0 n9), fun h => absurd (show L 9 = true from h) (by rw [n9]; decide), fun h => absurd (show L 5 = false from h) (by rw [l5]; decide), fun _ => old' _ _ (by decide) (by decide) (hS.s1 l5), fun _ h => absurd (show L 6 = false from h) (by rw [l6]; decide), fun _ h => (nomatch h), fun _ => by show s.nx + 1 = 92; omega, fun _ => l5, fun _ => ⟨l6, l1⟩, fun h => absurd (show L 9 = true from h) (by rw [n9]; decide), fun h => (nomatch h), fun _ => old' _ _ (by decide) (by decide) b90, fun _ => ?_, fun j hj hl' => ?_⟩
   ·have := ks_lt hm
    exact (lk_cons_ne _ _ (by omega)).trans (hS.kp t v hm)
   ·refine (get_cons_same _ _ _).trans (congrArg some ?_)
    show _ = dblk 4 _
    unfold dblk
    simp only [List.map_append, List.map_cons, List.map_nil]
   ·by_cases e : j = 7
    ·subst e; exact lk_cons_same _ _ _
    ·simp only [if_neg e] at hl'
     exact (lk_cons_ne _ _ (by omega)).trans (hS.v j hj hl')
  ·exact opwp_pure (fun c h => by cases h) (pure_fieldAddr rfl (T65.fld rfl rfl) (hS.kp 9 _ (List.mem_of_getElem? (i := 4) rfl))) rfl ⟨g, nx', st', keep (by decide), ss_put hS (a := 8) (by decide) (by decide) (by decide) (by decide) rfl⟩
  ·have q7 := v 7 (by decide) (hall ⟨7, .data⟩ (Array.mem_of_getElem? (i := 1) rfl) rfl)
   have q8 := v 8 (by decide) (hall ⟨8, .data⟩ (Array.mem_of_getElem? (i := 0) rfl) rfl)
   have l7 : L 7 = true := hall ⟨7, .data⟩ (Array.mem_of_getElem? (i := 1) rfl) rfl
   have l6 := (hS.o7 l7).1
   have l5 := hS.o6 l6
   refine opwp_step (k := 0) (fun c hc => by cases hc) ((step_store (x := .tmp 26) (y := .tmp 25) (nm := 81) (sz := 3) (idx := 0) (off := 2) (v := .sl 91 4 0 (i + 1) (i + 1) false) rfl T63.1 q8 q7 (hS.c0 hL) rfl rfl rfl rfl (Nat.le_of_ble_eq_true rfl)).names fun _ h => h.elim) rfl ?_
   refine ⟨g, nx', st', keep (by decide), hS.kp, (get_cons_ne _ _ (by decide)).trans hS.hr, fun h => (nomatch h), fun _ => get_cons_same _ _ _, fun h => absurd (show L 5 = false from h) (by rw [l5]; decide), fun _ => (get_cons_ne _ _ (by decide)).trans (hS.s1 l5), fun _ h => absurd (show L 6 = false from h) (by rw [l6]; decide), fun _ h => absurd (show L 7 = false from h) (by rw [l7]; decide), fun _ => hS.n7 l7, fun _ => l5, hS.o7, fun _ => l7, fun h => absurd (show L 7 = false from h) (by rw [l7]; decide), fun _ => (get_cons_ne _ _ (by decide)).trans (hS.b90 l6), fun _ => (get_cons_ne _ _ (by decide)).trans (hS.b91 l7), fun j hj hl => hS.v j hj ?_⟩
   simpa [show j ≠ 9 by omega] using hl
 ·rintro L s ⟨g, nx', st', hg, hS⟩ hall
  obtain ⟨h1, h2⟩ := hg (hall 5 (by decide))
  exact ⟨rfl, hk L s g nx' st' h1 h2 hS fun a ha => hall a ha⟩
end Go.Tz
namespace Go.AL
open Go
variable {P : Program} {G : Nat → Option (List D)} {T : Tab} {b n : Nat} {ms : List Nat} {st : St}
theorem loop_useR {σ : Type} (hp : POk P T) (ID : Nat) {c : Code} {k : Exit → St → Prop} (I : σ → St) (μ : σ → Nat) (s0 : σ) (hs : Sub G b ms st (I s0)) (hc : chkCode n c = true)
  (round : ∀ (s : σ) (A : St → Prop), (∀ st' (t : σ), Sub G b ms st' (I t) → μ t < μ s → A st') → xcodeR P ID T G n b ms c (I s) fun e st' => nextK e st' A k) : LoopVC P G n b ms c st k := by
 refine ⟨fun r => awp_loop (Q := fun e st' ms' => ms' = ms ∧ k e st') I μ s0 hs ?_⟩
 intro s
 refine awp_mono (xcodeR_sound hp c (I s) _ hc (round s (fun st' => ∃ t : σ, Sub G b ms st' (I t) ∧ μ t < μ s) fun st' t h1 h2 => ⟨t, h1, h2⟩)) ?_
 rintro e s' m' ⟨hm, h⟩
 cases e with
 | normal => exact ⟨hm, h⟩
 | _ => exact ⟨hm, h⟩
end Go.AL
namespace Go.Tz
open Go Go.AL Go.Proofs
variable {bs : List Int} {u : Bool} {w m i nx : Nat} {st : Int} {gs : List Gt}
theorem regCc {ops : Array Oper} (hops : ops = opsC) (hw : 1 ≤ w ∧ w ≤ 12) (hbs : bs.length ≤ 1000) (hnx : nx + 13 ≤ 4611686018427387904) (hl : gs.length = i) (hi : i ≤ 1000) {e : List (Nat × AV)} {H : AHeap} {n : Nat}
  (he : AllP (fun p => lk e p.1 = p.2) (ksC w m i)) (h0 : H.get 0 = some (storeB bs u nx st)) (hr : H.get 80 = some r80) (h81 : H.get 81 = some (c81 w 82 i)) (h82 : H.get 82 = some (dblk 4 (gs.map Gt.l))) (hn : n = 83) {k : Exit → St → Prop}
  (hk : ∀ (g : Gt) (nx' : Nat) (st' : Int), GtOk w g → nx' ≤ nx + 13 → k .normal ⟨ksC w m i, [(0, some (storeB bs u nx' st')), (80, some r80), (81, some (c81 w 91 (i + 1))), (91, some (dblk 4 ((gs ++ [g]).map Gt.l)))], 92⟩) : RegVC Pr GG Tryz.f139.ntmps 80 [] 4 ops ⟨e, H, n⟩ k := by
 subst hops
 refine regC (g := ⟨0, [], false, 0, 0⟩) (nx' := 0) (st' := 0) hw hbs hnx hl hi ⟨fun t v hm => AllP.mem he _ hm, hr, fun _ => h81, fun h => (nomatch h), fun _ => ⟨h0, hn⟩, fun h => (nomatch h), fun h => (nomatch h), fun h => (nomatch h), fun h => (nomatch h), fun h => (nomatch h), fun h => (nomatch h), fun h => (nomatch h), fun _ => h82, fun h => (nomatch h), fun h => (nomatch h), fun j _ h => (nomatch h)⟩ ?_
 intro L s' g nx' st' hg hb hS hL
 refine ⟨_, keep_env (Nat.le_of_ble_eq_true rfl) ?_ ?_ trivial, hk g nx' st' hg hb⟩
 ·have q := fun j (v : Nat × AV) (h : (ksC w m i)[j]? = some v) => hS.kp v.1 v.2 (List.mem_of_getElem? h)
  exact ⟨⟨q 0 _ rfl, rfl⟩, ⟨q 1 _ rfl, rfl⟩, ⟨q 2 _ rfl, rfl⟩, ⟨q 3 _ rfl, rfl⟩, ⟨q 4 _ rfl, rfl⟩, ⟨q 5 _ rfl, rfl⟩, ⟨q 6 _ rfl, rfl⟩, trivial⟩
 ·exact ⟨⟨ltB rfl, _, rfl, hS.s1 (hL 5 (by decide)), below_arr rfl⟩, ⟨ltB rfl, _, rfl, hS.hr, below_arr rfl⟩, ⟨ltB rfl, _, rfl, hS.c1 (hL 9 (by decide)), below_arr rfl⟩, ⟨ltB rfl, _, rfl, hS.b91 (hL 7 (by decide)), below_dblk _ _ _⟩, trivial⟩
theorem chk139 : chkFn Tryz.f139 = true := by kernel_rfl
abbrev stC (bs : List Int) (u : Bool) (w m : Nat) (s : List Gt × Int × Nat) : St := ⟨ksC w m s.1.length, [(0, some (storeB bs u s.2.2 s.2.1)), (80, some r80), (81, some (c81 w 82 s.1.length)), (82, some (dblk 4 (s.1.map Gt.l)))], 83⟩
theorem circ139 (bs : List Int) (u : Bool) (w most nx : Nat) (st : Int) (hw : 1 ≤ w ∧ w ≤ 12) (hm : most ≤ 130) (hbs : bs.length ≤ 1000) (hb : nx + (1 + 13 * most) ≤ 4611686018427387904) :
  ACall Pr GG 139 [.ptr 0 3 0 0, .d (iD w), .d (iD most), .d cfD] [(0, some (storeB bs u nx st))] 80 fun v H _ => ∃ (gs : List Gt) (st' : Int) (nx' : Nat), nx' ≤ nx + (1 + 13 * most) ∧ (gs.length ≤ most ∧ ∀ g, g ∈ gs → GtOk w g) ∧ v = .agg [.d (iD w), .d (iD 0), .sl 82 4 0 gs.length gs.length false] ∧ H.get 0 = some (storeB bs u nx' st') ∧ H.get 82 = some (dblk 4 (gs.map Gt.l)) := by
 have c1 := sc71 bs u 82 (most + 1) (by decide) hbs (by omega)
 have e0 : iadd .i64 (most : Int) 1 = ((most + 1 : Nat) : Int) := iadd_nat (b := 1) (by omega)
 refine fn_walkR pok 4 Tryz.func139 chk139 ?_
 conv => whnf
 repeat' first | ((first | refine LookP.mk _ rfl ?_ | refine ShlP.mk _ (by first | (simp only [List.set, over, List.take, List.drop, List.append_eq, List.nil_append, List.cons_append, List.length]; rfl) | rfl) ?_ | refine And.intro (by first | assumption | exact ⟨by kernel_rfl, rfl⟩ | decide | omega | exact ⟨rfl, by decide, by simp only [List.length_map, Nat.zero_add]; omega⟩) ?_ | rw [e0] | refine HpP.force ?_); conv => whnf) | (intro t ht; cases t <;> conv => whnf)
 refine sc_use (nx := nx) (st := st) c1 (by decide) (by omega) rfl ?_
 intro m st1 nx1 b1 m1
 conv => whnf
 repeat' first | ((first | refine LookP.mk _ rfl ?_ | refine ShlP.mk _ (by first | (simp only [List.set, over, List.take, List.drop, List.append_eq, List.nil_append, List.cons_append, List.length]; rfl) | rfl) ?_ | refine And.intro (by first | assumption | exact ⟨by kernel_rfl, rfl⟩ | decide | omega | exact ⟨rfl, by decide, by simp only [List.length_map, Nat.zero_add]; omega⟩) ?_ | refine HpP.force ?_); conv => whnf) | (intro t ht; cases t <;> conv => whnf)
 refine loop_useR (σ := { s : List Gt × Int × Nat // s.1.length ≤ m ∧ (∀ g, g ∈ s.1 → GtOk w g) ∧ s.2.2 ≤ nx + 1 + 13 * s.1.length }) pok 4 (fun s => stC bs u w m s.1) (fun s => m - s.1.1.length) ⟨([], st1, nx1), Nat.zero_le _, fun g hg => (nomatch hg), b1⟩ ?_ (by kernel_rfl) ?_
 ·refine Sub.trans (sub_nilH3 (nm := 81) (S := 4) (by decide) rfl) ?_
  refine keep_env (by first | exact Nat.zero_le _ | exact Nat.le_of_ble_eq_true rfl) ?_ ?_ trivial
  ·repeat' first | exact trivial | refine ⟨⟨by first | rfl | assumption, rfl⟩, ?_⟩
  ·repeat' first | exact trivial | refine ⟨⟨ltB rfl, _, rfl, by first | rfl | assumption, by first | exact below1 rfl | exact below_dblk _ _ _ | exact below_arr rfl⟩, ?_⟩
 ·rintro ⟨⟨gs, st2, nx2⟩, h1, h2, h3⟩ A hA
  dsimp only at h1 h2 h3 hA ⊢
  have e1 : iadd .i64 (gs.length : Int) 1 = ((gs.length + 1 : Nat) : Int) := iadd_nat (b := 1) (by omega)
  conv => whnf
  repeat' first | ((first | refine LookP.mk _ rfl ?_ | refine ShlP.mk _ (by first | (simp only [List.set, over, List.take, List.drop, List.append_eq, List.nil_append, List.cons_append, List.length]; rfl) | rfl) ?_ | refine And.intro (by first | assumption | exact ⟨by kernel_rfl, rfl⟩ | decide | omega | exact ⟨rfl, by decide, by simp only [List.length_map, Nat.zero_add]; omega⟩) ?_ | refine HpP.force ?_); conv => whnf) | (intro t ht; cases t <;> conv => whnf)
  ·exact fin ⟨gs, st2, nx2, by omega, ⟨by omega, h2⟩, rfl, rfl, rfl⟩
  ·have hlt : gs.length < m := by
    have := of_decide_eq_true ht
    dsimp only at this
    omega
   refine regCc (gs := gs) (nx := nx2) (st := st2) rfl hw hbs (by omega) rfl (by omega) ⟨rfl, rfl, rfl, rfl, rfl, rfl, rfl, trivial⟩ rfl rfl rfl rfl rfl ?_
   intro g nx3 st3 g1 g2
   have hln : (gs ++ [g]).length = gs.length + 1 := by rw [List.length_append]; rfl
   conv => whnf
   repeat' first | ((first | refine LookP.mk _ rfl ?_ | refine ShlP.mk _ (by first | (simp only [List.set, over, List.take, List.drop, List.append_eq, List.nil_append, List.cons_append, List.length]; rfl) | rfl) ?_ | refine And.intro (by first | assumption | exact ⟨by kernel_rfl, rfl⟩ | decide | omega | exact ⟨rfl, by decide, by simp only [List.length_map, Nat.zero_add]; omega⟩) ?_ | refine HpP.force ?_); conv => whnf) | (intro t ht; cases t <;> conv => whnf)
   refine hA _ ⟨(gs ++ [g], st3, nx3), by rw [hln]; exact hlt, fun g' hg' => ?_, by show nx3 ≤ nx + 1 + 13 * (gs ++ [g]).length; rw [hln]; omega⟩ ?_ (by show m - (gs ++ [g]).length < m - gs.length; rw [hln]; omega)
   ·rcases List.mem_append.1 hg' with q | q
    ·exact h2 _ q
    ·rw [List.mem_singleton.1 q]; exact g1
   ·have e3 : stC bs u w m (gs ++ [g], st3, nx3) = ⟨ksC w m (gs.length + 1), [(0, some (storeB bs u nx3 st3)), (80, some r80), (81, some (c81 w 82 (gs.length + 1))), (82, some (dblk 4 ((gs ++ [g]).map Gt.l)))], 83⟩ := by
     simp only [stC, hln]
    refine Eq.subst (motive := fun s => AL.Sub GG 80 [] _ s) e3.symm ?_
    first | refine ren_env [(82, 91)] ?_ ?_ ?_ trivial | refine ren_envB [(82, 91)] rfl rfl ?_ ?_ ?_ trivial
    ·repeat' first | exact trivial | refine ⟨⟨by first | rfl | assumption | exact congrArg (fun n => AV.d (iD n)) e1, rfl⟩, ?_⟩
    ·repeat' first | exact trivial | refine ⟨⟨ltB rfl, _, rfl, by first | rfl | assumption | exact get_ren rfl (by first | rfl | assumption | exact get_ren rfl (show some (Blk.ren _ (dblk 4 ((gs ++ [g]).map Gt.l))) = some (dblk 4 ((gs ++ [g]).map Gt.l)) from by rw [ren_dblk])) | exact get_ren rfl (show some (Blk.ren _ (dblk 4 ((gs ++ [g]).map Gt.l))) = some (dblk 4 ((gs ++ [g]).map Gt.l)) from by rw [ren_dblk]), by first | exact below1 rfl | exact below_dblk _ _ _ | exact below_arr rfl⟩, ?_⟩
    ·repeat' first | exact trivial | (refine And.intro ?_ ?_) | (exact fun _ => rfl) | (exact fun h => absurd h (Nat.ne_of_beq_eq_false rfl))
theorem sc139 (bs : List Int) (u : Bool) (w most : Nat) (hw : 1 ≤ w ∧ w ≤ 12) (hm : most ≤ 130) (hbs : bs.length ≤ 1000) : SC 139 [iD w, iD most, cfD] bs u (1 + 13 * most) 80 (fun p : List Gt × Bool => circD w 0 p.1 p.2) fun p => p.1.length ≤ most ∧ ∀ g, g ∈ p.1 → GtOk w g :=
 sc_mk (isFn_of Tryz.func139 chk139) (by decide) fun nx st hb => by
  refine acall_mono (acall_freeze1 (K' := fun v H _ => ∃ (p : List Gt × Bool) (st' : Int) (nx' : Nat), nx' ≤ nx + (1 + 13 * most) ∧ (p.1.length ≤ most ∧ ∀ g, g ∈ p.1 → GtOk w g) ∧ v = .d (circD w 0 p.1 p.2) ∧ H.get 0 = some (storeB bs u nx' st')) (circ139 bs u w most nx st hw hm hbs hb) ?_) fun _ _ _ h => h
  rintro v H m ⟨gs, st', nx', h1, h2, rfl, g0, g1⟩
  have hd : AHeap.get (dels [82] H) 0 = some (storeB bs u nx' st') := by
   show (AHeap.del H 82).get 0 = _
   rw [get_del, if_neg (by decide)]; exact g0
  exact ⟨82, _, circD w 0 gs false, g1, asD_agg3 (.d _) (.d _) (asD_dblk (nm := 82) (sz := 4) (l := gs.map Gt.l) rfl (by simp)), (gs, false), st', nx', h1, h2, rfl, hd⟩
end Go.Tz
namespace Go.AL
open Go
variable {P : Program} {G G2 : Nat → Option (List D)} {f : FuncId}
theorem hrel_down (hG : ∀ g ds, G g = some ds → G2 g = some ds) {C : Ctx} {H : AHeap} (h : HRel G2 C H) : HRel G C H := ⟨h.blk, h.inj, h.ro, fun g ds e => h.glob g ds (hG g ds e)⟩
theorem acall_up (hG : ∀ g ds, G g = some ds → G2 g = some ds) {args : List AV} {H : AHeap} {nx : Nat} {K : AV → AHeap → Nat → Prop} (h : ACall P G f args H nx K) : ACall P G2 f args H nx K := by
 intro C vs hH hU hl hr
 refine (h C vs (hrel_down hG hH) hU hl hr).mono ?_
 rintro e w' ⟨x, v, H', n', C', rfl, rfl, hk, hv, h1, hU', hT⟩
 exact ⟨x, v, H', n', C', rfl, rfl, hk, hv, ⟨h1.blk, h1.inj, h1.ro, fun g ds e => (hH.glob g ds e).later hT hH⟩, hU', hT⟩
theorem pc_up (hG : ∀ g ds, G g = some ds → G2 g = some ds) {ds : List D} {d : D} (h : PC P G f ds d) : PC P G2 f ds d := ⟨h.fn, acall_up hG h.call⟩
end Go.AL
namespace Go.Tz
open Go Go.AL Go.Proofs
def GK : Nat → Option (List D) := fun g => match Nat.beq g 0 with
 | true => some [cfD]
 | false => GG g
theorem gk_up : ∀ g ds, GG g = some ds → GK g = some ds := fun g ds h => by
 match g, h with
 | g + 1, h => exact h
theorem up {f : FuncId} {ds : List D} {d : D} (h : PC Pr GG f ds d) : PC Pr GK f ds d := pc_up gk_up h
structure SK {ι : Type} (f : FuncId) (args : List D) (bs : List Int) (u : Bool) (cnt n0 : Nat) (dof : ι → D) (Q : ι → Prop) : Prop where
 fn : IsFn Pr f
 call : ∀ (nx : Nat) (st : Int), nx + cnt ≤ 4611686018427387904 → ACall Pr GK f (.ptr 0 3 0 0 :: args.map .d) [(0, some (storeB bs u nx st))] n0 fun v H n => ∃ (i : ι) (st' : Int) (nx' : Nat), nx' ≤ nx + cnt ∧ Q i ∧ v = .d (dof i) ∧ H = [(0, some (storeB bs u nx' st'))] ∧ n = n0
variable {ι : Type} {f : FuncId} {args : List D} {bs : List Int} {u : Bool} {cnt n0 : Nat} {dof : ι → D} {Q : ι → Prop}
theorem SC.k (h : SC f args bs u cnt n0 dof Q) : SK f args bs u cnt n0 dof Q := ⟨h.fn, fun nx st hb => acall_up gk_up (h.call nx st hb)⟩
theorem sk_mk (hf : IsFn Pr f) (hn : 0 < n0)
  (h : ∀ (nx : Nat) (st : Int), nx + cnt ≤ 4611686018427387904 → ACall Pr GK f (.ptr 0 3 0 0 :: args.map .d) [(0, some (storeB bs u nx st))] n0 fun v H _ => ∃ (i : ι) (st' : Int) (nx' : Nat), nx' ≤ nx + cnt ∧ Q i ∧ v = .d (dof i) ∧ H.get 0 = some (storeB bs u nx' st')) : SK f args bs u cnt n0 dof Q := by
 refine ⟨hf, fun nx st hb => acall_sub (h nx st hb) ?_⟩
 rintro v H n ⟨i, st', nx', h1, h2, rfl, h4⟩
 refine ⟨.d (dof i), [(0, some (storeB bs u nx' st'))], n0, ?_, i, st', nx', h1, h2, rfl, rfl, rfl⟩
 exact keep_env (Nat.le_refl _) ⟨⟨rfl, rfl⟩, trivial⟩ ⟨⟨hn, _, rfl, h4, below_arr rfl⟩, trivial⟩ trivial
theorem sk_use {nx0 nx : Nat} {st : Int} {H : AHeap} {k : AV → AHeap → Nat → Prop} (h : SK f args bs u cnt n0 dof Q) (hn : nx0 ≤ n0) (hb : nx + cnt ≤ 4611686018427387904)
  (hg : H.get 0 = some (storeB bs u nx st)) (hk : ∀ (i : ι) (st' : Int) (nx' : Nat), nx' ≤ nx + cnt → Q i → k (.d (dof i)) ((0, some (storeB bs u nx' st')) :: H) n0) : CallVC Pr GK f (.ptr 0 3 0 0 :: args.map .d) H nx0 k := by
 refine ⟨h.fn, acall_frame (h.call nx st hb) hn (fun m b hm => ?_) ?_⟩
 ·rw [get_consI] at hm
  by_cases e : m = 0
  ·rw [if_pos e] at hm; rw [e, hg, hm]
  ·rw [if_neg e] at hm; cases hm
 ·rintro v H1 n ⟨d, st', nx', h1, h2, rfl, rfl, rfl⟩
  refine ⟨_, fun m b hm => ?_, hk d st' nx' h1 h2⟩
  rw [get_consI] at hm
  by_cases e : m = 0
  ·rw [if_pos e] at hm; left; rw [get_consI, if_pos e, hm]
  ·rw [if_neg e] at hm
   right
   exact ⟨by rw [get_consI, if_neg e]; rfl, hm⟩
theorem zero_sok {w : Nat} (hw : 1 ≤ w ∧ w ≤ 12) : SOk w (zeroS w) := by
 have key : ((List.range 13).all fun w => Nat.beq w 0 || decide (chkS w (zeroS w) = 0)) = true := by kernel_rfl
 have h := List.all_eq_true.1 key w (List.mem_range.2 (by omega))
 simp only [Bool.or_eq_true, decide_eq_true_eq] at h
 rcases h with h | h
 ·have := Nat.eq_of_beq_eq_true h; omega
 ·obtain ⟨W, e, hs⟩ := chk_ok h
  obtain rfl : w = W := Int.ofNat.inj e
  exact hs
theorem of_sok {w : Nat} (hw : 1 ≤ w ∧ w ≤ 12) {gs : List Gt} (h : ∀ g, g ∈ gs → GtOk w g) : SOk w (ofS w gs) := by
 have key : ∀ (gs : List Gt) (l : List Ps), (∀ g, g ∈ gs → GtOk w g) → SOk w l → SOk w (gs.foldl (fun l g => appG w g l) l) := by
  intro gs
  induction gs with
  | nil => exact fun l _ h => h
  | cons g gs ih => exact fun l hg hl => ih _ (fun g' hg' => hg g' (List.mem_cons_of_mem _ hg')) (appG_sok (hg g (List.mem_cons_self ..)).chk (hg g (List.mem_cons_self ..)).kind hl)
 exact key gs _ h (zero_sok hw)
theorem ofE0 {w : Nat} (hw : 1 ≤ w ∧ w ≤ 12) {gs : List Gt} (hn : gs.length ≤ 120) (h : ∀ g, g ∈ gs → GtOk w g) : ofE w 0 gs = 0 := by
 have h1 : cchk w 0 gs = 0 := cchk0 (by omega) (by omega) fun g hg => (h g hg).chk
 have h2 : gs.all cliffB = true := List.all_eq_true.2 fun g hg => by
  unfold cliffB
  rw [(h g hg).i0, (h g hg).kind]; rfl
 unfold ofE
 rw [if_neg (fun q => q h1), if_pos h2]
theorem of49d {w : Nat} {gs : List Gt} (h : ofE w 0 gs = 0) (t : Bool) (hn : gs.length ≤ 1000) (hws : ∀ g, g ∈ gs → g.ws.length ≤ 1000) : PC Pr GG 49 [circD w 0 gs t] (.tup [stD w (ofS w gs) (tfB gs.length), iD 0]) := by
 have hc := of49 h t hn hws
 have hlen : (ofS w gs).length = w := by unfold ofS; rw [ofS_len, zeroS_len]
 refine pc_freeze hc.fn (acall_mono hc.call ?_)
 rintro v H _ ⟨rfl, rfl, _⟩
 refine asD_tup2 (asD_agg2 (.d _) ?_) (.d _)
 have := asD_pre (H := [(0, some (dblk 4 ((ofS w gs).map Ps.l)))]) (nm := 0) (sz := 4) (l := (ofS w gs).map Ps.l) (len := w) (room := w) (t := tfB gs.length) rfl (by rw [List.length_map, hlen]; exact Nat.le_refl _)
 rwa [List.take_of_length_le (by rw [List.length_map, hlen]; exact Nat.le_refl _), decide_eq_true rfl, Bool.and_true] at this
theorem chk64 : chkFn Tryz.f64 = true := by kernel_rfl
theorem sk64 (bs : List Int) (u : Bool) (w most : Nat) (hw : 1 ≤ w ∧ w ≤ 12) (hm : most ≤ 120) (hbs : bs.length ≤ 1000) : SK 64 [iD w, iD most] bs u (1 + 13 * most) 70 (fun p : List Ps × Bool => .tup [stD w p.1 p.2, .bool true]) fun p => SOk w p.1 := by
 have c1 := (sc139 bs u w most hw (by omega) hbs).k
 refine sk_mk (isFn_of Tryz.func64 chk64) (by decide) fun nx st hb => ?_
 refine fn_walk pok Tryz.func64 chk64 ?_
 conv => whnf
 repeat' first | ((first | refine LookP.mk _ rfl ?_ | refine ShlP.mk _ (by first | (simp only [List.set, over, List.take, List.drop, List.append_eq, List.nil_append, List.cons_append, List.length]; rfl) | rfl) ?_ | refine And.intro (by first | assumption | exact ⟨by kernel_rfl, rfl⟩ | decide | omega | exact ⟨rfl, by decide, by simp only [List.length_map, Nat.zero_add]; omega⟩) ?_ | refine HpP.force ?_); conv => whnf) | (intro t ht; cases t <;> conv => whnf)
 refine sk_use (nx := nx) (st := st) c1 (by decide) hb rfl ?_
 rintro ⟨gs, t⟩ st1 nx1 b1 ⟨g1, g2⟩
 dsimp only at g1 g2 ⊢
 have h0 := ofE0 hw (by omega) g2
 have hs := of_sok hw g2
 have c2 := up (of49d h0 t (by omega) fun g hg => by have := (g2 g hg).len; omega)
 have hlen : (ofS w gs).length = w := hs.len
 have c3 := up (check36 w (ofS w gs) (tfB gs.length) (by omega))
 rw [ok_chk hs] at c3
 conv => whnf
 repeat' first | ((first | refine LookP.mk _ rfl ?_ | refine ShlP.mk _ (by first | (simp only [List.set, over, List.take, List.drop, List.append_eq, List.nil_append, List.cons_append, List.length]; rfl) | rfl) ?_ | refine And.intro (by first | assumption | exact ⟨by kernel_rfl, rfl⟩ | decide | omega | exact ⟨rfl, by decide, by simp only [List.length_map, Nat.zero_add]; omega⟩) ?_ | refine pc_use c2 ?_ | refine pc_head c2 ?_ | refine pc_use c3 ?_ | refine pc_head c3 ?_ | refine HpP.force ?_); conv => whnf) | (intro t ht; cases t <;> conv => whnf)
 all_goals first
  | exact fin ⟨(ofS w gs, tfB gs.length), st1, nx1, b1, hs, rfl, rfl⟩
  | (exfalso; simp [hlen] at *; done)
end Go.Tz
namespace Go.Tz
open Go Go.AL Go.Proofs
variable {G : Nat → Option (List D)}
abbrev bytesD (bs : List Int) (t : Bool) : D := .sl (bs.map fun b => [.int .u8 b]) t
theorem bytes_len (l : List Int) : ∀ el : List D, el ∈ (l.map fun x => [D.int IntKind.u8 x]) → el.length = 1 := fun el h => by
 obtain ⟨x, _, rfl⟩ := List.mem_map.1 h; rfl
theorem chk138 : chkFn Tryz.f138 = true := by kernel_rfl
theorem bytes_sc (l : List Int) : (((l.map fun k => [D.int IntKind.u8 k]).map (·.map AV.d)).all fun el => el.all AV.scalar) = true := by
 simp [AV.scalar, D.scalar]
theorem clone138 (es : List (List D)) (tg : Bool) (hes : ∀ el, el ∈ es → el.length = 1) (hsc : ((es.map (·.map AV.d)).all fun el => el.all AV.scalar) = true) (hbig : es.length ≤ 1000000) :
  ACall Pr G 138 [.d (.sl es tg)] [] 0 fun v N k => (v = .d (.sl [] true) ∧ es = []) ∨ (v = .sl 1 1 0 (0 + es.length) (0 + es.length) false ∧ N.get 1 = some (.arr 1 (es.map (·.map .d))) ∧ k = 2) := by
 refine fn_walk pok Tryz.func138 chk138 ?_
 conv => whnf
 repeat' first | ((first | refine LookP.mk _ rfl ?_ | refine ShlP.mk _ (by first | (simp only [List.set, over, List.take, List.drop, List.append_eq, List.nil_append, List.cons_append, List.length]; rfl) | rfl) ?_ | refine And.intro (by first | exact ⟨rfl, by decide, by simp only [List.length_map, Nat.zero_add]; omega⟩ | assumption | exact ⟨by kernel_rfl, rfl⟩ | decide | omega | exact ⟨rfl, by decide, by simp only [List.length_map, Nat.zero_add]; omega⟩) ?_ | rw [hsc] | refine HpP.force ?_); conv => whnf) | (intro t ht; cases t <;> conv => whnf)
 ·refine fin (.inr ⟨by simp, ?_, rfl⟩)
  simp [chunk, AHeap.get]
 ·refine fin (.inl ⟨rfl, ?_⟩)
  cases es with
  | nil => rfl
  | cons a l => simp at ht
theorem cloneB (l : List Int) (t : Bool) (hn : l.length ≤ 1000000) : PC Pr G 138 [bytesD l t] (bytesD l false) := by
 refine pc_freezeW (isFn_of Tryz.func138 chk138) (acall_mono (clone138 _ t (bytes_len l) (bytes_sc l) (by simpa using hn)) ?_)
 rintro v N k (⟨rfl, he⟩ | ⟨rfl, hg, _⟩)
 ·exact ⟨_, .d _, by show DW _ (.sl _ false); rw [he]; exact dw_sl [] true⟩
 ·have := asD_sl_map (lo := 0) (len := 0 + (l.map fun k => [D.int IntKind.u8 k]).length) (room := 0 + (l.map fun k => [D.int IntKind.u8 k]).length) (t := false) hg (by omega)
  refine ⟨_, this, ?_⟩
  simp only [List.drop_zero, Nat.zero_add, List.take_length, Bool.false_and]
  exact DW.rfl _
theorem chk62 : chkFn Tryz.f62 = true := by kernel_rfl
theorem of62 (bs : List Int) (t : Bool) : ACall Pr G 62 [.d (bytesD bs t)] [] 0 fun v H n => ∃ (bs' : List Int) (u : Bool), bs'.length ≤ 300 ∧ v = .ptr 0 3 0 0 ∧ H = [(0, some (storeB bs' u 0 2463534242))] ∧ n = 1 := by
 have hM : ∃ m : Nat, m ≤ bs.length ∧ m ≤ 300 ∧ (if (300 : Int) < (((bs.map fun b => [D.int IntKind.u8 b]).length : Nat) : Int) then (300 : Int) else (((bs.map fun b => [D.int IntKind.u8 b]).length : Nat) : Int)).toNat = m := by
  rw [List.length_map]
  by_cases h : (300 : Int) < (bs.length : Int)
  ·exact ⟨300, by omega, Nat.le_refl _, by rw [if_pos h]; rfl⟩
  ·exact ⟨bs.length, Nat.le_refl _, by omega, by rw [if_neg h]; rfl⟩
 obtain ⟨m, m1, m2, m3⟩ := hM
 have hsl : (0 ≤ m ∧ m ≤ (bs.map fun b => [D.int IntKind.u8 b]).length ∧ ∀ el : List D, el ∈ (bs.map fun b => [D.int IntKind.u8 b]) → el.length = 1) := ⟨Nat.zero_le _, by rw [List.length_map]; exact m1, bytes_len bs⟩
 have hsE : ((bs.map fun b => [D.int IntKind.u8 b]).drop 0).take (m - 0) = (bs.take m).map fun b => [D.int IntKind.u8 b] := by rw [Nat.sub_zero, List.drop_zero, List.map_take]
 have hl : (bs.take m).length ≤ 300 := by rw [List.length_take]; omega
 have key : ∀ tt, PC Pr G 138 [bytesD (bs.take m) tt] (bytesD (bs.take m) false) := fun tt => cloneB _ tt (by omega)
 refine acall_sub (K := fun v H _ => v = .ptr 0 3 0 0 ∧ H.get 0 = some (storeB (bs.take m) false 0 2463534242)) (fn_walk pok Tryz.func62 chk62 ?_) ?_
 ·conv => whnf
  repeat' first | ((first | refine LookP.mk _ rfl ?_ | refine ShlP.mk _ (by first | (simp only [List.set, over, List.take, List.drop, List.append_eq, List.nil_append, List.cons_append, List.length]; rfl) | rfl) ?_ | refine And.intro (by first | exact hsl | assumption | exact ⟨by kernel_rfl, rfl⟩ | decide | omega | exact ⟨rfl, by decide, by simp only [List.length_map, Nat.zero_add]; omega⟩) ?_ | refine pc_use (key _) ?_ | refine pc_head (key _) ?_ | rw [m3] | rw [hsE] | refine HpP.force ?_); conv => whnf) | (intro t ht; cases t <;> conv => whnf)
  exact fin ⟨rfl, rfl⟩
 ·rintro v H n ⟨rfl, h4⟩
  refine ⟨.ptr 0 3 0 0, [(0, some (storeB (bs.take m) false 0 2463534242))], 1, ?_, bs.take m, false, hl, rfl, rfl, rfl⟩
  exact keep_env (Nat.zero_le _) ⟨⟨rfl, rfl⟩, trivial⟩ ⟨⟨ltB rfl, _, rfl, h4, below_arr rfl⟩, trivial⟩ trivial
end Go.Tz
namespace Go.Ma
open Classical
theorem rk_proj {w : Nat} (hw : w ≤ 12) {L : List E} (h : Sta w L) {p : E} (hp : inV w p.2) (hok : eok p) (h1 : ¬ Gen L p) (h2 : ¬ Gen L (eneg p)) : rk (L.map (·.2) ++ (proj p L).map (·.2)) = w + 1 := by
 have hx := sta_anti hw h hp hok h1 h2
 obtain ⟨f, hf, hfp, hm, hs⟩ := proj_vec hx
 have hT := proj_sta hw h hp hok h1 h2
 have hlt : ∀ v, inV w v → v < 2 ^ 24 := fun v hv => sp_lt _ (U_lt hw) _ hv
 have hr : rk (p.2 :: L.map (·.2)) = w + 1 := by
  have : Ind (p.2 :: L.map (·.2)) := ind_cons.2 ⟨h.ind, not_span h.good hok h1 h2⟩
  unfold Ind at this
  rw [this]; simp [h.len]
 rw [← hr]
 refine rk_eq (k := 24) ?_ ?_ (sp_ext ?_ ?_)
 ·intro a ha
  rcases List.mem_append.1 ha with e | e
  ·obtain ⟨q, hq, rfl⟩ := List.mem_map.1 e; exact hlt _ (h.inv q hq)
  ·obtain ⟨q, hq, rfl⟩ := List.mem_map.1 e; exact hlt _ (hT.inv q hq)
 ·intro a ha
  rcases List.mem_cons.1 ha with e | e
  ·subst e; exact hlt _ hp
  ·obtain ⟨q, hq, rfl⟩ := List.mem_map.1 e; exact hlt _ (h.inv q hq)
 ·have mL : ∀ q, q ∈ L → spB (p.2 :: L.map (·.2)) q.2 = true := fun q hq => sp_mem _ _ (List.mem_cons_of_mem _ (List.mem_map.2 ⟨q, hq, rfl⟩))
  intro a ha
  rcases List.mem_append.1 ha with e | e
  ·obtain ⟨q, hq, rfl⟩ := List.mem_map.1 e; exact mL q hq
  ·obtain ⟨q, hq, rfl⟩ := List.mem_map.1 e
   rcases hm q hq with rfl | e | ⟨r, hr, rfl⟩
   ·exact sp_mem _ _ (List.mem_cons_self ..)
   ·exact mL q e
   ·exact sp_xor _ _ _ (mL r hr) (mL f hf)
 ·intro a ha
  rcases List.mem_cons.1 ha with e | e
  ·subst e; exact sp_mem _ _ (List.mem_append_right _ (List.mem_map.2 ⟨p, proj_has hx, rfl⟩))
  ·exact sp_mem _ _ (List.mem_append_left _ e)
theorem ovl_proj {w : Nat} (hw : w ≤ 12) {L : List E} (h : Sta w L) {p : E} (hp : inV w p.2) (hok : eok p) (h1 : ¬ Gen L p) (h2 : ¬ Gen L (eneg p)) : ovlE (proj p L) L 0 = 1 := by
 have hx := sta_anti hw h hp hok h1 h2
 rw [ovl_spec hw L (proj p L) 0 (proj_sta hw h hp hok h1 h2) h.good h.inv (by omega), if_neg, rk_proj hw h hp hok h1 h2]
 ·push_cast; omega
 ·rintro ⟨g, a, b⟩
  obtain ⟨k, k1, k2, e⟩ := proj_back h.good hok hx a
  rcases e with rfl | rfl
  ·exact gen_noneg h.good h.ind k1 b
  ·have := gen_mul' h.good b k1
   rw [← eneg_mul, emul_assoc, emul_self (gen_ok h.good k1), emul_one _ (eneg_ok hok).1] at this
   exact h2 this
theorem ovl_same (L : List E) : ∀ (P : List E) (n : Int), (∀ p, p ∈ P → Gen L p) → ovlE L P n = n
 | [], _, _ => rfl
 | p :: P, n, h => by
  show (if Gen L p then ovlE L P n else _) = n
  rw [if_pos (h p (List.mem_cons_self ..))]
  exact ovl_same L P n fun q hq => h q (List.mem_cons_of_mem _ hq)
theorem gen_gE {k a b : Nat} (h : gOk k a b) {L : List E} (hL : Good L) {g : E} (hg : Gen L g) : Gen (L.map (gE k a b)) (gE k a b g) := by
 induction hg with
 | one =>
  rw [gE_one h]; exact .one
 | mul x f hx _ ih =>
  rw [gE_mul h]
  exact .mul _ _ (List.mem_map.2 ⟨x, hx, rfl⟩) ih
end Go.Ma
namespace Go.Tz
open Go Go.AL Go.Proofs Go.Ma
theorem nf_z (w n o : Nat) : nf (zP w n o) = ((2 * o) % 4, 4096 * 2 ^ n) := by
 unfold zP
 rw [nf_mk, Nat.zero_and, pop_zero, Nat.add_zero, Nat.zero_add]
theorem nf_zneg (w n : Nat) {o : Nat} (ho : o ≤ 1) : nf (zP w n (1 - o)) = eneg (nf (zP w n o)) := by
 rw [nf_z, nf_z]
 have : o = 0 ∨ o = 1 := by omega
 rcases this with rfl | rfl
 ·rfl
 ·exact e_ext (show 2 * (1 - 1) % 4 = (2 * 1 % 4 + 2) % 4 by decide) rfl
theorem expOk_neg {L : List E} {g : E} {e : Int} (hg : g.1 < 4) (h : ExpOk L g e) : ExpOk L (eneg g) (-e) := by
 refine ⟨fun a => by rw [h.neg a]; rfl, fun a => ?_, fun a b => ?_⟩
 ·rw [eneg_neg hg] at a; rw [h.pos a]
 ·rw [eneg_neg hg] at b; rw [h.zero b a]; rfl
variable {w n o : Nat} {l : List Ps}
theorem exp_turn (hs : SOk w l) (hn : n < w) (ho : o ≤ 1) : expR w l (zP w n (1 - o)) = - expR w l (zP w n o) := by
 have h1 := expR_ok hs (zP_vl hn ho) (zP_ok hs.hi hn ho)
 have h2 := expR_ok hs (zP_vl hn (show 1 - o ≤ 1 by omega)) (zP_ok hs.hi hn (show 1 - o ≤ 1 by omega))
 rw [nf_zneg w n ho] at h2
 exact expOk_uniq (fun _ => Iff.rfl) h2 (expOk_neg (zP_ok hs.hi hn ho).1 h1)
theorem mR_gen (hs : SOk w l) (hn : n < w) (ho : o ≤ 1) (h : expR w l (zP w n o) ≠ -1) :
  (expR w l (zP w n o) = 1 ∧ SameG ((mR w n o l).map nf) (l.map nf) ∧ Gen (l.map nf) (nf (zP w n o))) ∨
  (expR w l (zP w n o) = 0 ∧ SameG ((mR w n o l).map nf) (proj (nf (zP w n o)) (l.map nf)) ∧ ¬ Gen (l.map nf) (nf (zP w n o)) ∧ ¬ Gen (l.map nf) (eneg (nf (zP w n o)))) := by
 have hpv := zP_vl hn ho
 have hok := zP_ok hs.hi hn ho
 unfold mR
 rcases expOk_cases (expR_ok hs hpv hok) with ⟨a, b⟩ | ⟨a, _⟩ | ⟨a, b, c⟩
 ·refine .inl ⟨a, ?_, b⟩
  rw [if_pos a]
  exact fun g => ((redRows_ok hs).2 g).symm
 ·exact absurd a h
 ·refine .inr ⟨a, ?_, b, c⟩
  rw [if_neg (by rw [a]; decide)]
  have hP := ((mea_gen hs hs (fun _ => Iff.rfl) hpv hok).2 a).1
  have := (redRows_ok hP).2
  rw [prjL_nf hs.hi hs.vl (sok_sta hs).good] at this
  exact fun g => (this g).symm
theorem z_in (hs : SOk w l) (hn : n < w) (ho : o ≤ 1) (h : expR w l (zP w n o) ≠ -1) : Gen ((mR w n o l).map nf) (nf (zP w n o)) := by
 have hok := zP_ok hs.hi hn ho
 have hpin := vec_in hs.hi (zP_vl hn ho)
 rcases mR_gen hs hn ho h with ⟨_, a, b⟩ | ⟨_, a, b, c⟩
 ·exact (a _).2 b
 ·refine (a _).2 (gen_mem' ?_ (proj_has (sta_anti hs.hi (sok_sta hs) hpin hok b c)))
  exact (proj_sta hs.hi (sok_sta hs) hpin hok b c).good
theorem z_again (hs : SOk w l) (hn : n < w) (ho : o ≤ 1) (h : expR w l (zP w n o) ≠ -1) (hm : SOk w (mR w n o l)) : expR w (mR w n o l) (zP w n o) = 1 :=
 (expR_ok hm (zP_vl hn ho) (zP_ok hs.hi hn ho)).pos (z_in hs hn ho h)
theorem ov_mR (hs : SOk w l) (hn : n < w) (ho : o ≤ 1) (h : expR w l (zP w n o) ≠ -1) (hm : SOk w (mR w n o l)) : ovR w (mR w n o l) l = mN w n o l := by
 have hok := zP_ok hs.hi hn ho
 have hpin := vec_in hs.hi (zP_vl hn ho)
 rw [(ovR_run hs hm).2]
 unfold mN
 rcases mR_gen hs hn ho h with ⟨e, a, b⟩ | ⟨e, a, b, c⟩
 ·rw [if_pos e]
  exact ovl_same _ _ _ fun p hp => (a p).2 (gen_mem' (sok_sta hs).good hp)
 ·rw [if_neg (by rw [e]; decide), ovl_eq hs.hi (sok_sta hm) (proj_sta hs.hi (sok_sta hs) hpin hok b c) (sok_sta hs) (sok_sta hs) a fun _ => Iff.rfl]
  exact ovl_proj hs.hi (sok_sta hs) hpin hok b c
def rS (w n o : Nat) (l : List Ps) : List Ps := if o = 1 then appG w (xG n) (mR w n o l) else mR w n o l
theorem z_flip (w n : Nat) : gE 1 n 0 (nf (zP w n 1)) = nf (zP w n 0) := by
 rw [nf_z, nf_z]
 have hb : (4096 * 2 ^ n).testBit (12 + n) = true := by
  rw [show 4096 * 2 ^ n = 2 ^ (12 + n) by rw [Nat.pow_add]]
  exact Nat.testBit_two_pow_self ..
 refine e_ext ?_ rfl
 show ((2 * 1) % 4 + 2 * ((4096 * 2 ^ n).testBit (12 + n)).toNat) % 4 = _
 rw [hb]; rfl
theorem rS_ok (hs : SOk w l) (hn : n < w) (ho : o ≤ 1) (h : expR w l (zP w n o) ≠ -1) (hm : SOk w (mR w n o l)) : SOk w (rS w n o l) ∧ expP (rS w n o l) (zP w n 0) = 1 := by
 obtain ⟨x1, x2⟩ := xG_ok hn
 have hS : SOk w (rS w n o l) := by
  unfold rS
  split
  ·exact appG_sok x1 x2 hm
  ·exact hm
 refine ⟨hS, (expP_ok hS (zP_vl hn (Nat.zero_le 1)) (zP_ok hs.hi hn (Nat.zero_le 1))).pos ?_⟩
 have hz := z_in hs hn ho h
 unfold rS
 have : o = 0 ∨ o = 1 := by omega
 rcases this with rfl | rfl
 ·rw [if_neg (by decide)]; exact hz
 ·rw [if_pos rfl]
  have hg := (gR_of x1 x2).1
  have h2 := (redRows_ok (map_thr_sok hg hm)).2
  refine (h2 _).1 ?_
  have h3 := gen_gE (gR_ok hs.hi hg) (sok_sta hm).good hz
  rw [← map_thr_nf w] at h3
  have h4 : gE (gK (xG n)) (gA (xG n)) (gB (xG n)) (nf (zP w n 1)) = nf (zP w n 0) := z_flip w n
  rwa [h4] at h3
end Go.Tz
namespace Go.Tz
open Go Go.AL Go.Proofs Go.Ma
variable {w n o : Nat} {l : List Ps}
theorem freeze3 {f : FuncId} {ds : List D} {c : Int} {R : List Ps} (hR : R.length = w) (hc : PO Pr GG f ds (own3 w c) [(0, some (dblk 4 (R.map Ps.l)))] 1) : PC Pr GG f ds (.tup [stD w R true, iD c, iD 0]) := by
 refine pc_freeze hc.fn (acall_mono hc.call ?_)
 rintro v H _ ⟨rfl, rfl, _⟩
 have h2 := asD_pre (H := [(0, some (dblk 4 (R.map Ps.l)))]) (nm := 0) (sz := 4) (l := R.map Ps.l) (len := w) (room := w) (t := true) rfl (by rw [List.length_map, hR]; exact Nat.le_refl _)
 rw [List.take_of_length_le (by rw [List.length_map, hR]; exact Nat.le_refl _), decide_eq_true rfl] at h2
 refine .tup _ _ rfl fun j v d hv hd => ?_
 match j, hv, hd with
 | 0, hv, hd => simp at hv hd; subst hv hd; exact asD_agg2 (.d _) h2
 | 1, hv, hd => simp at hv hd; subst hv hd; exact .d _
 | 2, hv, hd => simp at hv hd; subst hv hd; exact .d _
 | j + 3, hv, _ => simp at hv
theorem exS0 (hs : SOk w l) (hn : n < w) : exS w l (zP w n 0) = 0 := by
 unfold exS
 rw [if_neg (fun q => q (ok_chk hs)), if_neg (fun q => q (pck_vl ⟨hs.lo, hs.hi⟩ (zP_vl hn (Nat.zero_le 1)))), if_neg]
 show ¬ ((w : Int) ≠ w ∨ ((2 * 0 : Nat) : Int).tmod 2 = 1)
 simp
theorem both0 {l' : List Ps} (hs : SOk w l) (hs' : SOk w l') : bothS w l w l' = 0 := by
 unfold bothS
 rw [if_neg (fun q => q (ok_chk hs)), if_neg (fun q => q (ok_chk hs')), if_neg (fun q => q rfl)]
theorem over33d {l' : List Ps} (hs : SOk w l) (hs' : SOk w l') (t t' : Bool) {x : Int} (hx : ovR w l' l = x) : PC Pr GG 33 [stD w l t, stD w l' t'] (.tup [iD x, iD 0]) := by
 have h := over33 w l t w l' t' (sok_len hs) (sok_len hs') fun W hW h1 h2 => by
  obtain rfl : w = W := Int.ofNat.inj hW
  exact (ovl_ok h1 h2).1
 unfold overD at h
 rw [if_pos (both0 hs hs'), Int.toNat_natCast, (ovl_ok hs hs').2, hx] at h
 exact h
theorem same32d {l' : List Ps} (hs : SOk w l) (hs' : SOk w l') (t t' : Bool) {b : Bool} (hb : decide (redRows l (2 * w) = redRows l' (2 * w)) = b) : PC Pr GG 32 [stD w l t, stD w l' t'] (.tup [.bool b, iD 0]) := by
 have h := same32 w l t w l' t' (sok_len hs) (sok_len hs')
 unfold sameD at h
 rw [if_pos (both0 hs hs'), Int.toNat_natCast, hb] at h
 exact h
theorem mR_one (h : expR w l (zP w n o) = 1) : mR w n o l = redRows l (2 * w) ∧ mN w n o l = 0 := by
 unfold mR mN
 rw [if_pos h, if_pos h]; exact ⟨rfl, rfl⟩
structure LkC (w n : Nat) (l : List Ps) (t : Bool) (o o' : Int) (e x : Int) (l1 l2 lr : List Ps) : Prop where
 cE : PC Pr GK 48 [stD w l t, (zP w n 0).d] (.tup [iD e, iD 0])
 cM : PC Pr GK 56 [stD w l t, iD n, iD o] (.tup [stD w l1 true, iD x, iD 0])
 cM2 : PC Pr GK 56 [stD w l1 true, iD n, iD o] (.tup [stD w l2 true, iD 0, iD 0])
 cM3 : PC Pr GK 56 [stD w l1 true, iD n, iD o'] (no3 6)
 cO : PC Pr GK 33 [stD w l t, stD w l1 true] (.tup [iD x, iD 0])
 cS : PC Pr GK 32 [stD w l2 true, stD w l1 true] (.tup [.bool true, iD 0])
 cR : PC Pr GK 57 [stD w l t, iD n, iD o] (.tup [stD w lr true, iD x, iD 0])
 cE2 : PC Pr GK 48 [stD w lr true, (zP w n 0).d] (.tup [iD 1, iD 0])
theorem lk_ok (hs : SOk w l) (hn : n < w) (ho : o ≤ 1) (h : expR w l (zP w n o) ≠ -1) (t : Bool) {e x o1 o2 : Int} (h1 : o1 = o) (h2 : o2 = (1 - o : Nat)) (he : expP l (zP w n 0) = e) (hx : mN w n o l = x) : LkC w n l t o1 o2 e x (mR w n o l) (redRows (mR w n o l) (2 * w)) (rS w n o l) := by
 subst h1 h2
 obtain ⟨a1, a2, a3, _⟩ := mR_ok hs hn ho h t
 have hag := z_again hs hn ho h a1
 obtain ⟨b1, b2, _, _⟩ := mR_ok a1 hn ho (by rw [hag]; decide) true
 obtain ⟨hm2, hn2⟩ := mR_one hag
 rw [hm2, hn2] at b2
 rw [hm2] at b1
 have hno := (mR_no a1 hn (show 1 - o ≤ 1 by omega) (by rw [exp_turn a1 hn ho, hag]) true).1
 obtain ⟨r1, r2⟩ := rS_ok hs hn ho h a1
 rw [hx] at a2 a3
 refine ⟨up ?_, up (freeze3 a1.len a2), up (freeze3 b1.len b2), up hno, up (over33d hs a1 t true ((ov_mR hs hn ho h a1).trans hx)), up (same32d b1 a1 true true (decide_eq_true (red_red a1))), up (freeze3 r1.len a3), up ?_⟩
 ·have := expect48 (exS0 hs hn) t
  rwa [he] at this
 ·have := expect48 (exS0 r1 hn) true
  rwa [r2] at this
end Go.Tz
namespace Go.Tz
open Go Go.AL Go.Proofs Go.Ma
theorem of_use {bs : List Int} {t : Bool} {k : AV → AHeap → Nat → Prop} (hk : ∀ (bs' : List Int) (u : Bool), bs'.length ≤ 300 → k (.ptr 0 3 0 0) [(0, some (storeB bs' u ((0 : Nat) : Int) 2463534242))] 1) : CallVC Pr GK 62 [.d (bytesD bs t)] [] 0 k :=
 ⟨isFn_of Tryz.func62 chk62, acall_mono (of62 bs t) fun v H n ⟨bs', u, h1, h2, h3, h4⟩ => by subst h2 h3 h4; exact hk bs' u h1⟩
theorem byte_mod {x : Int} {w : Nat} (h0 : 0 ≤ x) (h1 : x < 256) (hw : 0 < w) : ∃ n : Nat, n < w ∧ (IntKind.i64.wrap x).tmod w = (n : Int) := by
 have e : IntKind.i64.wrap x = x := by rw [IntKind.wrap_i64]; omega
 refine ⟨(x % w).toNat, ?_, ?_⟩
 ·have := Int.emod_lt_of_pos x (show (0 : Int) < w by omega)
  have := Int.emod_nonneg x (show (w : Int) ≠ 0 by omega)
  omega
 ·rw [e, Int.tmod_eq_emod_of_nonneg h0]
  have := Int.emod_nonneg x (show (w : Int) ≠ 0 by omega)
  omega
theorem mN_zero {w n o : Nat} {l : List Ps} (h : expR w l (zP w n o) = 0) : mN w n o l = 1 := by
 unfold mN
 rw [if_neg (by rw [h]; decide)]
theorem exp_o {w n : Nat} {l : List Ps} (hs : SOk w l) (hn : n < w) : expP l (zP w n 0) = expR w l (zP w n 0) :=
 expOk_uniq (fun _ => Iff.rfl) (expP_ok hs (zP_vl hn (Nat.zero_le 1)) (zP_ok hs.hi hn (Nat.zero_le 1))) (expR_ok hs (zP_vl hn (Nat.zero_le 1)) (zP_ok hs.hi hn (Nat.zero_le 1)))
theorem exp_01 {w n : Nat} {l : List Ps} (hs : SOk w l) (hn : n < w) {x : Int} (h : expR w l (zP w n 1) = x) : expP l (zP w n 0) = -x := by
 rw [exp_o hs hn, ← h]
 exact exp_turn hs hn (Nat.le_refl 1)
theorem other_no {w n o : Nat} {l : List Ps} (hs : SOk w l) (hn : n < w) (ho : o ≤ 1) (h : expR w l (zP w n o) = 1) (t : Bool) {o' : Int} (he : o' = (1 - o : Nat)) : PC Pr GK 56 [stD w l t, iD n, iD o'] (no3 6) := by
 subst he
 exact up (mR_no hs hn (show 1 - o ≤ 1 by omega) (by rw [exp_turn hs hn ho, h]) t).1
theorem other_yes {w n o : Nat} {l : List Ps} (hs : SOk w l) (hn : n < w) (ho : o ≤ 1) (h : expR w l (zP w n o) ≠ 1) (t : Bool) {o' : Int} (he : o' = (1 - o : Nat)) : ∃ (l' : List Ps) (c : Int), (expR w l (zP w n o) = -1 → c = 0) ∧ PC Pr GK 56 [stD w l t, iD n, iD o'] (.tup [stD w l' true, iD c, iD 0]) := by
 subst he
 have h2 := exp_turn hs hn ho
 obtain ⟨a1, a2, _, _⟩ := mR_ok hs hn (show 1 - o ≤ 1 by omega) (by rw [h2]; omega) t
 exact ⟨_, _, fun e => (mR_one (by rw [h2, e]; rfl)).2, up (freeze3 a1.len a2)⟩
theorem same_no {w n o : Nat} {l : List Ps} (hs : SOk w l) (hn : n < w) (ho : o ≤ 1) (h : expR w l (zP w n o) = -1) (t : Bool) {o' : Int} (he : o' = (o : Nat)) : PC Pr GK 56 [stD w l t, iD n, iD o'] (no3 6) := by
 subst he
 exact up (mR_no hs hn ho h t).1
theorem q0 : isub IntKind.i64 (imul IntKind.i64 2 0) 1 = -1 := by kernel_rfl
theorem q1 : isub IntKind.i64 (imul IntKind.i64 2 1) 1 = 1 := by kernel_rfl
theorem chk8 : chkFn Tryz.f8 = true := by kernel_rfl
set_option maxHeartbeats 8000000 in
theorem looked8 (bs : List Int) (t : Bool) (x y : Int) (hx0 : 0 ≤ x) (hx1 : x < 256) (hy0 : 0 ≤ y) (hy1 : y < 256) : PC Pr GK 8 [bytesD bs t, .int .u8 x, .int .u8 y] (.bool true) := by
 have c15 := up awake_c
 refine pc_walk pok Tryz.func8 chk8 ?_
 conv => whnf
 repeat' first | ((first | refine LookP.mk _ rfl ?_ | refine ShlP.mk _ (by first | (simp only [List.set, over, List.take, List.drop, List.append_eq, List.nil_append, List.cons_append, List.length]; rfl) | rfl) ?_ | refine And.intro (by first | assumption | exact ⟨by kernel_rfl, rfl⟩ | decide | omega | exact ⟨rfl, by decide, by simp only [List.length_map, Nat.zero_add]; omega⟩) ?_ | refine HpP.force ?_); conv => whnf) | (intro t ht; cases t <;> conv => whnf)
 refine of_use ?_
 intro b u hb
 conv => whnf
 repeat' first | ((first | refine LookP.mk _ rfl ?_ | refine ShlP.mk _ (by first | (simp only [List.set, over, List.take, List.drop, List.append_eq, List.nil_append, List.cons_append, List.length]; rfl) | rfl) ?_ | refine And.intro (by first | assumption | exact ⟨by kernel_rfl, rfl⟩ | decide | omega | exact ⟨rfl, by decide, by simp only [List.length_map, Nat.zero_add]; omega⟩) ?_ | refine HpP.force ?_); conv => whnf) | (intro t ht; cases t <;> conv => whnf)
 have k1 := (sc63 b u 1 8 (by decide) (by omega) (by decide) (by decide)).k
 refine sk_use (nx := 0) (st := 2463534242) k1 (by decide) (by decide) rfl ?_
 intro w st1 nx1 b1 hw
 conv => whnf
 repeat' first | ((first | refine LookP.mk _ rfl ?_ | refine ShlP.mk _ (by first | (simp only [List.set, over, List.take, List.drop, List.append_eq, List.nil_append, List.cons_append, List.length]; rfl) | rfl) ?_ | refine And.intro (by first | assumption | exact ⟨by kernel_rfl, rfl⟩ | decide | omega | exact ⟨rfl, by decide, by simp only [List.length_map, Nat.zero_add]; omega⟩) ?_ | refine HpP.force ?_); conv => whnf) | (intro t ht; cases t <;> conv => whnf)
 have k2 := sk64 b u w 24 ⟨hw.1, by omega⟩ (by decide) (by omega)
 refine sk_use (nx := nx1) (st := st1) k2 (by decide) (by omega) rfl ?_
 rintro ⟨l, lt⟩ st2 nx2 b2 hs
 dsimp only at hs ⊢
 obtain ⟨n, hn, en⟩ := byte_mod (w := w) hx0 hx1 (by omega)
 have hsh : ishl .i64 1 (n : Int) = ((2 ^ n : Nat) : Int) := pow_nat (by omega)
 have hw0 : (w : Int) ≠ 0 := by omega
 have hnn : (0 : Int) ≤ n := by omega
 have ho : (IntKind.i64.wrap y).tmod 2 = 0 ∨ (IntKind.i64.wrap y).tmod 2 = 1 := by
  obtain ⟨o, ho, eo⟩ := byte_mod (w := 2) hy0 hy1 (by omega)
  have : o = 0 ∨ o = 1 := by omega
  rcases this with rfl | rfl
  ·exact .inl eo
  ·exact .inr eo
 rcases ho with eo | eo
 ·rcases expOk_cases (expR_ok hs (zP_vl hn (show 0 ≤ 1 by decide)) (zP_ok hs.hi hn (show 0 ≤ 1 by decide))) with ⟨a, _⟩ | ⟨a, _⟩ | ⟨a, _⟩
  ·obtain ⟨cE, cM, cM2, cM3, cO, cS, cR, cE2⟩ := lk_ok hs hn (show 0 ≤ 1 by decide) (by rw [a]; decide) lt (o1 := 0) (o2 := 1) (e := 1) (x := 0) rfl rfl ((exp_o hs hn).trans a) (mR_one a).2
   have cN := other_no hs hn (show 0 ≤ 1 by decide) a lt (o' := 1) rfl
   conv => whnf
   repeat' first | ((first | refine LookP.mk _ rfl ?_ | refine ShlP.mk _ (by first | (simp only [List.set, over, List.take, List.drop, List.append_eq, List.nil_append, List.cons_append, List.length]; rfl) | rfl) ?_ | refine And.intro (by first | exact hw0 | exact hnn | assumption | exact ⟨by kernel_rfl, rfl⟩ | decide | omega | exact ⟨rfl, by decide, by simp only [List.length_map, Nat.zero_add]; omega⟩) ?_ | refine pc_use cE ?_ | refine pc_head cE ?_ | refine pc_use cM ?_ | refine pc_head cM ?_ | refine pc_use cN ?_ | refine pc_head cN ?_ | refine pc_use cM2 ?_ | refine pc_head cM2 ?_ | refine pc_use cM3 ?_ | refine pc_head cM3 ?_ | refine pc_use cO ?_ | refine pc_head cO ?_ | refine pc_use cS ?_ | refine pc_head cS ?_ | refine pc_use cR ?_ | refine pc_head cR ?_ | refine pc_use cE2 ?_ | refine pc_head cE2 ?_ | refine pc_use c15 ?_ | refine pc_head c15 ?_ | rw [en] | rw [eo] | rw [hsh] | refine HpP.force ?_); conv => whnf) | (intro t ht; cases t <;> conv => whnf)
   all_goals first | exact fin rfl | (exfalso; simp at *; done) | (exfalso; simp [q0, q1] at *; done)
  ·have cE := up (expect48 (exS0 hs hn) lt)
   rw [show expP l (zP w n 0) = -1 from ((exp_o hs hn).trans a)] at cE
   have cM := same_no hs hn (show 0 ≤ 1 by decide) a lt (o' := 0) rfl
   obtain ⟨l', c, hc, cN⟩ := other_yes hs hn (show 0 ≤ 1 by decide) (by rw [a]; decide) lt (o' := 1) rfl
   obtain rfl := hc a
   conv => whnf
   repeat' first | ((first | refine LookP.mk _ rfl ?_ | refine ShlP.mk _ (by first | (simp only [List.set, over, List.take, List.drop, List.append_eq, List.nil_append, List.cons_append, List.length]; rfl) | rfl) ?_ | refine And.intro (by first | exact hw0 | exact hnn | assumption | exact ⟨by kernel_rfl, rfl⟩ | decide | omega | exact ⟨rfl, by decide, by simp only [List.length_map, Nat.zero_add]; omega⟩) ?_ | refine pc_use cE ?_ | refine pc_head cE ?_ | refine pc_use cM ?_ | refine pc_head cM ?_ | refine pc_use cN ?_ | refine pc_head cN ?_ | refine pc_use c15 ?_ | refine pc_head c15 ?_ | rw [en] | rw [eo] | rw [hsh] | refine HpP.force ?_); conv => whnf) | (intro t ht; cases t <;> conv => whnf)
   all_goals first | exact fin rfl | (exfalso; simp at *; done) | (exfalso; simp [q0, q1] at *; done)
  ·obtain ⟨cE, cM, cM2, cM3, cO, cS, cR, cE2⟩ := lk_ok hs hn (show 0 ≤ 1 by decide) (by rw [a]; decide) lt (o1 := 0) (o2 := 1) (e := 0) (x := 1) rfl rfl ((exp_o hs hn).trans a) (mN_zero a)
   obtain ⟨l', c, hc, cN⟩ := other_yes hs hn (show 0 ≤ 1 by decide) (by rw [a]; decide) lt (o' := 1) rfl
   conv => whnf
   repeat' first | ((first | refine LookP.mk _ rfl ?_ | refine ShlP.mk _ (by first | (simp only [List.set, over, List.take, List.drop, List.append_eq, List.nil_append, List.cons_append, List.length]; rfl) | rfl) ?_ | refine And.intro (by first | exact hw0 | exact hnn | assumption | exact ⟨by kernel_rfl, rfl⟩ | decide | omega | exact ⟨rfl, by decide, by simp only [List.length_map, Nat.zero_add]; omega⟩) ?_ | refine pc_use cE ?_ | refine pc_head cE ?_ | refine pc_use cM ?_ | refine pc_head cM ?_ | refine pc_use cN ?_ | refine pc_head cN ?_ | refine pc_use cM2 ?_ | refine pc_head cM2 ?_ | refine pc_use cM3 ?_ | refine pc_head cM3 ?_ | refine pc_use cO ?_ | refine pc_head cO ?_ | refine pc_use cS ?_ | refine pc_head cS ?_ | refine pc_use cR ?_ | refine pc_head cR ?_ | refine pc_use cE2 ?_ | refine pc_head cE2 ?_ | refine pc_use c15 ?_ | refine pc_head c15 ?_ | rw [en] | rw [eo] | rw [hsh] | refine HpP.force ?_); conv => whnf) | (intro t ht; cases t <;> conv => whnf)
   all_goals first | exact fin rfl | (exfalso; simp at *; done) | (exfalso; simp [q0, q1] at *; done)
 ·rcases expOk_cases (expR_ok hs (zP_vl hn (show 1 ≤ 1 by decide)) (zP_ok hs.hi hn (show 1 ≤ 1 by decide))) with ⟨a, _⟩ | ⟨a, _⟩ | ⟨a, _⟩
  ·obtain ⟨cE, cM, cM2, cM3, cO, cS, cR, cE2⟩ := lk_ok hs hn (show 1 ≤ 1 by decide) (by rw [a]; decide) lt (o1 := 1) (o2 := 0) (e := -1) (x := 0) rfl rfl (exp_01 hs hn a) (mR_one a).2
   have cN := other_no hs hn (show 1 ≤ 1 by decide) a lt (o' := 0) rfl
   conv => whnf
   repeat' first | ((first | refine LookP.mk _ rfl ?_ | refine ShlP.mk _ (by first | (simp only [List.set, over, List.take, List.drop, List.append_eq, List.nil_append, List.cons_append, List.length]; rfl) | rfl) ?_ | refine And.intro (by first | exact hw0 | exact hnn | assumption | exact ⟨by kernel_rfl, rfl⟩ | decide | omega | exact ⟨rfl, by decide, by simp only [List.length_map, Nat.zero_add]; omega⟩) ?_ | refine pc_use cE ?_ | refine pc_head cE ?_ | refine pc_use cM ?_ | refine pc_head cM ?_ | refine pc_use cN ?_ | refine pc_head cN ?_ | refine pc_use cM2 ?_ | refine pc_head cM2 ?_ | refine pc_use cM3 ?_ | refine pc_head cM3 ?_ | refine pc_use cO ?_ | refine pc_head cO ?_ | refine pc_use cS ?_ | refine pc_head cS ?_ | refine pc_use cR ?_ | refine pc_head cR ?_ | refine pc_use cE2 ?_ | refine pc_head cE2 ?_ | refine pc_use c15 ?_ | refine pc_head c15 ?_ | rw [en] | rw [eo] | rw [hsh] | refine HpP.force ?_); conv => whnf) | (intro t ht; cases t <;> conv => whnf)
   all_goals first | exact fin rfl | (exfalso; simp at *; done) | (exfalso; simp [q0, q1] at *; done)
  ·have cE := up (expect48 (exS0 hs hn) lt)
   rw [show expP l (zP w n 0) = 1 from (exp_01 hs hn a)] at cE
   have cM := same_no hs hn (show 1 ≤ 1 by decide) a lt (o' := 1) rfl
   obtain ⟨l', c, hc, cN⟩ := other_yes hs hn (show 1 ≤ 1 by decide) (by rw [a]; decide) lt (o' := 0) rfl
   obtain rfl := hc a
   conv => whnf
   repeat' first | ((first | refine LookP.mk _ rfl ?_ | refine ShlP.mk _ (by first | (simp only [List.set, over, List.take, List.drop, List.append_eq, List.nil_append, List.cons_append, List.length]; rfl) | rfl) ?_ | refine And.intro (by first | exact hw0 | exact hnn | assumption | exact ⟨by kernel_rfl, rfl⟩ | decide | omega | exact ⟨rfl, by decide, by simp only [List.length_map, Nat.zero_add]; omega⟩) ?_ | refine pc_use cE ?_ | refine pc_head cE ?_ | refine pc_use cM ?_ | refine pc_head cM ?_ | refine pc_use cN ?_ | refine pc_head cN ?_ | refine pc_use c15 ?_ | refine pc_head c15 ?_ | rw [en] | rw [eo] | rw [hsh] | refine HpP.force ?_); conv => whnf) | (intro t ht; cases t <;> conv => whnf)
   all_goals first | exact fin rfl | (exfalso; simp at *; done) | (exfalso; simp [q0, q1] at *; done)
  ·obtain ⟨cE, cM, cM2, cM3, cO, cS, cR, cE2⟩ := lk_ok hs hn (show 1 ≤ 1 by decide) (by rw [a]; decide) lt (o1 := 1) (o2 := 0) (e := 0) (x := 1) rfl rfl (exp_01 hs hn a) (mN_zero a)
   obtain ⟨l', c, hc, cN⟩ := other_yes hs hn (show 1 ≤ 1 by decide) (by rw [a]; decide) lt (o' := 0) rfl
   conv => whnf
   repeat' first | ((first | refine LookP.mk _ rfl ?_ | refine ShlP.mk _ (by first | (simp only [List.set, over, List.take, List.drop, List.append_eq, List.nil_append, List.cons_append, List.length]; rfl) | rfl) ?_ | refine And.intro (by first | exact hw0 | exact hnn | assumption | exact ⟨by kernel_rfl, rfl⟩ | decide | omega | exact ⟨rfl, by decide, by simp only [List.length_map, Nat.zero_add]; omega⟩) ?_ | refine pc_use cE ?_ | refine pc_head cE ?_ | refine pc_use cM ?_ | refine pc_head cM ?_ | refine pc_use cN ?_ | refine pc_head cN ?_ | refine pc_use cM2 ?_ | refine pc_head cM2 ?_ | refine pc_use cM3 ?_ | refine pc_head cM3 ?_ | refine pc_use cO ?_ | refine pc_head cO ?_ | refine pc_use cS ?_ | refine pc_head cS ?_ | refine pc_use cR ?_ | refine pc_head cR ?_ | refine pc_use cE2 ?_ | refine pc_head cE2 ?_ | refine pc_use c15 ?_ | refine pc_head c15 ?_ | rw [en] | rw [eo] | rw [hsh] | refine HpP.force ?_); conv => whnf) | (intro t ht; cases t <;> conv => whnf)
   all_goals first | exact fin rfl | (exfalso; simp at *; done) | (exfalso; simp [q0, q1] at *; done)
end Go.Tz
