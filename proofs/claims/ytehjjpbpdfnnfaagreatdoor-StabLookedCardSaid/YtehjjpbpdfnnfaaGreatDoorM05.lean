import Derived.Test.YtehjjpbpdfnnfaaGreatDoorM04
namespace Go.Tz
open Go Go.AL Go.Proofs
variable {G : Nat → Option (List D)}
theorem loopvc_sub {P : Program} {n b : Nat} {ms : List Nat} {c : Code} {st : St} {k : Exit → St → Prop} (h : LoopVC P G n b ms c st fun e s => ∃ s', Sub G b ms s s' ∧ k e s') : LoopVC P G n b ms c st k := by
 refine ⟨fun r => ?_⟩
 intro X C a hR hX
 cases h with
 | mk h =>
  refine wpIn_mono (h r X C a hR hX) ?_
  rintro e a' w' ⟨st', ms', C', rfl, ⟨hm, s', hs, hk⟩, h3, h4⟩
  subst hm
  obtain ⟨C'', e1, r1, t1⟩ := hs _ C' a' h3
  exact ⟨s', _, C'', e1, ⟨rfl, hk⟩, r1, h4.trans (t1 X (xu hX h4))⟩
theorem sub_env {b : Nat} {ms : List Nat} {e e' : List (Nat × AV)} {h : AHeap} {n : Nat} (he : AllP (fun p : Nat × AV => lk e p.1 = p.2) e') : Sub G b ms ⟨e, h, n⟩ ⟨e', h, n⟩ := by
 intro k C a hR
 refine ⟨C, rfl, ⟨hR.heap, ⟨hR.env.size, fun t => ?_⟩, hR.names, hR.marks, hR.defers⟩, fun X hX => Tr.refl fun m hm => (hX m hm).1⟩
 rcases lk_mem (e := e') (t := t) with q | q
 ·show VRel C (lk e' t) _
  rw [q]; exact .top _
 ·have := he.mem _ q
  have h2 := hR.env.env t
  show VRel C (lk e' t) _
  have h2 : VRel C (lk e t) (a.tmps.getD t undef) := h2
  simp only at this
  rw [this] at h2
  exact h2
abbrev evL (l : List Ps) (t : Bool) (n W a c : Nat) : List (Nat × AV) := [(0, .d (rowsD l t)), (4, .sl 1 4 0 n n false), (5, .sl W 1 0 n n false), (8, .d (iD a)), (9, .d (iD c))]
theorem redA' {l : List Ps} {t : Bool} {k : Exit → St → Prop} {e : List (Nat × AV)} {h : AHeap} {n W nx a c : Nat} {rf : Nat → Ps} {wn : Nat → Nat} {wb : Nat → Nat → Bool} (hl : l.length = n) (hbig : n ≤ 1000) (ha : a ≤ n) (hc : c < 1000) (hw : HW h n W rf wn wb) (hn : NW n W nx wn)
  (he : EV l t n W a c e) (e10 : lk e 10 = .d (iD (-1))) (e11 : lk e 11 = .d (iD a))
  (hk : ∀ r h', FND rf n c a r → HW h' n W rf wn wb → k (.exit 4) ⟨(10, .d (iD r)) :: evL l t n W a c, h', nx⟩) : LoopVC Pr G 155 0 [] cA ⟨e, h, nx⟩ k :=
 loopvc_sub (redA hl hbig ha hc hw hn he e10 e11 fun r e' h' q1 q2 q3 q4 => ⟨⟨(10, .d (iD r)) :: evL l t n W a c, h', nx⟩, sub_env ⟨q4, q3.e0, q3.e4, q3.e5, q3.e8, q3.e9, trivial⟩, hk r h' q1 q2⟩)
theorem redC' {l : List Ps} {t : Bool} {k : Exit → St → Prop} {e : List (Nat × AV)} {h : AHeap} {n W nx a c : Nat} {w0 : Int} {rf : Nat → Ps} {wn : Nat → Nat} {wb : Nat → Nat → Bool} (hl : l.length = n) (hbig : n ≤ 1000) (ha : a < n) (hc : c < 1000) (hw : HW h n W rf wn wb) (hn : NW n W nx wn) (hd : WD n w0 rf)
  (he : EV l t n W a c e) (e12 : lk e 12 = .d (iD 0)) (hk : ∀ h', HW h' n W (clrR rf a c n) wn (clrB rf wb n a c n) → k (.exit 6) ⟨evL l t n W a c, h', nx⟩) : LoopVC Pr G 155 0 [] cC ⟨e, h, nx⟩ k :=
 loopvc_sub (redC hl hbig ha hc hw hn hd he e12 fun e' h' q1 q3 => ⟨⟨evL l t n W a c, h', nx⟩, sub_env ⟨q3.e0, q3.e4, q3.e5, q3.e8, q3.e9, trivial⟩, hk h' q1⟩)
def swapF {α : Type} (f : Nat → α) (a b : Nat) : Nat → α := fun j => if j = a then f b else if j = b then f a else f j
theorem swap_nw {n W nx a f : Nat} {wn : Nat → Nat} (h : NW n W nx wn) (ha : a < n) (hf : f < n) : NW n W nx (swapF wn a f) := by
 have at' : ∀ j, j < n → ∃ j', j' < n ∧ swapF wn a f j = wn j' := fun j hj => by
  unfold swapF
  split
  ·exact ⟨f, hf, rfl⟩
  ·split
   ·exact ⟨a, ha, rfl⟩
   ·exact ⟨j, hj, rfl⟩
 refine ⟨h.one, h.w1, h.wlt, fun i j hi hj he => ?_, fun j hj => ?_, fun j hj => ?_, fun j hj => ?_⟩
 ·unfold swapF at he
  have := h.inj
  split at he <;> split at he <;> (try split at he) <;> (try split at he) <;> first | omega | (have := this _ _ (by omega) (by omega) he; omega)
 ·obtain ⟨j', h1, h2⟩ := at' j hj; rw [h2]; exact h.ne1 j' h1
 ·obtain ⟨j', h1, h2⟩ := at' j hj; rw [h2]; exact h.neW j' h1
 ·obtain ⟨j', h1, h2⟩ := at' j hj; rw [h2]; exact h.lt j' h1
theorem swap_wd {n a f : Nat} {w0 : Int} {rf : Nat → Ps} (h : WD n w0 rf) (ha : a < n) (hf : f < n) : WD n w0 (swapF rf a f) := by
 refine ⟨fun j hj => ?_, h.lo, h.hi⟩
 unfold swapF
 split
 ·exact h.w f hf
 ·split
  ·exact h.w a ha
  ·exact h.w j hj
def Ps.z0 : Ps := ⟨0, 0, 0, 0⟩
def fndO (rf : Nat → Ps) (n c a : Nat) : Option Nat := (List.range n).find? fun j => decide (a ≤ j) && bitB (rf j) c
theorem fnd_O {rf : Nat → Ps} {n c a : Nat} {r : Int} (h : FND rf n c a r) : (r = -1 ∧ fndO rf n c a = none) ∨ ∃ f : Nat, r = f ∧ a ≤ f ∧ f < n ∧ fndO rf n c a = some f := by
 rcases h with ⟨h1, h2⟩ | ⟨f, h1, h2, h3, h4, h5⟩
 ·left
  refine ⟨h1, ?_⟩
  unfold fndO
  rw [List.find?_eq_none]
  intro j hj
  have := List.mem_range.1 hj
  by_cases e : a ≤ j
  ·simp [h2 j e this]
  ·simp [e]
 ·right
  refine ⟨f, h1, h2, h3, ?_⟩
  unfold fndO
  rw [List.find?_range_eq_some]
  refine ⟨by simp [h2, h4], List.mem_range.2 h3, fun j hj => ?_⟩
  by_cases e : a ≤ j
  ·simp [h5 j e hj]
  ·simp [e]
abbrev RS := (Nat → Ps) × (Nat → Nat → Bool) × Nat
def colS (n c : Nat) (s : RS) : RS := match fndO s.1 n c s.2.2 with
 | none => s
 | some f => (clrR (swapF s.1 s.2.2 f) s.2.2 c n, clrB (swapF s.1 s.2.2 f) (swapF s.2.1 s.2.2 f) n s.2.2 c n, s.2.2 + 1)
def redN (l : List Ps) : Nat → RS
 | 0 => (fun j => l.getD j Ps.z0, fun j q => q == j, 0)
 | c + 1 => colS l.length c (redN l c)
noncomputable def cB : Code := loopAt Tryz.f100 1
theorem get_l0 {l : List Ps} (h : 0 < l.length) : (l.map Ps.l)[(0 : Int).toNat]? = some (l[0]).l := by simp [h]
theorem red_inv {l : List Ps} {w0 : Int} (hw : ∀ q, q ∈ l → q.w = w0) (h1 : 1 ≤ w0) (h2 : w0 ≤ 12) : ∀ c, WD l.length w0 (redN l c).1 ∧ (redN l c).2.2 ≤ l.length
 | 0 => ⟨⟨fun j hj => by simp only [redN, List.getD_eq_getElem?_getD, List.getElem?_eq_getElem hj, Option.getD_some]; exact hw _ (List.getElem_mem hj), h1, h2⟩, Nat.zero_le _⟩
 | c + 1 => by
  obtain ⟨q1, q2⟩ := red_inv hw h1 h2 c
  simp only [redN, colS]
  split
  ·exact ⟨q1, q2⟩
  ·rename_i f hf
   unfold fndO at hf
   rw [List.find?_range_eq_some] at hf
   obtain ⟨p1, p2, _⟩ := hf
   have p2 := List.mem_range.1 p2
   have p3 : (redN l c).2.2 ≤ f := by simp at p1; exact p1.1
   have p4 : (redN l c).2.2 < l.length := by omega
   exact ⟨⟨fun j hj => clrR_w (swap_wd q1 p4 p2).w _ _ _ j hj, h1, h2⟩, p4⟩
theorem redB {l : List Ps} {t : Bool} {k : Exit → St → Prop} {e : List (Nat × AV)} {h : AHeap} {n nx : Nat} {w0 : Int} {wn : Nat → Nat} (hl : l.length = n) (hbig : n ≤ 1000) (hpos : 0 < n) (hww : ∀ q, q ∈ l → q.w = w0) (hw1 : 1 ≤ w0) (hw2 : w0 ≤ 12)
  (hw : HW h n 2 (redN l 0).1 wn (redN l 0).2.1) (hn : NW n 2 nx wn) (he : EV l t n 2 0 0 e)
  (hk : ∀ e' h' wn', NW n 2 nx wn' → HW h' n 2 (redN l (2 * w0.toNat)).1 wn' (redN l (2 * w0.toNat)).2.1 → EV l t n 2 (redN l (2 * w0.toNat)).2.2 (2 * w0.toNat) e' → k (.exit 2) ⟨e', h', nx⟩) :
  LoopVC Pr G 155 0 [] cB ⟨e, h, nx⟩ k := by
 refine loop_use2 (σ := { p : Nat × (Nat → Nat) // p.1 ≤ 2 * w0.toNat ∧ NW n 2 nx p.2 }) (fun s => ⟨evL l t n 2 (redN l s.1.1).2.2 s.1.1, hpW n 2 (redN l s.1.1).1 s.1.2 (redN l s.1.1).2.1, nx⟩) (fun s => 2 * w0.toNat - s.1.1) ⟨(0, wn), Nat.zero_le _, hn⟩ ?_ ?_ ?_
 ·exact sub_hw hw hn ⟨⟨he.e0, rfl⟩, ⟨he.e4, bel_1 hn.one⟩, ⟨he.e5, bel_W hn.wlt⟩, ⟨he.e8, rfl⟩, ⟨he.e9, rfl⟩, trivial⟩ trivial
 ·kernel_rfl
 ·rintro ⟨⟨c, wn⟩, hc, hn⟩ A hA
  dsimp only at hc hn hA ⊢
  obtain ⟨hd, hat⟩ := red_inv hww hw1 hw2 c
  subst hl
  have hS : redN l (c + 1) = colS l.length c (redN l c) := rfl
  have hh := hpW_ok (rf := (redN l c).1) (wb := (redN l c).2.1) hn
  generalize hpW l.length 2 (redN l c).1 wn (redN l c).2.1 = h0 at hh ⊢
  have e1 : iadd .i64 (c : Int) 1 = ((c + 1 : Nat) : Int) := by rw [iadd_eq (by omega) (by omega)]; rfl
  have hl0 : (l[0]).w = w0 := hww _ (List.getElem_mem hpos)
  have e2 : imul .i64 2 (l[0]).w = 2 * w0 := by rw [hl0, imul_eq (by omega) (by omega)]
  rcases Nat.lt_or_ge c (2 * w0.toNat) with hlt | hge
  rotate_left
  ·have hcc : c = 2 * w0.toNat := by omega
   subst hcc
   conv => whnf
   repeat' first | ((first | refine LookP.mk _ (by first | rfl | exact get_l0 hpos) ?_ | refine And.intro (by first | assumption | decide | omega | exact ⟨by decide, by simp; omega⟩) ?_ | fail); conv => whnf) | (intro t ht; cases t <;> conv => whnf)
   ·exfalso; rw [decide_eq_false_iff_not, List.length_map] at ht; omega
   ·exact hk _ _ wn hn hh ⟨rfl, rfl, rfl, rfl, rfl⟩
   ·exfalso; rw [e2] at ht; simp at ht; omega
  conv => whnf
  repeat' first | ((first | refine LookP.mk _ (by first | rfl | exact get_l0 hpos) ?_ | refine And.intro (by first | assumption | decide | omega | exact ⟨by decide, by simp; omega⟩) ?_ | fail); conv => whnf) | (intro t ht; cases t <;> conv => whnf)
  ·exfalso; rw [decide_eq_false_iff_not, List.length_map] at ht; omega
  ·exfalso; rw [e2] at ht; simp at ht; omega
  refine redA' rfl hbig hat (by omega) hh hn ⟨rfl, rfl, rfl, rfl, rfl⟩ rfl rfl fun r h1 hf hw => ?_
  have hfo := fnd_O hf
  generalize redN l c = S at *
  obtain ⟨rf, wb, a⟩ := S
  dsimp only at *
  rcases hfo with ⟨rfl, hfo⟩ | ⟨f, rfl, hf1, hf2, hfo⟩
  ·conv => whnf
   repeat' first | (intro t ht; cases t <;> conv => whnf)
   ·exfalso; simp at ht
   ·refine hA _ ⟨(c + 1, wn), hlt, hn⟩ ?_ (by show 2 * w0.toNat - (c + 1) < 2 * w0.toNat - c; omega)
    dsimp only
    rw [hS]
    simp only [colS, hfo]
    exact sub_hw hw hn ⟨⟨rfl, rfl⟩, ⟨rfl, bel_1 hn.one⟩, ⟨rfl, bel_W hn.wlt⟩, ⟨rfl, rfl⟩, ⟨congrArg (fun n => AV.d (iD n)) e1, rfl⟩, trivial⟩ trivial
  have ha : a < l.length := by omega
  have g1 := hw.g1
  have hb1 : Nat.blt 1 nx = true := by simpa using hn.one
  conv => whnf
  repeat' first | ((first | refine LookP.mk _ (by first | rfl | (simp only [Nat.zero_add, Int.toNat_natCast]; first | exact get_rangeL hf2 | exact get_rangeL ha)) ?_ | refine ShlP.mk _ (by first | (simp only [Nat.zero_add, Int.toNat_natCast]; first | exact set_range ha | exact set_range hf2) | rfl) ?_ | refine And.intro (by first | assumption | exact ⟨by kernel_rfl, hb1⟩ | decide | omega | exact ⟨Int.natCast_nonneg _, by simp; omega⟩) ?_ | rw [pick1 rfl g1]); conv => whnf) | (intro t ht; cases t <;> conv => whnf)
  rotate_left
  ·exfalso; simp at ht; omega
  refine HpP.other fun h2 f0 => ?_
  have q1 : h2.get 1 = some (blkR l.length fun j => if j = a then rf f else rf j) := by
   rw [f0]
   simp only [heapOf, List.foldl, wr, List.nil_append]
   rw [get_cons_same]
   unfold blkR
   congr 2
   apply List.map_congr_left
   intro j _
   by_cases e : j = a
   ·simp [e]; rfl
   ·simp [e]
  have q2 : ∀ m, m ≠ 1 → h2.get m = h1.get m := fun m hm => by
   rw [f0]
   simp only [heapOf, List.foldl, wr, List.nil_append]
   rw [get_cons_ne _ _ hm]
  clear f0
  conv => whnf
  repeat' first | ((first | refine LookP.mk _ (by first | rfl | (simp only [Nat.zero_add, Int.toNat_natCast]; first | exact get_rangeL hf2 | exact get_rangeL ha)) ?_ | refine ShlP.mk _ (by first | (simp only [Nat.zero_add, Int.toNat_natCast]; first | exact set_range ha | exact set_range hf2) | rfl) ?_ | rw [q1]); conv => whnf)
  refine HpP.other fun h3 f0 => ?_
  have r1 : h3.get 1 = some (blkR l.length (swapF rf a f)) := by
   rw [f0, get_put, get_cons_same]
   unfold blkR
   congr 2
   apply List.map_congr_left
   intro j _
   unfold swapF
   by_cases e : j = f
   ·subst e
    by_cases e2 : j = a
    ·subst e2; simp; rfl
    ·simp [e2]; rfl
   ·by_cases e2 : j = a
    ·subst e2; simp [e]
    ·simp [e, e2]
  have r2 : ∀ m, m ≠ 1 → h3.get m = h1.get m := fun m hm => by
   rw [f0, get_put, get_cons_ne _ _ hm]; exact q2 m hm
  clear f0
  have g2 : h3.get 2 = some (whE l.length wn l.length) := (r2 2 (by decide)).trans hw.g2
  have hb2 : Nat.blt 2 nx = true := by simpa using hn.wlt
  conv => whnf
  repeat' first | ((first | refine LookP.mk _ (by first | rfl | (simp only [Nat.zero_add, Int.toNat_natCast]; first | exact get_rangeL hf2 | exact get_rangeL ha)) ?_ | refine ShlP.mk _ (by first | (simp only [Nat.zero_add, Int.toNat_natCast]; first | exact set_range ha | exact set_range hf2) | rfl) ?_ | refine And.intro (by first | assumption | exact ⟨by kernel_rfl, hb1⟩ | exact ⟨by kernel_rfl, hb2⟩ | decide | omega | exact ⟨Int.natCast_nonneg _, by simp; omega⟩) ?_ | rw [pick1 rfl g2]); conv => whnf)
  refine HpP.other fun h4 f0 => ?_
  have s1 : h4.get 2 = some (whE l.length (fun j => if j = a then wn f else wn j) l.length) := by
   rw [f0]
   simp only [heapOf, List.foldl, wr, List.nil_append]
   rw [get_cons_same]
   unfold whE
   congr 2
   apply List.map_congr_left
   intro j _
   by_cases e : j = a
   ·simp [e]
   ·simp [e]
  have s2 : ∀ m, m ≠ 2 → h4.get m = h3.get m := fun m hm => by
   rw [f0]
   simp only [heapOf, List.foldl, wr, List.nil_append]
   rw [get_cons_ne _ _ hm]
  clear f0
  conv => whnf
  repeat' first | ((first | refine LookP.mk _ (by first | rfl | (simp only [Nat.zero_add, Int.toNat_natCast]; first | exact get_rangeL hf2 | exact get_rangeL ha)) ?_ | refine ShlP.mk _ (by first | (simp only [Nat.zero_add, Int.toNat_natCast]; first | exact set_range ha | exact set_range hf2) | rfl) ?_ | rw [s1]); conv => whnf)
  refine HpP.other fun h5 f0 => ?_
  have t1 : h5.get 2 = some (whE l.length (swapF wn a f) l.length) := by
   rw [f0, get_put, get_cons_same]
   unfold whE
   congr 2
   apply List.map_congr_left
   intro j _
   unfold swapF
   by_cases e : j = f
   ·subst e
    by_cases e2 : j = a
    ·subst e2; simp
    ·simp [e2]
   ·by_cases e2 : j = a
    ·subst e2; simp [e]
    ·simp [e, e2]
  have t2 : ∀ m, m ≠ 2 → h5.get m = h3.get m := fun m hm => by
   rw [f0, get_put, get_cons_ne _ _ hm]; exact s2 m hm
  clear f0
  have hw5 : HW h5 l.length 2 (swapF rf a f) (swapF wn a f) (swapF wb a f) := by
   refine ⟨(t2 1 (by decide)).trans r1, t1, fun j hj => ?_⟩
   have hold : ∀ j', j' < l.length → h5.get (wn j') = some (bl1 l.length (wb j')) := fun j' hj' => by
    rw [t2 _ (hn.neW j' hj'), r2 _ (hn.ne1 j' hj')]; exact hw.g3 j' hj'
   unfold swapF
   split
   ·exact hold f hf2
   ·split
    ·exact hold a ha
    ·exact hold j hj
  conv => whnf
  skip
  have hd5 : WD l.length w0 (swapF rf a f) := swap_wd hd ha hf2
  refine redC' rfl hbig ha (by omega) hw5 (swap_nw hn ha hf2) hd5 ⟨rfl, rfl, rfl, rfl, rfl⟩ rfl fun h6 hw6 => ?_
  have e3 : iadd .i64 (a : Int) 1 = ((a + 1 : Nat) : Int) := by rw [iadd_eq (by omega) (by omega)]; rfl
  conv => whnf
  skip
  refine hA _ ⟨(c + 1, swapF wn a f), hlt, swap_nw hn ha hf2⟩ ?_ (by show 2 * w0.toNat - (c + 1) < 2 * w0.toNat - c; omega)
  dsimp only
  rw [hS]
  simp only [colS, hfo]
  exact sub_hw hw6 (swap_nw hn ha hf2) ⟨⟨rfl, rfl⟩, ⟨rfl, bel_1 hn.one⟩, ⟨rfl, bel_W hn.wlt⟩, ⟨congrArg (fun n => AV.d (iD n)) e3, rfl⟩, ⟨congrArg (fun n => AV.d (iD n)) e1, rfl⟩, trivial⟩ trivial
end Go.Tz
namespace Go.Tz
open Go Go.AL Go.Proofs
variable {G : Nat → Option (List D)}
theorem rowsA_eq (l : List Ps) : Blk.arr 4 (rowsA l) = blkR l.length (redN l 0).1 := by
 unfold blkR rowsA
 congr 1
 apply List.ext_getElem
 ·simp
 ·intro k h1 h2
  simp at h1
  simp [redN, h1]
noncomputable def c0 : Code := loopAt Tryz.f100 0
theorem red0 {l : List Ps} {t : Bool} {k : Exit → St → Prop} {e : List (Nat × AV)} {h : AHeap} (hn : l.length ≤ 1000) (e0 : lk e 0 = .d (rowsD l t)) (e4 : lk e 4 = .sl 1 4 0 l.length l.length false) (e5 : lk e 5 = .d (.sl [] true)) (e6 : lk e 6 = .d (iD 0)) (hg : h.get 1 = some (.arr 4 (rowsA l)))
  (hk : ∀ e' h', AHeap.get h' 1 = some (.arr 4 (rowsA l)) → AHeap.get h' (3 * l.length + 2) = some (whE l.length (fun j => 3 * j + 3) l.length) → (∀ j, j < l.length → AHeap.get h' (3 * j + 3) = some (bl1 l.length fun q => q == j)) →
   lk e' 0 = .d (rowsD l t) → lk e' 4 = .sl 1 4 0 l.length l.length false → lk e' 5 = .sl (3 * l.length + 2) 1 0 l.length l.length false → k (.exit 0) ⟨e', h', 3 * l.length + 3⟩) : LoopVC Pr G 155 0 [] c0 ⟨e, h, 2⟩ k := by
 refine loop_use pok (σ := { i : Nat // i ≤ l.length }) (fun s => ⟨[(0, .d (rowsD l t)), (4, .sl 1 4 0 l.length l.length false), (5, .sl (3 * s.1 + 2) 1 0 s.1 s.1 false), (6, .d (iD s.1))], hp0 l s.1, 3 * s.1 + 3⟩) (fun s => l.length - s.1) ⟨0, by omega⟩ ?_ ?_ ?_
 ·refine (sub_nil (t := 5) (S := 1) (Nat.zero_le _) e5).trans (keep_env (Nat.zero_le _) ⟨⟨?_, rfl⟩, ⟨?_, rfl⟩, ⟨rfl, rfl⟩, ⟨?_, rfl⟩, trivial⟩ ⟨⟨ltB rfl, _, rfl, ?_, below_rows l _⟩, ⟨ltB rfl, _, rfl, rfl, below_wh (fun j hj => absurd hj (Nat.not_lt_zero j))⟩, trivial⟩ trivial)
  ·exact (lk_cons_ne _ _ (show (0 : Nat) ≠ 5 by decide)).trans e0
  ·exact (lk_cons_ne _ _ (show (4 : Nat) ≠ 5 by decide)).trans e4
  ·exact (lk_cons_ne _ _ (show (6 : Nat) ≠ 5 by decide)).trans e6
  ·exact (get_cons_ne _ _ (show (1 : Nat) ≠ 2 by decide)).trans hg
 ·kernel_rfl
 ·rintro ⟨i, hi⟩
  dsimp only
  have e1 : iadd .i64 (i : Int) 1 = ((i + 1 : Nat) : Int) := by rw [iadd_eq (by omega) (by omega)]; rfl
  have g1 : (hp0 l i).get 1 = some (.arr 4 (rowsA l)) := rfl
  have g2 : (hp0 l i).get (3 * i + 2) = some (whE l.length (fun j => 3 * j + 3) i) := by
   unfold hp0; rw [get_consI, if_neg (by omega), get_consI, if_pos rfl]
  have g3 : ∀ j, j < i → (hp0 l i).get (3 * j + 3) = some (bl1 l.length fun q => q == j) := fun j hj => by
   unfold hp0; rw [get_consI, if_neg (by omega), get_consI, if_neg (by omega)]
   exact get_range (nm := fun j => 3 * j + 3) (bl := fun j => bl1 l.length fun q => q == j) (fun a b _ _ h => by omega) hj
  generalize hp0 l i = h at g1 g2 g3 ⊢
  rcases Nat.lt_or_ge i l.length with hlt | hge
  rotate_left
  ·conv => whnf
   repeat' first | (intro t ht; cases t <;> conv => whnf)
   ·have hin : i = l.length := by omega
    subst hin
    exact hk _ h g1 g2 g3 rfl rfl rfl
   ·exfalso; simp at ht; omega
  have hW : 3 * i + 2 ≠ 3 * i + 3 := by omega
  have hW1 : 3 * i + 2 ≠ 3 * i + 3 + 1 := by omega
  generalize hWe : 3 * i + 2 = W at hW hW1 g2 ⊢
  generalize hXe : 3 * i + 3 = X at hW hW1 ⊢
  conv => whnf
  repeat' first | ((first | refine LookP.mk _ (by first | rfl | (simp only [Nat.zero_add, Int.toNat_natCast]; exact get_rangeL hlt)) ?_ | refine ShlP.mk _ (by first | (simp only [List.length_map, Int.toNat_natCast]; exact rep_map _) | (simp only [Nat.zero_add, Int.toNat_natCast]; exact set_range hlt) | rfl) ?_ | refine And.intro (by first | assumption | decide | omega | exact ⟨by omega, rfl, by show 1 * _ ≤ _; simp; omega, by decide, by decide⟩ | exact ⟨by simp [whE], by decide, by simp; omega⟩ | exact ⟨Int.natCast_nonneg _, by simp; omega⟩) ?_ | rw [get_cons_same]); conv => whnf) | (intro t ht; cases t <;> conv => whnf)
  ·exfalso; first | (simp at ht; done) | (simp at ht; omega)
  refine HpP.other fun h2 f => ?_
  have q1 : h2.get X = some (bl1 l.length fun q => q == i) := by
   rw [f, get_put, get_cons_same]
   unfold bl1
   congr 2
   apply List.map_congr_left
   intro j _
   by_cases e : j = i
   ·subst e; simp [over, constD, constD0]
   ·simp [e]
  have q2 : ∀ m, m ≠ X → h2.get m = h.get m := fun m hm => by rw [f, get_put, get_cons_ne _ _ hm, get_cons_ne _ _ hm]
  clear f
  have q3 : h2.get W = some (whE l.length (fun j => 3 * j + 3) i) := (q2 W hW).trans g2
  have q4 : ∀ b, AHeap.get ((X + 1, b) :: h2) W = some (whE l.length (fun j => 3 * j + 3) i) := fun b => (get_cons_ne _ _ hW1).trans q3
  conv => whnf
  repeat' first | ((first | refine ShlP.mk _ (by first | (simp only [List.set, over, List.take, List.drop, List.append_eq, List.nil_append, List.cons_append, List.length]; rfl) | rfl) ?_ | (refine And.intro (by first | assumption | decide | omega | exact (show 1 ≤ 1 from Nat.le_refl 1) | exact ⟨by simp [whE], by decide, by simp; omega⟩) ?_) | rw [get_cons_same] | rw [q4] | rw [nbeq]); conv => whnf)
  refine HpP.other fun h3 f => ?_
  have r1 : h3.get (X + 2) = some (whE l.length (fun j => 3 * j + 3) (i + 1)) := by
   rw [f, get_put, get_cons_same]
   unfold whE
   rw [List.range_succ, List.map_append]
   simp [hXe]
   rfl
  have r0 : ∀ m, m ≠ X + 2 → m ≠ W → m ≠ X + 1 → h3.get m = h2.get m := fun m m1 m2 m3 => by
   rw [f, get_put, get_cons_ne _ _ m1, get_del, if_neg m2, get_cons_ne _ _ m3]
  clear f
  conv => whnf
  skip
  subst hXe hWe
  refine .mk ⟨i + 1, hlt⟩ (keep_env (Nat.zero_le _) ⟨⟨rfl, rfl⟩, ⟨rfl, rfl⟩, ⟨?_, ?_⟩, ⟨congrArg (fun n => AV.d (iD n)) e1, rfl⟩, trivial⟩ ⟨⟨by show 1 < 3 * (i + 1) + 3; omega, _, rfl, ?_, ?_⟩, ⟨by show 3 * (i + 1) + 2 < 3 * (i + 1) + 3; omega, _, rfl, ?_, ?_⟩, allP_map fun j hj => ?_⟩ trivial) (by show l.length - (i + 1) < l.length - i; omega)
  ·rfl
  ·show Nat.blt (3 * (i + 1) + 2) (3 * (i + 1) + 3) = true
   simp
  ·show h3.get 1 = _
   rw [r0 1 (by omega) (by omega) (by omega), q2 1 (by omega)]; exact g1
  ·exact below_rows l _
  ·exact r1
  ·exact below_wh (fun j hj => by have hj : j < i + 1 := hj; show 3 * j + 3 < 3 * (i + 1) + 3; omega)
  ·have hj : j < i + 1 := List.mem_range.1 hj
   refine ⟨by show 3 * j + 3 < 3 * (i + 1) + 3; omega, _, rfl, ?_, below_bl1 _ _ _⟩
   show h3.get (3 * j + 3) = _
   rw [r0 _ (by omega) (by omega) (by omega)]
   by_cases e : j = i
   ·subst e; exact q1
   ·rw [q2 _ (by omega)]; exact g3 j (by omega)
theorem redB' {l : List Ps} {t : Bool} {k : Exit → St → Prop} {e : List (Nat × AV)} {h : AHeap} {n nx : Nat} {w0 : Int} {wn : Nat → Nat} (hl : l.length = n) (hbig : n ≤ 1000) (hpos : 0 < n) (hww : ∀ q, q ∈ l → q.w = w0) (hw1 : 1 ≤ w0) (hw2 : w0 ≤ 12)
  (hw : HW h n 2 (redN l 0).1 wn (redN l 0).2.1) (hn : NW n 2 nx wn) (he : EV l t n 2 0 0 e)
  (hk : ∀ h' wn', NW n 2 nx wn' → HW h' n 2 (redN l (2 * w0.toNat)).1 wn' (redN l (2 * w0.toNat)).2.1 → k (.exit 2) ⟨evL l t n 2 (redN l (2 * w0.toNat)).2.2 (2 * w0.toNat), h', nx⟩) : LoopVC Pr G 155 0 [] cB ⟨e, h, nx⟩ k :=
 loopvc_sub (redB hl hbig hpos hww hw1 hw2 hw hn he fun e' h' wn' q1 q2 q3 => ⟨⟨evL l t n 2 (redN l (2 * w0.toNat)).2.2 (2 * w0.toNat), h', nx⟩, sub_env ⟨q3.e0, q3.e4, q3.e5, q3.e8, q3.e9, trivial⟩, hk h' wn' q1 q2⟩)
theorem loopvc_pre {P : Program} {n b : Nat} {ms : List Nat} {c : Code} {st st' : St} {k : Exit → St → Prop} (hs : Sub G b ms st st') (h : LoopVC P G n b ms c st' k) : LoopVC P G n b ms c st k := by
 cases h with
 | mk h => exact ⟨fun r => awp_sub hs (h r)⟩
theorem rens_whE (ρ : Nat → Nat) (n : Nat) (wn : Nat → Nat) (h : ∀ j, j < n → ρ (wn j) = wn j) : (whE n wn n).ren ρ = whE n wn n := by
 unfold whE
 simp only [Blk.ren, List.map_map]
 congr 1
 apply List.map_congr_left
 intro j hj
 simp [AV.rens, AV.ren, h j (List.mem_range.1 hj)]
theorem ren_blkR (ρ : Nat → Nat) (n : Nat) (rf : Nat → Ps) : (blkR n rf).ren ρ = blkR n rf := by
 unfold blkR
 simp only [Blk.ren, List.map_map]
 congr 1
theorem ren_bl1 (ρ : Nat → Nat) (n : Nat) (f : Nat → Bool) : (bl1 n f).ren ρ = bl1 n f := by
 unfold bl1
 simp only [Blk.ren, List.map_map]
 congr 1
theorem sub_W {l : List Ps} {t : Bool} {e : List (Nat × AV)} {h : AHeap} (g1 : h.get 1 = some (.arr 4 (rowsA l))) (g2 : h.get (3 * l.length + 2) = some (whE l.length (fun j => 3 * j + 3) l.length)) (g3 : ∀ j, j < l.length → h.get (3 * j + 3) = some (bl1 l.length fun q => q == j))
  (e0 : lk e 0 = .d (rowsD l t)) (e4 : lk e 4 = .sl 1 4 0 l.length l.length false) (e5 : lk e 5 = .sl (3 * l.length + 2) 1 0 l.length l.length false) (e8 : lk e 8 = .d (iD 0)) (e9 : lk e 9 = .d (iD 0)) :
  Sub G 0 [] ⟨e, h, 3 * l.length + 3⟩ ⟨evL l t l.length 2 0 0, hpW l.length 2 (redN l 0).1 (fun j => 3 * j + 3) (redN l 0).2.1, 3 * l.length + 3⟩ := by
 let ρ : Nat → Nat := fun m => if m = 2 then 3 * l.length + 2 else m
 have r3 : ∀ j, ρ (3 * j + 3) = 3 * j + 3 := fun j => by show (if _ then _ else _) = _; rw [if_neg (by omega)]
 have r1 : ρ 1 = 1 := rfl
 refine sub_canon ρ (fun m h => by omega) (Nat.zero_le _) ⟨⟨e0, rfl⟩, ⟨e4, by simp [AV.bel]⟩, ⟨e5, by simp [AV.bel]⟩, ⟨e8, rfl⟩, ⟨e9, rfl⟩, trivial⟩
  ⟨⟨by show 1 < 3 * l.length + 3; omega, _, rfl, ?_, below_blkR _ _ _⟩, ⟨by show 2 < 3 * l.length + 3; omega, _, rfl, ?_, below_wh fun j hj => by show 3 * j + 3 < 3 * l.length + 3; omega⟩, allP_map fun j hj => ⟨by have := List.mem_range.1 hj; show 3 * j + 3 < 3 * l.length + 3; omega, _, rfl, ?_, below_bl1 _ _ _⟩⟩ ?_ trivial
 ·rw [ren_blkR, ← rowsA_eq]; exact g1
 ·rw [rens_whE ρ _ _ fun j _ => r3 j]; exact g2
 ·rw [ren_bl1]
  show h.get (ρ (3 * j + 3)) = _
  rw [r3]; exact g3 j (List.mem_range.1 hj)
 ·have names : ∀ p, p ∈ hpW l.length 2 (redN l 0).1 (fun j => 3 * j + 3) (redN l 0).2.1 → p.1 = 1 ∨ p.1 = 2 ∨ ∃ j, j < l.length ∧ p.1 = 3 * j + 3 := by
   intro p hp
   unfold hpW at hp
   rcases List.mem_cons.1 hp with rfl | hp
   ·exact .inl rfl
   rcases List.mem_cons.1 hp with rfl | hp
   ·exact .inr (.inl rfl)
   obtain ⟨j, hj, rfl⟩ := List.mem_map.1 hp
   exact .inr (.inr ⟨j, List.mem_range.1 hj, rfl⟩)
  have all : ∀ {α : Type} {f : α → Prop} {l : List α}, (∀ a, a ∈ l → f a) → AllP f l := fun {α} {f} {l} h => by
   have := allP_map (f := f) (g := fun a : α => a) (l := l) h
   simpa using this
  refine all fun p hp => all fun q hq => ?_
  have key : ∀ m, ρ m = if m = 2 then 3 * l.length + 2 else m := fun _ => rfl
  rw [key, key]
  rcases names p hp with h1 | h1 | ⟨j, hj, h1⟩ <;> rcases names q hq with h2 | h2 | ⟨i, hi, h2⟩ <;> rw [h1, h2] <;> intro h <;> simp at h ⊢ <;> omega
theorem red_c (l : List Ps) (t : Bool) (w0 : Int) (hn : l.length ≤ 1000) (hpos : 0 < l.length) (hww : ∀ q, q ∈ l → q.w = w0) (hw1 : 1 ≤ w0) (hw2 : w0 ≤ 12) : ACall Pr G 100 [.d (rowsD l t)] [] 0 fun v H _ =>
  ∃ wn, v = .tup [.sl 1 4 0 l.length l.length false, .sl 2 1 0 l.length l.length false] ∧ HW H l.length 2 (redN l (2 * w0.toNat)).1 wn (redN l (2 * w0.toNat)).2.1 := by
 refine fn_walk pok Tryz.func100 chk100 ?_
 conv => whnf
 repeat' first | ((first | refine ShlP.mk _ (by first | (simp only [List.set, over, List.take, List.drop, List.append_eq, List.nil_append, List.cons_append, List.length]; rfl) | rfl) ?_ | refine And.intro (by first | assumption | decide | omega | exact rows_len l | exact ⟨rfl, by decide, by simp only [List.length_map, Nat.zero_add]; omega⟩) ?_ | rw [rows_sc] | refine HpP.force ?_); conv => whnf)
 refine loopvc_pre (st' := ⟨[(0, .d (rowsD l t)), (4, .sl 1 4 0 l.length l.length false), (5, .d (.sl [] true)), (6, .d (iD 0))], [(1, some (.arr 4 (rowsA l)))], 2⟩) (keep_env (Nat.zero_le _) ⟨⟨rfl, rfl⟩, ⟨?_, rfl⟩, ⟨rfl, rfl⟩, ⟨rfl, rfl⟩, trivial⟩ ⟨⟨ltB rfl, _, rfl, ?_, below_rows l _⟩, trivial⟩ trivial) (red0 hn rfl rfl rfl rfl rfl fun e' h' g1 g2 g3 e0 e4 e5 => ?_)
 ·show AV.sl 1 4 0 (0 + (List.map (fun x => List.map AV.d x) (List.map Ps.l l)).length) (0 + (List.map (fun x => List.map AV.d x) (List.map Ps.l l)).length) false = _
  simp
 ·show some (Blk.arr 4 ([] ++ List.map (fun x => List.map AV.d x) (List.map Ps.l l))) = _
  simp [rowsA]
 ·have nw : NW l.length 2 (3 * l.length + 3) (fun j => 3 * j + 3) := ⟨by omega, by decide, by omega, fun i j _ _ h => by omega, fun j _ => by omega, fun j _ => by omega, fun j hj => by omega⟩
  conv => whnf
  skip
  refine loopvc_pre (sub_W g1 g2 g3 e0 e4 e5 rfl rfl) (redB' rfl hn hpos hww hw1 hw2 (hpW_ok nw) nw ⟨rfl, rfl, rfl, rfl, rfl⟩ fun h'' wn' q1 q2 => ?_)
  conv => whnf
  skip
  exact fin ⟨wn', rfl, q2⟩
end Go.Tz
namespace Go.Tz
open Go Go.AL Go.Proofs
variable {G : Nat → Option (List D)}
def redRows (l : List Ps) (c : Nat) : List Ps := (List.range l.length).map fun j => (redN l c).1 j
def whD (l : List Ps) (c : Nat) : List (List D) := (List.range l.length).map fun j => [.sl ((List.range l.length).map fun q => [.bool ((redN l c).2.1 j q)]) true]
theorem red_pc (l : List Ps) (t : Bool) (w0 : Int) (hn : l.length ≤ 1000) (hpos : 0 < l.length) (hww : ∀ q, q ∈ l → q.w = w0) (hw1 : 1 ≤ w0) (hw2 : w0 ≤ 12) :
  PC Pr G 100 [rowsD l t] (.tup [rowsD (redRows l (2 * w0.toNat)) false, .sl (whD l (2 * w0.toNat)) false]) := by
 refine pc_freeze (isFn_of Tryz.func100 chk100) (acall_mono (red_c l t w0 hn hpos hww hw1 hw2) ?_)
 rintro v H k ⟨wn, rfl, hw⟩
 generalize 2 * w0.toNat = c at hw ⊢
 refine .tup _ _ rfl fun j v d hv hd => ?_
 match j, hv, hd with
 | 0, hv, hd =>
  simp only [List.getElem?_cons_zero, Option.some.injEq] at hv hd
  subst hv hd
  have hb : H.get 1 = some (.arr 4 (((redRows l c).map Ps.l).map (·.map AV.d))) := by
   rw [hw.g1]; unfold blkR redRows; simp [List.map_map, Function.comp_def]
  have := asD_sl_map (lo := 0) (len := l.length) (room := l.length) (t := false) hb (by simp [redRows])
  have e : ((((redRows l c).map Ps.l).drop 0).take l.length) = (redRows l c).map Ps.l := by
   rw [List.drop_zero, List.take_of_length_le (by simp [redRows])]
  rw [e] at this
  exact this
 | 1, hv, hd =>
  simp only [List.getElem?_cons_succ, List.getElem?_cons_zero, Option.some.injEq] at hv hd
  subst hv hd
  have hg := hw.g2
  have := AsD.sl (H := H) 2 1 0 l.length l.length false _ (whD l c) hg (by simp [whD]) (fun i el dl h1 h2 => by
   obtain ⟨_, _, rfl⟩ := List.mem_map.1 (List.mem_of_getElem? h1)
   obtain ⟨_, _, rfl⟩ := List.mem_map.1 (List.mem_of_getElem? h2)
   rfl) (fun i q el dl v d h1 h2 h3 h4 => by
   have hi : i < l.length := by have := (List.getElem?_eq_some_iff.1 h1).1; simpa using this
   rw [get_rangeL hi] at h1
   unfold whD at h2
   rw [get_rangeL hi] at h2
   cases h1
   cases h2
   cases q with
   | succ q => simp at h3
   | zero =>
    simp at h3 h4
    subst h3 h4
    have hb : H.get (wn i) = some (.arr 1 (((List.range l.length).map fun p => [D.bool ((redN l c).2.1 i p)]).map (·.map AV.d))) := by
     rw [hw.g3 i hi]; unfold bl1; simp [List.map_map, Function.comp_def]
    have := asD_sl_map (lo := 0) (len := l.length) (room := l.length) (t := true) hb (by simp)
    rw [List.drop_zero, List.take_of_length_le (by simp)] at this
    simpa using this) (by simp)
  have e : ((whD l c).drop 0).take l.length = whD l c := by rw [List.drop_zero, List.take_of_length_le (by simp [whD])]
  rw [e] at this
  exact this
 | j + 2, hv, _ => simp at hv
end Go.Tz
namespace Go.Tz
open Go Go.AL Go.Proofs
variable {G : Nat → Option (List D)}
theorem redRows_w {l : List Ps} {w0 : Int} (hww : ∀ q, q ∈ l → q.w = w0) (hw1 : 1 ≤ w0) (hw2 : w0 ≤ 12) (c : Nat) : ∀ q, q ∈ redRows l c → q.w = w0 := by
 intro q hq
 obtain ⟨j, hj, rfl⟩ := List.mem_map.1 hq
 exact (red_inv hww hw1 hw2 c).1.w j (List.mem_range.1 hj)
theorem redRows_len (l : List Ps) (c : Nat) : (redRows l c).length = l.length := by simp [redRows]
def rankN (m : List Ps) : Nat := m.countP fun q => decide (0 ≤ leadI q)
theorem chk104 : chkFn Tryz.f104 = true := by kernel_rfl
theorem rank104 (l : List Ps) (t : Bool) (w0 : Int) (hn : l.length ≤ 1000) (hpos : 0 < l.length) (hww : ∀ q, q ∈ l → q.w = w0) (hw1 : 1 ≤ w0) (hw2 : w0 ≤ 12) :
  PC Pr G 104 [rowsD l t] (iD (rankN (redRows l (2 * w0.toNat)))) := by
 have hm := redRows_w hww hw1 hw2 (2 * w0.toNat)
 have hml := redRows_len l (2 * w0.toNat)
 have hred := red_pc (G := G) l t w0 hn hpos hww hw1 hw2
 generalize redRows l (2 * w0.toNat) = m at hm hml hred ⊢
 generalize whD l (2 * w0.toNat) = wd at hred
 refine pc_walk pok Tryz.func104 chk104 ?_
 conv => whnf
 repeat' first | (refine pc_use hred ?_; conv => whnf)
 refine loop_use2 (σ := { i : Nat // i ≤ m.length }) (fun s => ⟨[(3, .d (rowsD m false)), (5, .d (iD ((m.take s.1).countP fun q => decide (0 ≤ leadI q) : Nat))), (6, .d (iD s.1))], [], 0⟩) (fun s => m.length - s.1) ⟨0, Nat.zero_le _⟩ ?_ ?_ ?_
 ·exact keep_env (Nat.zero_le _) ⟨⟨rfl, rfl⟩, ⟨rfl, rfl⟩, ⟨rfl, rfl⟩, trivial⟩ trivial trivial
 ·kernel_rfl
 ·rintro ⟨i, hi⟩ A hA
  dsimp only at hi hA ⊢
  have e1 : iadd .i64 (i : Int) 1 = ((i + 1 : Nat) : Int) := by rw [iadd_eq (by omega) (by omega)]; rfl
  rcases Nat.lt_or_ge i m.length with hlt | hge
  rotate_left
  ·have hii : i = m.length := by omega
   subst hii
   conv => whnf
   repeat' first | ((first | refine And.intro (by first | assumption | exact ⟨by kernel_rfl, rfl⟩ | decide | omega) ?_ | fail); conv => whnf) | (intro t ht; cases t <;> conv => whnf)
   ·refine fin ?_
    rw [List.take_length]; rfl
   ·exfalso; simp at ht
  have hc : (m.take i).countP (fun q => decide (0 ≤ leadI q)) ≤ i := by
   have := List.countP_le_length (p := fun q => decide (0 ≤ leadI q)) (l := m.take i)
   rw [List.length_take] at this; omega
  have hs : (m.take (i + 1)).countP (fun q => decide (0 ≤ leadI q)) = (m.take i).countP (fun q => decide (0 ≤ leadI q)) + (if 0 ≤ leadI m[i] then 1 else 0) := by
   rw [take_snoc hlt, List.countP_append]; simp [List.countP_singleton]
  have hw : 1 ≤ (m[i]).w ∧ (m[i]).w ≤ 24 := by rw [hm _ (List.getElem_mem hlt)]; omega
  conv => whnf
  repeat' first | ((first | refine LookP.mk _ (by first | rfl | exact get_l hlt) ?_ | refine And.intro (by first | assumption | exact ⟨by kernel_rfl, rfl⟩ | decide | omega) ?_ | refine pc_use (lead190 m[i] hw) ?_); conv => whnf) | (intro t ht; cases t <;> conv => whnf)
  ·exfalso; simp at ht; omega
  ·simp at ht
   refine hA _ ⟨i + 1, hlt⟩ (keep_env (Nat.zero_le _) ⟨⟨rfl, rfl⟩, ⟨?_, rfl⟩, ⟨congrArg (fun n => AV.d (iD n)) e1, rfl⟩, trivial⟩ trivial trivial) (by show m.length - (i + 1) < m.length - i; omega)
   show AV.d (iD _) = AV.d (iD _)
   rw [hs, if_neg (by omega)]; rfl
  ·simp at ht
   refine hA _ ⟨i + 1, hlt⟩ (keep_env (Nat.zero_le _) ⟨⟨rfl, rfl⟩, ⟨?_, rfl⟩, ⟨congrArg (fun n => AV.d (iD n)) e1, rfl⟩, trivial⟩ trivial trivial) (by show m.length - (i + 1) < m.length - i; omega)
   show AV.d (iD (iadd .i64 _ 1)) = AV.d (iD _)
   rw [hs, if_pos ht, iadd_eq (by omega) (by omega)]; rfl
theorem chk90 : chkFn Tryz.f90 = true := by kernel_rfl
theorem indep90 (l : List Ps) (t : Bool) (w0 : Int) (hn : l.length ≤ 1000) (hpos : 0 < l.length) (hww : ∀ q, q ∈ l → q.w = w0) (hw1 : 1 ≤ w0) (hw2 : w0 ≤ 12) :
  PC Pr G 90 [rowsD l t] (.bool (decide (rankN (redRows l (2 * w0.toNat)) = l.length))) := by
 have hr := rank104 (G := G) l t w0 hn hpos hww hw1 hw2
 refine pc_walk pok Tryz.func90 chk90 ?_
 conv => whnf
 repeat' first | (refine pc_use hr ?_; conv => whnf) | (intro t ht; cases t <;> conv => whnf)
 all_goals refine fin ?_
 all_goals simp at ht
 all_goals simp; omega
theorem chk26 : chkFn Tryz.f26 = true := by kernel_rfl
theorem canon26 (w : Int) (l : List Ps) (t : Bool) (w0 : Int) (hn : l.length ≤ 1000) (hpos : 0 < l.length) (hww : ∀ q, q ∈ l → q.w = w0) (hw1 : 1 ≤ w0) (hw2 : w0 ≤ 12) :
  PC Pr G 26 [stD w l t] (stD w (redRows l (2 * w0.toNat)) false) := by
 have hr := red_pc (G := G) l t w0 hn hpos hww hw1 hw2
 refine pc_walk pok Tryz.func26 chk26 ?_
 conv => whnf
 repeat' first | ((first | refine LookP.mk _ rfl ?_ | refine ShlP.mk _ (by first | (simp only [List.set, over, List.take, List.drop, List.append_eq, List.nil_append, List.cons_append, List.length]; rfl) | rfl) ?_ | refine pc_use hr ?_ | refine HpP.force ?_); conv => whnf)
 exact fin rfl
end Go.Tz
namespace Go.Tz
open Go Go.AL Go.Proofs
variable {G : Nat → Option (List D)}
theorem chk111 : chkFn Tryz.f111 = true := by kernel_rfl
def pckI (q : Ps) : Int := if q.w < 1 ∨ q.w > 12 then 3 else if q.x < 0 ∨ q.z < 0 ∨ q.x ≥ ishl .i64 1 q.w ∨ q.z ≥ ishl .i64 1 q.w then 1 else if q.p < 0 ∨ q.p > 3 then 3 else 0
theorem check111 (q : Ps) : PC Pr G 111 [q.d] (iD (pckI q)) := by
 refine pc_walk pok Tryz.func111 chk111 ?_
 conv => whnf
 repeat' first | ((first | refine LookP.mk _ rfl ?_ | refine And.intro (by first | assumption | (simp at *; omega)) ?_ | refine HpP.force ?_); conv => whnf) | (intro t ht; cases t <;> conv => whnf)
 all_goals refine fin ?_
 all_goals refine congrArg (fun n => AV.d (iD n)) ?_
 all_goals unfold pckI
 all_goals simp only [decide_eq_true_eq, decide_eq_false_iff_not] at *
 all_goals repeat' split
 all_goals first | rfl | (exfalso; omega)
theorem chk141 : chkFn Tryz.f141 = true := by kernel_rfl
def bothI (q r : Ps) : Int := if pckI q ≠ 0 then pckI q else if pckI r ≠ 0 then pckI r else if q.w ≠ r.w then 7 else 0
theorem both141 (q r : Ps) : PC Pr G 141 [q.d, r.d] (iD (bothI q r)) := by
 have hq := check111 (G := G) q
 have hr := check111 (G := G) r
 have hb : bothI q r = if pckI q ≠ 0 then pckI q else if pckI r ≠ 0 then pckI r else if q.w ≠ r.w then 7 else 0 := rfl
 generalize pckI q = a at hq hb
 generalize pckI r = b at hr hb
 rw [hb]
 refine pc_walk pok Tryz.func141 chk141 ?_
 conv => whnf
 repeat' first | ((first | refine LookP.mk _ rfl ?_ | refine pc_use hq ?_ | refine pc_use hr ?_); conv => whnf) | (intro t ht; cases t <;> conv => whnf)
 all_goals refine fin ?_
 all_goals refine congrArg (fun n => AV.d (iD n)) ?_
 all_goals (try simp only [decide_eq_true_eq, decide_eq_false_iff_not] at *)
 all_goals repeat' split
 all_goals first | rfl | (exfalso; omega) | (exfalso; simp at *; omega)
theorem chk157 : chkFn Tryz.f157 = true := by kernel_rfl
theorem letter157 (q : Ps) (d : D) (n : Int) (hn : 0 ≤ n) : PC Pr G 157 [.agg [iD q.w, iD q.x, iD q.z, iD q.p, d], iD n] (iD (letterI q.x q.z n)) := by
 refine pc_walk pok Tryz.func157 chk157 ?_
 conv => whnf
 have hx := bit01 q.x n
 have hz := bit01 q.z n
 have hl : letterI q.x q.z n = letterI q.x q.z n := rfl
 conv at hl => rhs; unfold letterI bitI
 rw [hl]
 repeat' first | ((first | refine LookP.mk _ rfl ?_ | refine ShlP.mk _ (by first | (simp only [List.set, over, List.take, List.drop, List.append_eq, List.nil_append, List.cons_append, List.length]; rfl) | rfl) ?_ | refine And.intro (by assumption) ?_ | fail); conv => whnf) | fail
 generalize iand .i64 (ishr .i64 q.x n) 1 = a at hx ⊢
 generalize iand .i64 (ishr .i64 q.z n) 1 = b at hz ⊢
 rcases hx with rfl | rfl <;> rcases hz with rfl | rfl
 all_goals refine And.intro (by decide) ?_
 all_goals conv => whnf
 repeat' first | ((first | refine LookP.mk _ rfl ?_ | refine HpP.force ?_); conv => whnf)
 all_goals exact fin rfl
theorem chk212 : chkFn Tryz.f212 = true := by kernel_rfl
def oneS (w n l : Int) : Ps := ⟨w, if l = 1 ∨ l = 2 then ishl .i64 1 n else 0, if l = 3 ∨ l = 2 then ishl .i64 1 n else 0, 0⟩
theorem one212 (w n l : Int) (hn : 0 ≤ n) : PC Pr G 212 [iD w, iD n, iD l] (oneS w n l).d := by
 refine pc_walk pok Tryz.func212 chk212 ?_
 conv => whnf
 repeat' first | ((first | refine LookP.mk _ rfl ?_ | refine ShlP.mk _ (by first | (simp only [List.set, over, List.take, List.drop, List.append_eq, List.nil_append, List.cons_append, List.length]; rfl) | rfl) ?_ | refine And.intro (by first | assumption | exact ⟨by kernel_rfl, rfl⟩ | decide | omega) ?_ | refine HpP.force ?_); conv => whnf) | (intro t ht; cases t <;> conv => whnf)
 all_goals refine fin ?_
 all_goals simp_all [oneS, Ps.l]
end Go.Tz
namespace Go.Tz
open Go Go.AL Go.Proofs
variable {G : Nat → Option (List D)}
theorem chk142 : chkFn Tryz.f142 = true := by kernel_rfl
def timI (x z x' z' n0 : Int) : Nat → Int × Int × Int
 | 0 => (0, 0, n0)
 | k + 1 => (ior .i64 (timI x z x' z' n0 k).1 (oneS 0 k (prd (letterI x z k) (letterI x' z' k)).1).x, ior .i64 (timI x z x' z' n0 k).2.1 (oneS 0 k (prd (letterI x z k) (letterI x' z' k)).1).z,
   iadd .i64 (timI x z x' z' n0 k).2.2 (prd (letterI x z k) (letterI x' z' k)).2)
def timS (q r : Ps) : Ps := ⟨q.w, (timI q.x q.z r.x r.z (iadd .i64 q.p r.p) q.w.toNat).1, (timI q.x q.z r.x r.z (iadd .i64 q.p r.p) q.w.toNat).2.1, (timI q.x q.z r.x r.z (iadd .i64 q.p r.p) q.w.toNat).2.2.tmod 4⟩
theorem tim_w : ∀ (l : List Ps) (q : Ps), (l.foldl timS q).w = q.w
 | [], _ => rfl
 | r :: l, q => tim_w l (timS q r)
theorem letter03 (x z n : Int) : 0 ≤ letterI x z n ∧ letterI x z n ≤ 3 := by
 unfold letterI; split <;> (try split) <;> (try split) <;> omega
theorem tim_snoc {l : List Ps} {i : Nat} (h : i < l.length) (q : Ps) : (l.take (i + 1)).foldl timS q = timS ((l.take i).foldl timS q) l[i] := by
 rw [take_snoc h, List.foldl_append]; rfl
theorem tim142 (q : Ps) (l : List Ps) (t : Bool) (hw : 0 ≤ q.w ∧ q.w ≤ 24) (hl : l.length ≤ 1000) : PC Pr G 142 [q.d, rowsD l t] (l.foldl timS q).d := by
 refine pc_walk pok Tryz.func142 chk142 ?_
 conv => whnf
 skip
 refine for_use pok (fun i => ⟨[(2, .ptr 0 4 0 0), (4, .ptr 1 4 0 0), (13, .d (rowsD l t)), (14, .d (iD (l.map Ps.l).length)), (15, .d (iD i))], [(0, some (.arr 4 [((l.take i).foldl timS q).l.map AV.d])), (1, some (.arr 4 [(Ps.l ⟨0, 0, 0, 0⟩).map AV.d]))], 2⟩) (l.length) (fun _ => True) (trivial) ?_ (by kernel_rfl) ?_ ?_
 ·refine keep_env (by first | exact Nat.zero_le _ | exact Nat.le_of_ble_eq_true rfl) ?_ ?_ trivial
  ·repeat' first | exact trivial | refine ⟨⟨by first | rfl | assumption, rfl⟩, ?_⟩
  ·repeat' first | exact trivial | refine ⟨⟨ltB rfl, _, rfl, by first | rfl | assumption, by first | exact below1 rfl | exact below_dblk _ _ _ | exact below_arr rfl⟩, ?_⟩
 ·intro i A_i h_i I_i N_i
  have e_i : iadd .i64 (i : Int) 1 = ((i + 1 : Nat) : Int) := iadd_nat (by first | omega | (simp at *; omega))
  have hpw := tim_w (l.take i) q
  have hsn := tim_snoc h_i q
  generalize (l.take i).foldl timS q = g at hpw hsn ⊢
  conv => whnf
  repeat' first | ((first | refine LookP.mk _ (by first | rfl | exact get_l h_i) ?_ | refine ShlP.mk _ (by first | (simp only [List.set, over, List.take, List.drop, List.append_eq, List.nil_append, List.cons_append, List.length]; rfl) | rfl) ?_ | refine And.intro (by first | assumption | exact ⟨by kernel_rfl, rfl⟩ | decide | omega) ?_ | refine HpP.force ?_); conv => whnf) | (intro t ht; cases t <;> conv => whnf)
  ·exfalso; simp at ht; omega
  refine for_use pok (fun k => ⟨[(2, .ptr 0 4 0 0), (4, .ptr 1 4 0 0), (7, .d (.fn 157 [.agg [iD g.w, iD g.x, iD g.z, iD g.p, .nilf]] [])), (8, .d (.fn 157 [.agg [iD l[i].w, iD l[i].x, iD l[i].z, iD l[i].p, .nilf]] [])), (9, .ptr 3 4 0 0), (13, .d (rowsD l t)), (14, .d (iD (l.map Ps.l).length)), (15, .d (iD i)), (34, .d (iD g.w)), (35, .d (iD k))], [(0, some (.arr 4 [g.l.map AV.d])), (1, some (.arr 4 [(Ps.l ⟨0, 0, 0, 0⟩).map AV.d])), (3, some (.arr 4 [[.d (iD g.w), .d (iD (timI g.x g.z l[i].x l[i].z (iadd .i64 g.p l[i].p) k).1), .d (iD (timI g.x g.z l[i].x l[i].z (iadd .i64 g.p l[i].p) k).2.1), .d (iD (timI g.x g.z l[i].x l[i].z (iadd .i64 g.p l[i].p) k).2.2)]]))], 4⟩) (g.w.toNat) (fun _ => True) (trivial) ?_ (by kernel_rfl) ?_ ?_
  ·refine keep_env (by first | exact Nat.zero_le _ | exact Nat.le_of_ble_eq_true rfl) ?_ ?_ trivial
   ·repeat' first | exact trivial | refine ⟨⟨by first | rfl | assumption, rfl⟩, ?_⟩
   ·repeat' first | exact trivial | refine ⟨⟨ltB rfl, _, rfl, by first | rfl | assumption, by first | exact below1 rfl | exact below_dblk _ _ _ | exact below_arr rfl⟩, ?_⟩
  ·intro k A_k h_k I_k N_k
   have e_k : iadd .i64 (k : Int) 1 = ((k + 1 : Nat) : Int) := iadd_nat (by first | omega | (simp at *; omega))
   have hk : 0 ≤ (k : Int) := by omega
   have hp := product_c (G := G) (letter03 g.x g.z k) (letter03 l[i].x l[i].z k)
   conv => whnf
   repeat' first | ((first | refine LookP.mk _ rfl ?_ | refine ShlP.mk _ (by first | (simp only [List.set, over, List.take, List.drop, List.append_eq, List.nil_append, List.cons_append, List.length]; rfl) | rfl) ?_ | refine And.intro (by first | assumption | exact ⟨by kernel_rfl, rfl⟩ | decide | omega) ?_ | refine pc_use (letter157 g .nilf k hk) ?_ | refine pc_use (letter157 l[i] .nilf k hk) ?_ | refine pc_use hp ?_ | refine pc_use (one212 _ _ _ hk) ?_ | refine HpP.force ?_); conv => whnf) | (intro t ht; cases t <;> conv => whnf)
   ·exfalso; simp at ht; omega
   refine N_k _ ?_ ?_
   ·first | trivial | assumption | omega
   ·refine keep_env (by first | exact Nat.zero_le _ | exact Nat.le_of_ble_eq_true rfl) ?_ ?_ trivial
    ·repeat' first | exact trivial | refine ⟨⟨by first | rfl | assumption | exact congrArg (fun n => AV.d (iD n)) e_k, rfl⟩, ?_⟩
    ·repeat' first | exact trivial | refine ⟨⟨ltB rfl, _, rfl, by first | rfl | assumption, by first | exact below1 rfl | exact below_dblk _ _ _ | exact below_arr rfl⟩, ?_⟩
  ·intro A_last I_last
   conv => whnf
   repeat' first | ((first | refine LookP.mk _ rfl ?_ | refine ShlP.mk _ (by first | (simp only [List.set, over, List.take, List.drop, List.append_eq, List.nil_append, List.cons_append, List.length]; rfl) | rfl) ?_ | refine And.intro (by first | assumption | exact ⟨by kernel_rfl, rfl⟩ | decide | omega) ?_ | refine HpP.force ?_); conv => whnf) | (intro t ht; cases t <;> conv => whnf)
   ·refine N_i _ ?_ ?_
    ·first | trivial | assumption | omega
    ·refine keep_env (by first | exact Nat.zero_le _ | exact Nat.le_of_ble_eq_true rfl) ?_ ?_ trivial
     ·repeat' first | exact trivial | refine ⟨⟨by first | rfl | assumption | exact congrArg (fun n => AV.d (iD n)) e_i, rfl⟩, ?_⟩
     ·repeat' first | exact trivial | refine ⟨⟨ltB rfl, _, rfl, by first | rfl | assumption | (rw [hsn]; rfl), by first | exact below1 rfl | exact below_dblk _ _ _ | exact below_arr rfl⟩, ?_⟩
   ·exfalso; simp at ht; omega
 ·intro A_last I_last
  conv => whnf
  repeat' first | ((first | refine LookP.mk _ rfl ?_ | refine ShlP.mk _ (by first | (simp only [List.set, over, List.take, List.drop, List.append_eq, List.nil_append, List.cons_append, List.length]; rfl) | rfl) ?_ | refine And.intro (by first | assumption | exact ⟨by kernel_rfl, rfl⟩ | decide | omega) ?_ | refine HpP.force ?_); conv => whnf) | (intro t ht; cases t <;> conv => whnf)
  ·rw [List.take_length]; exact fin rfl
  ·exfalso; simp at ht
theorem chk66 : chkFn Tryz.f66 = true := by kernel_rfl
def mul66 (q r : Ps) : D := .tup [if bothI q r = 0 then (timS q r).d else (Ps.d ⟨0, 0, 0, 0⟩), iD (bothI q r)]
theorem pck_w {q : Ps} (h : pckI q = 0) : 1 ≤ q.w ∧ q.w ≤ 12 := by
 unfold pckI at h
 split at h
 ·cases h
 ·omega
theorem both_w {q r : Ps} (h : bothI q r = 0) : 1 ≤ q.w ∧ q.w ≤ 12 := by
 unfold bothI at h
 split at h
 ·contradiction
 ·rename_i h1; exact pck_w (by simpa using h1)
theorem mul66_c (q r : Ps) : PC Pr G 66 [q.d, r.d] (mul66 q r) := by
 have hb := both141 (G := G) q r
 have hw := both_w (q := q) (r := r)
 unfold mul66
 generalize bothI q r = e at hb hw ⊢
 refine pc_walk pok Tryz.func66 chk66 ?_
 conv => whnf
 by_cases he : e = 0
 ·subst he
  have hw := hw rfl
  repeat' first | ((first | refine LookP.mk _ rfl ?_ | refine ShlP.mk _ (by first | (simp only [List.set, over, List.take, List.drop, List.append_eq, List.nil_append, List.cons_append, List.length]; rfl) | rfl) ?_ | refine pc_use hb ?_ | refine pc_givec (tim142 q [r] true ⟨by omega, by omega⟩ (by simp)) rfl ?_ | refine HpP.force ?_); conv => whnf) | (intro t ht; cases t <;> conv => whnf)
  ·exact fin rfl
  ·exact absurd ht (by decide)
 ·repeat' first | ((first | refine LookP.mk _ rfl ?_ | refine ShlP.mk _ (by first | (simp only [List.set, over, List.take, List.drop, List.append_eq, List.nil_append, List.cons_append, List.length]; rfl) | rfl) ?_ | refine pc_use hb ?_ | refine HpP.force ?_); conv => whnf) | (intro t ht; cases t <;> conv => whnf)
  ·exfalso; simp at ht; exact he ht
  ·rw [if_neg he]; exact fin rfl
theorem tail_rows (q : Ps) (l : List Ps) : List.take ((List.map Ps.l (q :: l)).length - Int.toNat 1) (List.drop (Int.toNat 1) (List.map Ps.l (q :: l))) = l.map Ps.l := by
 show List.take ((List.map Ps.l (q :: l)).length - 1) (List.drop 1 (List.map Ps.l (q :: l))) = _
 rw [List.map_cons, List.drop_one, List.tail_cons]
 exact List.take_of_length_le (by simp)
theorem chk183 : chkFn Tryz.f183 = true := by kernel_rfl
theorem times183 (q : Ps) (l : List Ps) (t : Bool) (hl : l.length ≤ 1000) (hv : ∀ i (h : i < l.length), bothI ((l.take i).foldl timS q) l[i] = 0) : PC Pr G 183 [rowsD (q :: l) t] (l.foldl timS q).d := by
 refine pc_walk pok Tryz.func183 chk183 ?_
 conv => whnf
 repeat' first | ((first | refine LookP.mk _ rfl ?_ | refine ShlP.mk _ (by first | (simp only [List.set, over, List.take, List.drop, List.append_eq, List.nil_append, List.cons_append, List.length]; rfl) | rfl) ?_ | refine And.intro (by first | exact ⟨by simp, Nat.le_refl _, rows_len _⟩ | assumption | exact ⟨by kernel_rfl, rfl⟩ | decide | omega) ?_ | refine HpP.force ?_); conv => whnf)
 refine for_use pok (fun i => ⟨[(2, .ptr 0 4 0 0), (3, .ptr 1 4 0 0), (10, .d (rowsD l t)), (11, .d (iD (l.map Ps.l).length)), (12, .d (iD i))], [(0, some (.arr 4 [(Ps.l ⟨0, 0, 0, 0⟩).map AV.d])), (1, some (.arr 4 [((l.take i).foldl timS q).l.map AV.d]))], 2⟩) (l.length) (fun _ => True) (trivial) ?_ (by kernel_rfl) ?_ ?_
 ·refine keep_env (by first | exact Nat.zero_le _ | exact Nat.le_of_ble_eq_true rfl) ?_ ?_ trivial
  ·repeat' first | exact trivial | refine ⟨⟨by first | rfl | assumption | (show AV.d (D.sl (List.take _ _) _) = AV.d (D.sl (l.map Ps.l) t); rw [tail_rows]; simp) | (show AV.d (D.int .i64 ((List.take _ _).length : Nat)) = _; rw [tail_rows]), rfl⟩, ?_⟩
  ·repeat' first | exact trivial | refine ⟨⟨ltB rfl, _, rfl, by first | rfl | assumption, by first | exact below1 rfl | exact below_dblk _ _ _ | exact below_arr rfl⟩, ?_⟩
 ·intro i A_i h_i I_i N_i
  have e_i : iadd .i64 (i : Int) 1 = ((i + 1 : Nat) : Int) := iadd_nat (by first | omega | (simp at *; omega))
  have hsn := tim_snoc h_i q
  have hb := hv i h_i
  have hm := mul66_c (G := G) ((l.take i).foldl timS q) l[i]
  unfold mul66 at hm
  rw [hb, if_pos rfl] at hm
  generalize (l.take i).foldl timS q = g at hsn hm ⊢
  conv => whnf
  repeat' first | ((first | refine LookP.mk _ (by first | rfl | exact get_l h_i) ?_ | refine ShlP.mk _ (by first | (simp only [List.set, over, List.take, List.drop, List.append_eq, List.nil_append, List.cons_append, List.length]; rfl) | rfl) ?_ | refine And.intro (by first | assumption | exact ⟨by kernel_rfl, rfl⟩ | decide | omega) ?_ | refine pc_use hm ?_ | refine HpP.force ?_); conv => whnf) | (intro t ht; cases t <;> conv => whnf)
  ·exfalso; simp at ht; omega
  ·refine N_i _ ?_ ?_
   ·first | trivial | assumption | omega
   ·refine keep_env (by first | exact Nat.zero_le _ | exact Nat.le_of_ble_eq_true rfl) ?_ ?_ trivial
    ·repeat' first | exact trivial | refine ⟨⟨by first | rfl | assumption | exact congrArg (fun n => AV.d (iD n)) e_i, rfl⟩, ?_⟩
    ·repeat' first | exact trivial | refine ⟨⟨ltB rfl, _, rfl, by first | rfl | assumption | (rw [hsn]; rfl), by first | exact below1 rfl | exact below_dblk _ _ _ | exact below_arr rfl⟩, ?_⟩
 ·intro A_last I_last
  conv => whnf
  repeat' first | ((first | refine LookP.mk _ rfl ?_ | refine ShlP.mk _ (by first | (simp only [List.set, over, List.take, List.drop, List.append_eq, List.nil_append, List.cons_append, List.length]; rfl) | rfl) ?_ | refine And.intro (by first | assumption | exact ⟨by kernel_rfl, rfl⟩ | decide | omega) ?_ | refine HpP.force ?_); conv => whnf) | (intro t ht; cases t <;> conv => whnf)
  ·rw [List.take_length]; exact fin rfl
  ·exfalso; simp at ht
end Go.Tz
namespace Go.Tz
open Go Go.AL Go.Ma
def mk (w X Z P : Nat) : Ps := ⟨w, X, Z, P⟩
def pop : Nat → Nat → Nat
 | 0, _ => 0
 | k + 1, n => pop k n + (n.testBit k).toNat
theorem pop_zero : ∀ k, pop k 0 = 0
 | 0 => rfl
 | k + 1 => by simp [pop, pop_zero k]
theorem pop_par (n : Nat) : ∀ k, parF k n = decide (pop k n % 2 = 1)
 | 0 => rfl
 | k + 1 => by
  simp only [parF, pop, pop_par n k]
  have key : ∀ (m : Nat) (t : Bool), (decide (m % 2 = 1) != t) = decide ((m + t.toNat) % 2 = 1) := by
   intro m t
   have : m % 2 = 0 ∨ m % 2 = 1 := by omega
   cases t
   ·simp
   ·rcases this with h | h
    ·simp [h, Nat.add_mod]
    ·simp [h, Nat.add_mod]
  exact key _ _
def ph (a b c d : Bool) : Nat := match a, b, c, d with
 | false, false, _, _ => 0
 | _, _, false, false => 0
 | true, false, true, false => 0
 | true, true, true, true => 0
 | false, true, false, true => 0
 | true, false, true, true => 1
 | true, true, false, true => 1
 | false, true, true, false => 1
 | true, true, true, false => 3
 | false, true, true, true => 3
 | true, false, false, true => 3
def phs (X Z X' Z' : Nat) : Nat → Nat
 | 0 => 0
 | k + 1 => phs X Z X' Z' k + ph (X.testBit k) (Z.testBit k) (X'.testBit k) (Z'.testBit k)
theorem phs_le (X Z X' Z' : Nat) : ∀ k, phs X Z X' Z' k ≤ 3 * k
 | 0 => Nat.le_refl _
 | k + 1 => by
  have := phs_le X Z X' Z' k
  have : ph (X.testBit k) (Z.testBit k) (X'.testBit k) (Z'.testBit k) ≤ 3 := by
   cases X.testBit k <;> cases Z.testBit k <;> cases X'.testBit k <;> cases Z'.testBit k <;> decide
  simp only [phs]; omega
theorem phs_law (X Z X' Z' : Nat) : ∀ k, (phs X Z X' Z' k + pop k ((X ^^^ X') &&& (Z ^^^ Z'))) % 4 = (pop k (X &&& Z) + pop k (X' &&& Z') + 2 * pop k (Z &&& X')) % 4
 | 0 => rfl
 | k + 1 => by
  have ih := phs_law X Z X' Z' k
  simp only [phs, pop, Nat.testBit_and, Nat.testBit_xor]
  revert ih
  generalize phs X Z X' Z' k = a
  generalize pop k ((X ^^^ X') &&& (Z ^^^ Z')) = b
  generalize pop k (X &&& Z) = c
  generalize pop k (X' &&& Z') = d
  generalize pop k (Z &&& X') = e
  intro ih
  cases X.testBit k <;> cases Z.testBit k <;> cases X'.testBit k <;> cases Z'.testBit k <;> simp [ph] <;> omega
theorem phs_stop {w X Z X' Z' : Nat} (h1 : X < 2 ^ w) (h2 : Z < 2 ^ w) : ∀ d, phs X Z X' Z' (w + d) = phs X Z X' Z' w
 | 0 => rfl
 | d + 1 => by
  show phs X Z X' Z' (w + d) + ph (X.testBit (w + d)) (Z.testBit (w + d)) (X'.testBit (w + d)) (Z'.testBit (w + d)) = _
  have e : ∀ n, n < 2 ^ w → n.testBit (w + d) = false := fun n h => Nat.testBit_lt_two_pow (Nat.lt_of_lt_of_le h (Nat.pow_le_pow_right (by decide) (by omega)))
  rw [phs_stop h1 h2 d, e X h1, e Z h2]; rfl
theorem letter_nat {X Z k : Nat} (hX : X < 4096) (hZ : Z < 4096) (hk : k ≤ 64) : letterI X Z k = if X.testBit k && Z.testBit k then 2 else if X.testBit k then 1 else if Z.testBit k then 3 else 0 := by
 unfold letterI bitI
 rw [bit_nat hk (by omega), bit_nat hk (by omega)]
 cases X.testBit k <;> cases Z.testBit k <;> simp
theorem mod_succ (A k : Nat) : A % 2 ^ (k + 1) = A % 2 ^ k + 2 ^ k * (A.testBit k).toNat := by
 rw [Nat.pow_succ, Nat.mod_mul, Nat.testBit_eq_decide_div_mod_eq]
 have : A / 2 ^ k % 2 = 0 ∨ A / 2 ^ k % 2 = 1 := by omega
 rcases this with h | h <;> simp [h]
theorem with_nat {A B k l : Nat} (hk : k ≤ 12) (_hA : A < 4096) (_hB : B < 4096) : withI ((A % 2 ^ k : Nat) : Int) ((B % 2 ^ k : Nat) : Int) k l = (((A % 2 ^ k + (if l = 1 ∨ l = 2 then 2 ^ k else 0) : Nat) : Int), ((B % 2 ^ k + (if l = 2 ∨ l = 3 then 2 ^ k else 0) : Nat) : Int)) := by
 have hp : (2 : Nat) ^ k ≤ 2 ^ 12 := Nat.pow_le_pow_right (by decide) hk
 have h1 : A % 2 ^ k < 2 ^ k := Nat.mod_lt _ (Nat.two_pow_pos k)
 have h2 : B % 2 ^ k < 2 ^ k := Nat.mod_lt _ (Nat.two_pow_pos k)
 have b1 : (A % 2 ^ k).testBit k = false := Nat.testBit_lt_two_pow h1
 have b2 : (B % 2 ^ k).testBit k = false := Nat.testBit_lt_two_pow h2
 have hl : letterI ((A % 2 ^ k : Nat) : Int) ((B % 2 ^ k : Nat) : Int) k = 0 := by
  rw [letter_nat (by omega) (by omega) (by omega), b1, b2]; rfl
 have hb : bitI ((B % 2 ^ k : Nat) : Int) k = 0 := by
  unfold bitI; rw [bit_nat (by omega) (by omega), b2]; rfl
 unfold withI
 rw [hl, hb]
 have hs : ishl .i64 1 (k : Int) = ((2 ^ k : Nat) : Int) := pow_nat (by omega)
 have e1 : iadd .i64 ((A % 2 ^ k : Nat) : Int) ((2 ^ k : Nat) : Int) = ((A % 2 ^ k + 2 ^ k : Nat) : Int) := iadd_nat (by omega)
 have e2 : iadd .i64 ((B % 2 ^ k : Nat) : Int) ((2 ^ k : Nat) : Int) = ((B % 2 ^ k + 2 ^ k : Nat) : Int) := iadd_nat (by omega)
 have c1 : ((l : Int) = 1 ∨ (l : Int) = 2) ↔ (l = 1 ∨ l = 2) := by omega
 have c2 : ((l : Int) = 2 ∨ (l : Int) = 3) ↔ (l = 2 ∨ l = 3) := by omega
 dsimp only
 have d1 : ¬ ((0 : Int) = 1 ∨ (0 : Int) = 2) := by decide
 have d2 : ¬ (0 : Int) = 1 := by decide
 rw [if_neg d1, if_neg d2, hs, e1, e2]
 simp only [c1, c2]
 refine Prod.ext ?_ ?_
 ·dsimp only; split <;> rfl
 ·dsimp only; split <;> rfl
def lt (a b c d : Bool) : Nat := match a != c, b != d with
 | true, true => 2
 | true, false => 1
 | false, true => 3
 | false, false => 0
theorem turn_nat (a b c d : Bool) : turnI (if a && b then 2 else if a then 1 else if b then 3 else 0) (if c && d then 2 else if c then 1 else if d then 3 else 0) = (((ph a b c d : Nat) : Int), ((lt a b c d : Nat) : Int)) := by
 cases a <;> cases b <;> cases c <;> cases d <;> decide
theorem prd_nat (a b c d : Bool) : prd (if a && b then 2 else if a then 1 else if b then 3 else 0) (if c && d then 2 else if c then 1 else if d then 3 else 0) = (((lt a b c d : Nat) : Int), ((ph a b c d : Nat) : Int)) := by
 cases a <;> cases b <;> cases c <;> cases d <;> decide
theorem lt12 (a b c d : Bool) : (lt a b c d = 1 ∨ lt a b c d = 2) ↔ (a != c) = true := by
 cases a <;> cases b <;> cases c <;> cases d <;> decide
theorem lt23 (a b c d : Bool) : (lt a b c d = 2 ∨ lt a b c d = 3) ↔ (b != d) = true := by
 cases a <;> cases b <;> cases c <;> cases d <;> decide
theorem mulI_nat {X Z X' Z' n0 : Nat} (h1 : X < 4096) (h2 : Z < 4096) (h3 : X' < 4096) (h4 : Z' < 4096) (hn : n0 ≤ 100) : ∀ {k : Nat}, k ≤ 12 →
  mulI X Z X' Z' n0 k = ((((X ^^^ X') % 2 ^ k : Nat) : Int), (((Z ^^^ Z') % 2 ^ k : Nat) : Int), ((n0 + phs X Z X' Z' k : Nat) : Int))
 | 0, _ => by simp [mulI, phs, Nat.mod_one]
 | k + 1, hk => by
  have ih := mulI_nat h1 h2 h3 h4 hn (k := k) (by omega)
  have hx : X ^^^ X' < 4096 := Nat.xor_lt_two_pow (n := 12) h1 h3
  have hz : Z ^^^ Z' < 4096 := Nat.xor_lt_two_pow (n := 12) h2 h4
  have hp := phs_le X Z X' Z' k
  have hph : ph (X.testBit k) (Z.testBit k) (X'.testBit k) (Z'.testBit k) ≤ 3 := by
   cases X.testBit k <;> cases Z.testBit k <;> cases X'.testBit k <;> cases Z'.testBit k <;> decide
  simp only [mulI, ih, letter_nat h1 h2 (show k ≤ 64 by omega), letter_nat h3 h4 (show k ≤ 64 by omega), turn_nat]
  rw [with_nat (by omega) hx hz, iadd_nat (by omega)]
  refine Prod.ext ?_ (Prod.ext ?_ ?_)
  ·show ((_ : Nat) : Int) = ((_ : Nat) : Int)
   rw [mod_succ, Nat.testBit_xor]
   simp only [lt12]
   cases X.testBit k <;> cases X'.testBit k <;> simp
  ·show ((_ : Nat) : Int) = ((_ : Nat) : Int)
   rw [mod_succ, Nat.testBit_xor]
   simp only [lt23]
   cases Z.testBit k <;> cases Z'.testBit k <;> simp
  ·show ((_ : Nat) : Int) = ((_ : Nat) : Int)
   simp only [phs]; rw [Nat.add_assoc]
theorem timI_nat {X Z X' Z' n0 : Nat} (h1 : X < 4096) (h2 : Z < 4096) (h3 : X' < 4096) (h4 : Z' < 4096) (hn : n0 ≤ 100) : ∀ {k : Nat}, k ≤ 12 →
  timI X Z X' Z' n0 k = ((((X ^^^ X') % 2 ^ k : Nat) : Int), (((Z ^^^ Z') % 2 ^ k : Nat) : Int), ((n0 + phs X Z X' Z' k : Nat) : Int))
 | 0, _ => by simp [timI, phs, Nat.mod_one]
 | k + 1, hk => by
  have ih := timI_nat h1 h2 h3 h4 hn (k := k) (by omega)
  have hx : X ^^^ X' < 4096 := Nat.xor_lt_two_pow (n := 12) h1 h3
  have hz : Z ^^^ Z' < 4096 := Nat.xor_lt_two_pow (n := 12) h2 h4
  have hp := phs_le X Z X' Z' k
  have hph : ph (X.testBit k) (Z.testBit k) (X'.testBit k) (Z'.testBit k) ≤ 3 := by
   cases X.testBit k <;> cases Z.testBit k <;> cases X'.testBit k <;> cases Z'.testBit k <;> decide
  have hp2 : (2 : Nat) ^ k ≤ 2 ^ 12 := Nat.pow_le_pow_right (by decide) (by omega)
  have or_eq : ∀ (A : Nat) (t : Bool), A < 4096 → ior .i64 ((A % 2 ^ k : Nat) : Int) (if t = true then ishl .i64 1 (k : Int) else 0) = ((A % 2 ^ k + 2 ^ k * t.toNat : Nat) : Int) := by
   intro A t hA
   have hlt : A % 2 ^ k < 2 ^ k := Nat.mod_lt _ (Nat.two_pow_pos k)
   cases t with
   | true =>
    rw [if_pos rfl, pow_nat (by omega), ior_nat (by omega) (by omega)]
    have := Nat.two_pow_add_eq_or_of_lt hlt 1
    rw [Nat.mul_one] at this
    rw [Nat.or_comm, ← this, Nat.add_comm]; simp
   | false =>
    rw [if_neg (by simp)]
    have := ior_nat (a := A % 2 ^ k) (b := 0) (by omega) (by decide)
    rw [show ((0 : Nat) : Int) = 0 from rfl] at this
    rw [this]; simp
  have one_x : ∀ l : Nat, (oneS 0 (k : Int) (l : Int)).x = if (decide (l = 1 ∨ l = 2)) = true then ishl .i64 1 (k : Int) else 0 := by
   intro l
   show (if (l : Int) = 1 ∨ (l : Int) = 2 then _ else _) = _
   have c1 : ((l : Int) = 1 ∨ (l : Int) = 2) ↔ (l = 1 ∨ l = 2) := by omega
   simp only [c1, decide_eq_true_eq]
  have one_z : ∀ l : Nat, (oneS 0 (k : Int) (l : Int)).z = if (decide (l = 2 ∨ l = 3)) = true then ishl .i64 1 (k : Int) else 0 := by
   intro l
   show (if (l : Int) = 3 ∨ (l : Int) = 2 then _ else _) = _
   have c1 : ((l : Int) = 3 ∨ (l : Int) = 2) ↔ (l = 2 ∨ l = 3) := by omega
   simp only [c1, decide_eq_true_eq]
  simp only [timI, ih, letter_nat h1 h2 (show k ≤ 64 by omega), letter_nat h3 h4 (show k ≤ 64 by omega), prd_nat]
  rw [iadd_nat (by omega), one_x, one_z, or_eq _ _ hx, or_eq _ _ hz]
  refine Prod.ext ?_ (Prod.ext ?_ ?_)
  ·show ((_ : Nat) : Int) = ((_ : Nat) : Int)
   rw [mod_succ, Nat.testBit_xor]
   simp only [lt12]
   cases X.testBit k <;> cases X'.testBit k <;> simp
  ·show ((_ : Nat) : Int) = ((_ : Nat) : Int)
   rw [mod_succ, Nat.testBit_xor]
   simp only [lt23]
   cases Z.testBit k <;> cases Z'.testBit k <;> simp
  ·show ((_ : Nat) : Int) = ((_ : Nat) : Int)
   simp only [phs]; rw [Nat.add_assoc]
def Vl (w : Nat) (q : Ps) : Prop := ∃ X Z P : Nat, q = mk w X Z P ∧ X < 2 ^ w ∧ Z < 2 ^ w ∧ P < 4
theorem mulS_mk {w X Z P X' Z' P' : Nat} (hw : w ≤ 12) (h1 : X < 2 ^ w) (h2 : Z < 2 ^ w) (h3 : X' < 2 ^ w) (h4 : Z' < 2 ^ w) (hP : P < 4) (hP' : P' < 4) :
  mulS (mk w X Z P) (mk w X' Z' P') = mk w (X ^^^ X') (Z ^^^ Z') ((P + P' + phs X Z X' Z' w) % 4) := by
 have hp : (2 : Nat) ^ w ≤ 2 ^ 12 := Nat.pow_le_pow_right (by decide) hw
 have e0 : iadd .i64 (P : Int) (P' : Int) = ((P + P' : Nat) : Int) := iadd_nat (by omega)
 unfold mulS mk
 dsimp only
 rw [Int.toNat_natCast, e0, mulI_nat (by omega) (by omega) (by omega) (by omega) (by omega) hw]
 rw [Nat.mod_eq_of_lt (Nat.xor_lt_two_pow h1 h3), Nat.mod_eq_of_lt (Nat.xor_lt_two_pow h2 h4)]
 simp only [Ps.mk.injEq, true_and]
 rw [Int.tmod_eq_emod_of_nonneg (by omega)]
 rfl
theorem timS_mk {w X Z P X' Z' P' : Nat} (hw : w ≤ 12) (h1 : X < 2 ^ w) (h2 : Z < 2 ^ w) (h3 : X' < 2 ^ w) (h4 : Z' < 2 ^ w) (hP : P < 4) (hP' : P' < 4) :
  timS (mk w X Z P) (mk w X' Z' P') = mk w (X ^^^ X') (Z ^^^ Z') ((P + P' + phs X Z X' Z' w) % 4) := by
 have hp : (2 : Nat) ^ w ≤ 2 ^ 12 := Nat.pow_le_pow_right (by decide) hw
 have e0 : iadd .i64 (P : Int) (P' : Int) = ((P + P' : Nat) : Int) := iadd_nat (by omega)
 unfold timS mk
 dsimp only
 rw [Int.toNat_natCast, e0, timI_nat (by omega) (by omega) (by omega) (by omega) (by omega) hw]
 rw [Nat.mod_eq_of_lt (Nat.xor_lt_two_pow h1 h3), Nat.mod_eq_of_lt (Nat.xor_lt_two_pow h2 h4)]
 simp only [Ps.mk.injEq, true_and]
 rw [Int.tmod_eq_emod_of_nonneg (by omega)]
 rfl
theorem tim_mul {w : Nat} {q r : Ps} (hw : w ≤ 12) (hq : Vl w q) (hr : Vl w r) : timS q r = mulS q r := by
 obtain ⟨X, Z, P, rfl, h1, h2, h3⟩ := hq
 obtain ⟨X', Z', P', rfl, h4, h5, h6⟩ := hr
 rw [timS_mk hw h1 h2 h4 h5 h3 h6, mulS_mk hw h1 h2 h4 h5 h3 h6]
theorem mul_vl {w : Nat} {q r : Ps} (hw : w ≤ 12) (hq : Vl w q) (hr : Vl w r) : Vl w (mulS q r) := by
 obtain ⟨X, Z, P, rfl, h1, h2, h3⟩ := hq
 obtain ⟨X', Z', P', rfl, h4, h5, h6⟩ := hr
 rw [mulS_mk hw h1 h2 h4 h5 h3 h6]
 exact ⟨_, _, _, rfl, Nat.xor_lt_two_pow h1 h4, Nat.xor_lt_two_pow h2 h5, Nat.mod_lt _ (by decide)⟩
theorem vl_w {w : Nat} {q : Ps} (h : Vl w q) : q.w = w := by obtain ⟨X, Z, P, rfl, _⟩ := h; rfl
def nf (q : Ps) : E := ((q.p.toNat + pop 12 (q.x.toNat &&& q.z.toNat)) % 4, q.x.toNat + 4096 * q.z.toNat)
theorem nf_mk (w X Z P : Nat) : nf (mk w X Z P) = ((P + pop 12 (X &&& Z)) % 4, X + 4096 * Z) := by simp [nf, mk]
theorem vec_bit {X Z : Nat} (hX : X < 4096) (j : Nat) : (X + 4096 * Z).testBit j = if j < 12 then X.testBit j else Z.testBit (j - 12) := by
 have := Nat.testBit_two_pow_mul_add Z (show X < 2 ^ 12 from hX) j
 rw [Nat.add_comm]; exact this
theorem vec_xor {X Z X' Z' : Nat} (h1 : X < 4096) (h2 : X' < 4096) : (X + 4096 * Z) ^^^ (X' + 4096 * Z') = (X ^^^ X') + 4096 * (Z ^^^ Z') := by
 refine Nat.eq_of_testBit_eq fun j => ?_
 rw [Nat.testBit_xor, vec_bit h1, vec_bit h2, vec_bit (Nat.xor_lt_two_pow (n := 12) h1 h2)]
 split <;> rw [Nat.testBit_xor]
theorem vec_bt {X Z X' Z' : Nat} (h1 : X < 4096) (_h2 : X' < 4096) : bt (X + 4096 * Z) (X' + 4096 * Z') = decide (pop 12 (Z &&& X') % 2 = 1) := by
 rw [← pop_par]
 unfold bt
 have e : (X + 4096 * Z) >>> 12 = Z := by
  rw [Nat.shiftRight_eq_div_pow]
  show (X + 4096 * Z) / 4096 = Z
  omega
 rw [e]
 have : ∀ k, k ≤ 12 → parF k (Z &&& (X' + 4096 * Z')) = parF k (Z &&& X') := by
  intro k
  induction k with
  | zero => intro _; rfl
  | succ k ih =>
   intro hk
   simp only [parF, ih (by omega), Nat.testBit_and]
   rw [vec_bit _h2, if_pos (by omega)]
 exact this 12 (Nat.le_refl _)
theorem nf_mul {w : Nat} {q r : Ps} (hw : w ≤ 12) (hq : Vl w q) (hr : Vl w r) : nf (mulS q r) = emul (nf q) (nf r) := by
 obtain ⟨X, Z, P, rfl, h1, h2, h3⟩ := hq
 obtain ⟨X', Z', P', rfl, h4, h5, h6⟩ := hr
 have hp : (2 : Nat) ^ w ≤ 2 ^ 12 := Nat.pow_le_pow_right (by decide) hw
 rw [mulS_mk hw h1 h2 h4 h5 h3 h6]
 simp only [nf_mk, emul]
 refine e_ext ?_ ?_
 ·dsimp only
  rw [vec_bt (by omega) (by omega)]
  have hl := phs_law X Z X' Z' 12
  have hs := phs_stop (X' := X') (Z' := Z') h1 h2 (12 - w)
  rw [show w + (12 - w) = 12 by omega] at hs
  rw [hs] at hl
  have hb : (decide (pop 12 (Z &&& X') % 2 = 1)).toNat = pop 12 (Z &&& X') % 2 := by
   have : pop 12 (Z &&& X') % 2 = 0 ∨ pop 12 (Z &&& X') % 2 = 1 := by omega
   rcases this with h | h <;> simp [h]
  rw [hb]
  omega
 ·dsimp only
  rw [vec_xor (by omega) (by omega)]
theorem nf_inj {w : Nat} {q r : Ps} (hw : w ≤ 12) (hq : Vl w q) (hr : Vl w r) (h : nf q = nf r) : q = r := by
 obtain ⟨X, Z, P, rfl, h1, h2, h3⟩ := hq
 obtain ⟨X', Z', P', rfl, h4, h5, h6⟩ := hr
 have hp : (2 : Nat) ^ w ≤ 2 ^ 12 := Nat.pow_le_pow_right (by decide) hw
 rw [nf_mk, nf_mk, Prod.mk.injEq] at h
 obtain ⟨e1, e2⟩ := h
 have eX : X = X' := by omega
 have eZ : Z = Z' := by omega
 subst eX eZ
 have : P = P' := by omega
 subst this; rfl
theorem nf_lt (q : Ps) : (nf q).1 < 4 := Nat.mod_lt _ (by decide)
theorem com_iff {w : Nat} {q r : Ps} (hw : w ≤ 12) (hq : Vl w q) (hr : Vl w r) : mulS q r = mulS r q ↔ ecom (nf q) (nf r) := by
 constructor
 ·intro h
  have h1 := congrArg nf h
  rw [nf_mul hw hq hr, nf_mul hw hr hq] at h1
  have h2 := congrArg Prod.fst h1
  simp only [emul] at h2
  unfold ecom
  cases e1 : bt (nf q).2 (nf r).2 <;> cases e2 : bt (nf r).2 (nf q).2 <;> rw [e1, e2] at h2 <;> simp at h2 ⊢ <;> omega
 ·intro h
  refine nf_inj hw (mul_vl hw hq hr) (mul_vl hw hr hq) ?_
  rw [nf_mul hw hq hr, nf_mul hw hr hq, emul_comm h]
end Go.Tz
namespace Go.Tz
open Go Go.AL Go.Proofs Go.Ma
variable {G : Nat → Option (List D)}
def oc1 (n : Int) : Int := iadd .u64 (iand .u64 (ishr .u64 n 1) 6148914691236517205) (iand .u64 n 6148914691236517205)
def oc2 (n : Int) : Int := iadd .u64 (iand .u64 (ishr .u64 n 2) 3689348814741910323) (iand .u64 n 3689348814741910323)
def oc3 (n : Int) : Int := iand .u64 (iadd .u64 (ishr .u64 n 4) n) 1085102592571150095
def ocs (k n : Int) : Int := iadd .u64 n (ishr .u64 n k)
def ocI (n : Int) : Int := iand .i64 (IntKind.i64.wrap (ocs 32 (ocs 16 (ocs 8 (oc3 (oc2 (oc1 n))))))) 127
theorem chk245 : chkFn Tryz.f245 = true := by kernel_rfl
theorem ones245 (n : Int) : PC Pr G 245 [.int .u64 n] (iD (ocI n)) := by
 refine pc_walk pok Tryz.func245 chk245 ?_
 conv => whnf
 repeat' first | ((first | refine And.intro (by first | assumption | exact ⟨by kernel_rfl, rfl⟩ | decide | omega) ?_ | fail); conv => whnf) | fail
 exact fin rfl
theorem chk187 : chkFn Tryz.f187 = true := by kernel_rfl
theorem ones187 (n : Int) : PC Pr G 187 [.int .u64 n] (iD (ocI n)) := by
 refine pc_walk pok Tryz.func187 chk187 ?_
 conv => whnf
 repeat' first | (refine pc_use (ones245 n) ?_; conv => whnf)
 exact fin rfl
theorem oc_all : ((List.range 4096).all fun n => decide (ocI n = pop 12 n)) = true := by kernel_rfl
theorem oc_nat {n : Nat} (h : n < 4096) : ocI n = pop 12 n := by
 have := List.all_eq_true.1 oc_all n (List.mem_range.2 h)
 exact of_decide_eq_true this
theorem wrapu {n : Nat} (h : n < 2 ^ 63) : IntKind.u64.wrap (n : Int) = n := by
 have : IntKind.u64.wrap (n : Int) = (n : Int) % 18446744073709551616 := by simp [IntKind.wrap, IntKind.bits, IntKind.signed]
 rw [this]; omega
theorem chk143 : chkFn Tryz.f143 = true := by kernel_rfl
def antiI (q r : Ps) : Bool := (iadd .i64 (ocI (IntKind.u64.wrap (iand .i64 q.x r.z))) (ocI (IntKind.u64.wrap (iand .i64 q.z r.x)))).tmod 2 == 1
theorem anti143 (q r : Ps) : PC Pr G 143 [q.d, r.d] (.bool (antiI q r)) := by
 have h1 := ones187 (G := G) (IntKind.u64.wrap (iand .i64 q.x r.z))
 have h2 := ones187 (G := G) (IntKind.u64.wrap (iand .i64 q.z r.x))
 unfold antiI
 generalize ocI (IntKind.u64.wrap (iand .i64 q.x r.z)) = a at h1 ⊢
 generalize ocI (IntKind.u64.wrap (iand .i64 q.z r.x)) = b at h2 ⊢
 refine pc_walk pok Tryz.func143 chk143 ?_
 conv => whnf
 repeat' first | ((first | refine LookP.mk _ rfl ?_ | refine And.intro (by first | assumption | exact ⟨by kernel_rfl, rfl⟩ | decide | omega) ?_ | refine pc_head h1 ?_ | refine pc_head h2 ?_ | refine HpP.force ?_); conv => whnf) | (intro t ht; cases t <;> conv => whnf)
 all_goals rw [ht]; exact fin rfl
def comV (q r : Ps) : Bool := !cm (nf q).2 (nf r).2
theorem anti_com {w : Nat} {q r : Ps} (hw : w ≤ 12) (hq : Vl w q) (hr : Vl w r) : antiI q r = !comV q r := by
 obtain ⟨X, Z, P, rfl, h1, h2, h3⟩ := hq
 obtain ⟨X', Z', P', rfl, h4, h5, h6⟩ := hr
 have hp : (2 : Nat) ^ w ≤ 2 ^ 12 := Nat.pow_le_pow_right (by decide) hw
 unfold antiI comV cm
 rw [nf_mk, nf_mk, vec_bt (by omega) (by omega), vec_bt (by omega) (by omega)]
 have a1 : X &&& Z' < 4096 := Nat.lt_of_le_of_lt Nat.and_le_left (by omega)
 have a2 : Z &&& X' < 4096 := Nat.lt_of_le_of_lt Nat.and_le_left (by omega)
 show ((iadd .i64 (ocI (IntKind.u64.wrap (iand .i64 (X : Int) (Z' : Int)))) (ocI (IntKind.u64.wrap (iand .i64 (Z : Int) (X' : Int))))).tmod 2 == 1) = _
 rw [iand_nat (by omega) (by omega), iand_nat (by omega) (by omega), wrapu (by omega), wrapu (by omega), oc_nat a1, oc_nat a2]
 have pl : ∀ (k n : Nat), pop k n ≤ k := by
  intro k n
  induction k with
  | zero => exact Nat.le_refl _
  | succ k ih => have : (n.testBit k).toNat ≤ 1 := Bool.toNat_le _; simp only [pop]; omega
 have p1 := pl 12 (X &&& Z')
 have p2 := pl 12 (Z &&& X')
 rw [iadd_nat (by omega), Nat.and_comm Z' X, Int.tmod_eq_emod_of_nonneg (by omega)]
 revert p1 p2
 generalize pop 12 (X &&& Z') = a
 generalize pop 12 (Z &&& X') = b
 intro p1 p2
 have e1 : a % 2 = 0 ∨ a % 2 = 1 := by omega
 have e2 : b % 2 = 0 ∨ b % 2 = 1 := by omega
 have e3 : ((((a + b : Nat) : Int) % 2 == 1) = decide ((a + b) % 2 = 1)) := by
  rw [Bool.eq_iff_iff]; simp; omega
 rw [e3]
 rcases e1 with e1 | e1 <;> rcases e2 with e2 | e2 <;> simp [e1, e2, Nat.add_mod]
theorem chk68 : chkFn Tryz.f68 = true := by kernel_rfl
theorem commute68 (q r : Ps) (h0 : bothI q r = 0) : PC Pr G 68 [q.d, r.d] (.tup [.bool (!antiI q r), iD 0]) := by
 have hb := both141 (G := G) q r
 rw [h0] at hb
 have ha := anti143 (G := G) q r
 refine pc_walk pok Tryz.func68 chk68 ?_
 conv => whnf
 repeat' first | ((first | refine LookP.mk _ rfl ?_ | refine pc_use hb ?_); conv => whnf) | (refine pc_useB ha ?_) | (intro t ht; cases t <;> conv => whnf)
 ·rw [ht]; exact fin rfl
 ·rw [ht]; exact fin rfl
 ·exact absurd ht (by decide)
theorem pck_vl {w : Nat} {q : Ps} (hw : 1 ≤ w ∧ w ≤ 12) (h : Vl w q) : pckI q = 0 := by
 obtain ⟨X, Z, P, rfl, h1, h2, h3⟩ := h
 unfold pckI mk
 dsimp only
 rw [pow_nat (by omega), if_neg (by omega), if_neg (by omega), if_neg (by omega)]
theorem both_vl {w : Nat} {q r : Ps} (hw : 1 ≤ w ∧ w ≤ 12) (h : Vl w q) (h' : Vl w r) : bothI q r = 0 := by
 unfold bothI
 rw [pck_vl hw h, pck_vl hw h', if_neg (by decide), if_neg (by decide), vl_w h, vl_w h', if_neg (by simp)]
theorem commute68v {w : Nat} {q r : Ps} (hw : 1 ≤ w ∧ w ≤ 12) (hq : Vl w q) (hr : Vl w r) : PC Pr G 68 [q.d, r.d] (.tup [.bool (comV q r), iD 0]) := by
 have := commute68 (G := G) q r (both_vl hw hq hr)
 rw [anti_com hw.2 hq hr, Bool.not_not] at this
 exact this
theorem com_mul {w : Nat} {q r : Ps} (hw : w ≤ 12) (hq : Vl w q) (hr : Vl w r) : decide (mulS q r = mulS r q) = comV q r := by
 rw [Bool.eq_iff_iff, decide_eq_true_eq, com_iff hw hq hr, cm_ecom]
 unfold comV
 cases cm (nf q).2 (nf r).2 <;> simp
theorem times183v {w : Nat} (hw : 1 ≤ w ∧ w ≤ 12) (q : Ps) (l : List Ps) (t : Bool) (hl : l.length ≤ 1000) (hq : Vl w q) (hv : ∀ r, r ∈ l → Vl w r) : PC Pr G 183 [rowsD (q :: l) t] (l.foldl mulS q).d := by
 have key : ∀ (l : List Ps) (q : Ps), Vl w q → (∀ r, r ∈ l → Vl w r) → l.foldl timS q = l.foldl mulS q ∧ Vl w (l.foldl mulS q) := by
  intro l
  induction l with
  | nil => exact fun q hq _ => ⟨rfl, hq⟩
  | cons r l ih =>
   intro q hq hv
   have hr := hv r (by simp)
   simp only [List.foldl_cons, tim_mul hw.2 hq hr]
   exact ih _ (mul_vl hw.2 hq hr) fun s hs => hv s (List.mem_cons_of_mem _ hs)
 rw [← (key l q hq hv).1]
 refine times183 q l t hl fun i h => both_vl hw ?_ (hv _ (List.getElem_mem h))
 have hv' : ∀ r, r ∈ l.take i → Vl w r := fun r hr => hv r (List.mem_of_mem_take hr)
 rw [(key (l.take i) q hq hv').1]
 exact (key (l.take i) q hq hv').2
end Go.Tz
namespace Go.Tz
open Go Go.AL Go.Proofs
variable {G : Nat → Option (List D)}
theorem map_app3 (a b c : List D) : (a ++ b ++ c).map AV.d = a.map AV.d ++ b.map AV.d ++ c.map AV.d := by rw [List.map_append, List.map_append]
theorem pc_use3B {f : FuncId} {x y z : List D} {b : Bool} {args : List AV} {H : AHeap} {nx : Nat} {k : AV → AHeap → Nat → Prop} (h : PC Pr G f (x ++ y ++ z) (.bool b)) (e : args = y.map .d) (hk : ∀ t, b = t → k (.d (.bool t)) H nx) : CallVC Pr G f (x.map .d ++ args ++ z.map .d) H nx k := by
 subst e; rw [← map_app3]; exact pc_useB h hk
def idxI {α : Type} (p : α → Bool) (l : List α) : Int := match l.findIdx? p with
 | some i => i
 | none => -1
theorem idxI_some {α : Type} {p : α → Bool} {l : List α} {i : Nat} (h : i < l.length) (h1 : p l[i] = true) (h2 : ∀ q, q ∈ l.take i → p q = false) : idxI p l = i := by
 have : l.findIdx? p = some i := by
  rw [List.findIdx?_eq_some_iff_getElem]
  refine ⟨h, h1, fun j hj => ?_⟩
  have := h2 l[j] (List.mem_take_iff_getElem.2 ⟨j, by omega, rfl⟩)
  simpa using this
 unfold idxI; rw [this]
theorem idxI_none {α : Type} {p : α → Bool} {l : List α} (h : ∀ q, q ∈ l → p q = false) : idxI p l = -1 := by
 have : l.findIdx? p = none := by
  rw [List.findIdx?_eq_none_iff]; exact h
 unfold idxI; rw [this]
theorem idxI_ge {α : Type} {p : α → Bool} {l : List α} : decide (idxI p l ≥ 0) = l.any p := by
 unfold idxI
 cases h : l.findIdx? p with
 | none =>
  have := List.findIdx?_eq_none_iff.1 h
  have e : l.any p = false := List.any_eq_false.2 fun q hq => by simp [this q hq]
  rw [e]; rfl
 | some i =>
  obtain ⟨h1, h2, _⟩ := List.findIdx?_eq_some_iff_getElem.1 h
  have e : l.any p = true := List.any_eq_true.2 ⟨l[i], List.getElem_mem h1, h2⟩
  rw [e]; simp
theorem take_none {α : Type} {p : α → Bool} {l : List α} {i : Nat} (h : i < l.length) (h1 : p l[i] = false) (h2 : ∀ q, q ∈ l.take i → p q = false) : ∀ q, q ∈ l.take (i + 1) → p q = false := by
 intro q hq
 rw [take_snoc h] at hq
 rcases List.mem_append.1 hq with h | h
 ·exact h2 q h
 ·rw [List.mem_singleton.1 h]; exact h1
theorem chk180 : chkFn Tryz.f180 = true := by kernel_rfl
theorem idx180 (l : List Ps) (t : Bool) (f : FuncId) (first cap : List D) (p : Ps → Bool) (hn : l.length ≤ 1000) (hf : ∀ q, q ∈ l → PC Pr G f (first ++ [q.d] ++ cap) (.bool (p q))) : PC Pr G 180 [rowsD l t, .fn f first cap] (iD (idxI p l)) := by
 refine pc_walk pok Tryz.func180 chk180 ?_
 conv => whnf
 skip
 refine for_use pok (fun i => ⟨[(0, .d (rowsD l t)), (1, .d (.fn f first cap)), (7, .d (iD (l.map Ps.l).length)), (8, .d (iD i))], [], 0⟩) (l.length) (fun i => ∀ q, q ∈ l.take i → p q = false) (by simp) ?_ (by kernel_rfl) ?_ ?_
 ·refine keep_env (by first | exact Nat.zero_le _ | exact Nat.le_of_ble_eq_true rfl) ?_ ?_ trivial
  ·repeat' first | exact trivial | refine ⟨⟨by first | rfl | assumption, rfl⟩, ?_⟩
  ·repeat' first | exact trivial | refine ⟨⟨ltB rfl, _, rfl, by first | rfl | assumption, by first | exact below1 rfl | exact below_dblk _ _ _ | exact below_arr rfl⟩, ?_⟩
 ·intro i A_i h_i I_i N_i
  have e_i : iadd .i64 (i : Int) 1 = ((i + 1 : Nat) : Int) := iadd_nat (by first | omega | (simp at *; omega))
  have hq := hf l[i] (List.getElem_mem h_i)
  conv => whnf
  repeat' first | ((first | refine LookP.mk _ (by first | rfl | exact get_l h_i) ?_ | refine And.intro (by first | assumption | exact ⟨by kernel_rfl, rfl⟩ | decide | omega) ?_ | rw [forceL_eq] | refine pc_use3B hq rfl ?_); conv => whnf) | (intro t ht; cases t <;> conv => whnf)
  ·exfalso; simp at ht; omega
  ·refine N_i _ ?_ ?_
   ·exact take_none h_i ht I_i
   ·refine keep_env (by first | exact Nat.zero_le _ | exact Nat.le_of_ble_eq_true rfl) ?_ ?_ trivial
    ·repeat' first | exact trivial | refine ⟨⟨by first | rfl | assumption | exact congrArg (fun n => AV.d (iD n)) e_i, rfl⟩, ?_⟩
    ·repeat' first | exact trivial | refine ⟨⟨ltB rfl, _, rfl, by first | rfl | assumption, by first | exact below1 rfl | exact below_dblk _ _ _ | exact below_arr rfl⟩, ?_⟩
  ·refine fin ?_
   rw [idxI_some h_i ht I_i]
 ·intro A_last I_last
  conv => whnf
  repeat' first | ((first | refine And.intro (by first | assumption | exact ⟨by kernel_rfl, rfl⟩ | decide | omega) ?_ | fail); conv => whnf) | (intro t ht; cases t <;> conv => whnf)
  ·rw [List.take_length] at I_last
   rw [idxI_none I_last]; exact fin rfl
  ·exfalso; simp at ht
theorem chk196 : chkFn Tryz.f196 = true := by kernel_rfl
theorem has196 (l : List Ps) (t : Bool) (f : FuncId) (first cap : List D) (p : Ps → Bool) (hn : l.length ≤ 1000) (hf : ∀ q, q ∈ l → PC Pr G f (first ++ [q.d] ++ cap) (.bool (p q))) : PC Pr G 196 [rowsD l t, .fn f first cap] (.bool (l.any p)) := by
 have hi := idx180 l t f first cap p hn hf
 rw [← idxI_ge]
 generalize idxI p l = i at hi ⊢
 refine pc_walk pok Tryz.func196 chk196 ?_
 conv => whnf
 repeat' first | (refine pc_use hi ?_; conv => whnf) | (intro t ht; cases t <;> conv => whnf)
 all_goals rw [ht]; exact fin rfl
theorem chk197 : chkFn Tryz.f197 = true := by kernel_rfl
theorem ev197 (q : Ps) (f : FuncId) (first cap : List D) (b : Bool) (hf : PC Pr G f (first ++ [q.d] ++ cap) (.bool b)) : PC Pr G 197 [q.d, .rop [.fn f first cap] 0] (.bool (!b)) := by
 refine pc_walk pok Tryz.func197 chk197 ?_
 conv => whnf
 repeat' first | ((first | refine LookP.mk _ rfl ?_ | rw [forceL_eq] | refine pc_use3B hf rfl ?_); conv => whnf) | (intro t ht; cases t <;> conv => whnf)
 all_goals rw [ht]; exact fin rfl
theorem chk112 : chkFn Tryz.f112 = true := by kernel_rfl
theorem every112 (l : List Ps) (t : Bool) (f : FuncId) (first cap : List D) (p : Ps → Bool) (hn : l.length ≤ 1000) (hf : ∀ q, q ∈ l → PC Pr G f (first ++ [q.d] ++ cap) (.bool (p q))) : PC Pr G 112 [rowsD l t, .fn f first cap] (.bool (l.all p)) := by
 have hi := has196 (G := G) l t 197 [] [.rop [.fn f first cap] 0] (fun q => !p q) hn fun q hq => ev197 q f first cap (p q) (hf q hq)
 refine pc_walk pok Tryz.func112 chk112 ?_
 conv => whnf
 have e : l.all p = !l.any (fun q => !p q) := by
  rw [List.all_eq_not_any_not]
 rw [e]
 repeat' first | (refine pc_lendcB hi rfl ?_) | (intro t ht; cases t <;> conv => whnf)
 all_goals rw [ht]; exact fin rfl
end Go.Tz
namespace Go.Tz
open Go Go.AL Go.Proofs
variable {G : Nat → Option (List D)}
abbrev Rw := Int × Int
def Rw.l (r : Rw) : List D := [iD r.1, iD r.2]
def rowI (l : List Ps) : List Rw := l.mapIdx fun n q => (ior .i64 q.x (ishl .i64 q.z 12), ishl .i64 1 n)
theorem rowI_len (l : List Ps) : (rowI l).length = l.length := by simp [rowI]
theorem rowI_snoc {l : List Ps} {i : Nat} (h : i < l.length) : (rowI l).take (i + 1) = (rowI l).take i ++ [(ior .i64 l[i].x (ishl .i64 l[i].z 12), ishl .i64 1 i)] := by
 have h' : i < (rowI l).length := by rw [rowI_len]; exact h
 rw [take_snoc h']
 simp [rowI]
theorem asD_dblk {H : AHeap} {nm sz n : Nat} {l : List (List D)} (hg : H.get nm = some (dblk sz l)) (hn : n = l.length) : AsD H (.sl nm sz 0 n n false) (.sl l false) := by
 subst hn
 have := asD_sl_map (lo := 0) (len := l.length) (room := l.length) (t := false) hg (by simp)
 simpa using this
theorem dblk_snoc {sz : Nat} {m : List (List D)} {x : List D} {ys : List (List AV)} (h : ys = [x.map AV.d]) : Blk.arr sz (m.map (fun el => el.map AV.d) ++ ys) = dblk sz (m ++ [x]) := by
 subst h; unfold dblk; rw [List.map_append]; rfl
theorem chk200 : chkFn Tryz.f200 = true := by kernel_rfl
theorem rows200 (l : List Ps) (t : Bool) (hn : l.length ≤ 1000) : PC Pr G 200 [rowsD l t] (.sl ((rowI l).map Rw.l) false) := by
 refine pc_freeze (isFn_of Tryz.func200 chk200) (fn_walk pok Tryz.func200 chk200 ?_)
 conv => whnf
 skip
 refine for_use pok (fun i => ⟨[(3, .sl 0 2 0 i i false), (6, .d (rowsD l t)), (7, .d (iD (l.map Ps.l).length)), (8, .d (iD i))], [(0, some (dblk 2 (((rowI l).take i).map Rw.l)))], 1⟩) (l.length) (fun _ => True) (trivial) ?_ (by kernel_rfl) ?_ ?_
 ·refine Sub.trans (sub_nil (t := 3) (S := 2) (Nat.zero_le _) rfl) ?_
  refine keep_env (by first | exact Nat.zero_le _ | exact Nat.le_of_ble_eq_true rfl) ?_ ?_ trivial
  ·repeat' first | exact trivial | refine ⟨⟨by first | rfl | assumption, rfl⟩, ?_⟩
  ·repeat' first | exact trivial | refine ⟨⟨ltB rfl, _, rfl, by first | rfl | assumption, by first | exact below1 rfl | exact below_dblk _ _ _ | exact below_arr rfl⟩, ?_⟩
 ·intro i A_i h_i I_i N_i
  have e_i : iadd .i64 (i : Int) 1 = ((i + 1 : Nat) : Int) := iadd_nat (by first | omega | (simp at *; omega))
  have hsn := rowI_snoc h_i
  have hm : (((rowI l).take i).map Rw.l).length = i := by rw [List.length_map, List.length_take, rowI_len]; omega
  have hs2 : (((rowI l).take (i + 1)).map Rw.l) = ((rowI l).take i).map Rw.l ++ [[iD (ior .i64 l[i].x (ishl .i64 l[i].z 12)), iD (ishl .i64 1 i)]] := by rw [hsn, List.map_append]; rfl
  generalize ((rowI l).take i).map Rw.l = m at hm hs2
  conv => whnf
  repeat' first | ((first | refine LookP.mk _ (by first | rfl | exact get_l h_i) ?_ | refine ShlP.mk _ (by first | (simp only [List.set, over, List.take, List.drop, List.append_eq, List.nil_append, List.cons_append, List.length]; rfl) | rfl) ?_ | (refine And.intro (by first | exact Nat.le_refl _ | exact ⟨by rw [List.length_map]; exact hm, by decide, by show (2 * (i + 1) + 192) * 16 ≤ 281474976710656; omega⟩ | assumption | exact ⟨by kernel_rfl, rfl⟩ | decide | omega) ?_) | rw [nbeq] | refine HpP.force ?_); conv => whnf) | (intro t ht; cases t <;> conv => whnf)
  ·exfalso; simp at ht; omega
  ·refine N_i _ ?_ ?_
   ·first | trivial | assumption | omega
   ·first | refine ren_env [(0, 3)] ?_ ?_ ?_ trivial | refine ren_envB [(0, 3)] rfl rfl ?_ ?_ ?_ trivial
    ·repeat' first | exact trivial | refine ⟨⟨by first | rfl | assumption | exact congrArg (fun n => AV.d (iD n)) e_i, rfl⟩, ?_⟩
    ·repeat' first | exact trivial | refine ⟨⟨ltB rfl, _, rfl, by first | rfl | assumption | exact get_ren rfl (by first | rfl | assumption | exact get_ren rfl (by rw [hs2]; exact congrArg some (dblk_snoc rfl))) | exact get_ren rfl (by rw [hs2]; exact congrArg some (dblk_snoc rfl)), by first | exact below1 rfl | exact below_dblk _ _ _ | exact below_arr rfl⟩, ?_⟩
    ·repeat' first | exact trivial | (refine And.intro ?_ ?_) | (exact fun _ => rfl) | (exact fun h => absurd h (Nat.ne_of_beq_eq_false rfl))
 ·intro A_last I_last
  conv => whnf
  repeat' first | ((first | refine And.intro (by first | assumption | exact ⟨by kernel_rfl, rfl⟩ | decide | omega) ?_ | fail); conv => whnf) | (intro t ht; cases t <;> conv => whnf)
  ·refine fin (asD_dblk ?_ (by simp [rowI_len]))
   rw [List.take_of_length_le (by rw [rowI_len]; exact Nat.le_refl _)]; rfl
  ·exfalso; simp at ht
end Go.Tz
namespace Go.Tz
open Go Go.AL Go.Proofs
variable {G : Nat → Option (List D)}
theorem low_and {n t m : Nat} (h : n = 2 ^ t * (2 * m + 1)) (ht : t < 24) (hn : n < 2 ^ 24) : n &&& (2 ^ 64 - n) = 2 ^ t := by
 have hpos : 0 < n := by rw [h]; exact Nat.mul_pos (Nat.two_pow_pos t) (by omega)
 have hp : 0 < 2 ^ t := Nat.two_pow_pos t
 have h1 : n - 1 = 2 ^ t * (2 * m) + (2 ^ t - 1) := by rw [h, Nat.mul_add, Nat.mul_one]; omega
 have h2 : n = 2 ^ t * (2 * m + 1) + 0 := by rw [h]; rfl
 refine Nat.eq_of_testBit_eq fun j => ?_
 have e : 2 ^ 64 - n = 2 ^ 64 - ((n - 1) + 1) := by omega
 rw [Nat.testBit_and, e, Nat.testBit_two_pow_sub_succ (by omega), Nat.testBit_two_pow]
 have b1 := Nat.testBit_two_pow_mul_add (2 * m + 1) (show 0 < 2 ^ t from hp) j
 have b2 := Nat.testBit_two_pow_mul_add (2 * m) (show 2 ^ t - 1 < 2 ^ t by omega) j
 rw [← h2] at b1
 rw [← h1] at b2
 rw [b1, b2]
 by_cases c : j < t
 ·rw [if_pos c, Nat.zero_testBit]
  have : ¬ t = j := by omega
  simp [this]
 ·rw [if_neg c, if_neg c]
  by_cases d : j = t
  ·subst d
   rw [Nat.sub_self]
   have e1 : (2 * m + 1).testBit 0 = true := by simp
   have e2 : (2 * m).testBit 0 = false := by simp
   have : decide (j < 64) = true := by simp; omega
   rw [e1, e2, this]; simp
  ·have e1 : (2 * m + 1).testBit (j - t) = (2 * m).testBit (j - t) := by
    obtain ⟨k, hk⟩ : ∃ k, j - t = k + 1 := ⟨j - t - 1, by omega⟩
    rw [hk, Nat.testBit_succ, Nat.testBit_succ]
    congr 1; omega
   have : ¬ t = j := by omega
   rw [e1]
   cases (2 * m).testBit (j - t) <;> simp [this]
theorem wrapU {n : Int} : IntKind.u64.wrap n = n % 18446744073709551616 := by simp [IntKind.wrap, IntKind.bits, IntKind.signed]
theorem low_int {n t m : Nat} (h : n = 2 ^ t * (2 * m + 1)) (ht : t < 24) (hn : n < 2 ^ 24) : iand .u64 (n : Int) (ineg .u64 (n : Int)) = ((2 ^ t : Nat) : Int) := by
 have hpos : 0 < n := by rw [h]; exact Nat.mul_pos (Nat.two_pow_pos t) (by omega)
 have e : ineg .u64 (n : Int) = ((2 ^ 64 - n : Nat) : Int) := by
  unfold ineg; rw [wrapU]; omega
 rw [e]
 unfold iand
 show IntKind.u64.wrap ((BitVec.ofInt 64 n &&& BitVec.ofInt 64 ((2 ^ 64 - n : Nat) : Int)).toNat : Int) = _
 have e1 : (BitVec.ofInt 64 (n : Int)).toNat = n := by rw [BitVec.toNat_ofInt]; omega
 have e2 : (BitVec.ofInt 64 ((2 ^ 64 - n : Nat) : Int)).toNat = 2 ^ 64 - n := by rw [BitVec.toNat_ofInt]; omega
 rw [BitVec.toNat_and, e1, e2, low_and h ht hn, wrapU]
 have hlt : 2 ^ t < 2 ^ 24 := Nat.pow_lt_pow_right (by decide) ht
 revert hlt
 generalize 2 ^ t = p
 intro hlt
 omega
theorem tz_tab : ((List.range 24).all fun t => match ishr .u64 (imul .u64 ((2 ^ t : Nat) : Int) 285870213051353865) 58 with
  | .ofNat i => decide (i < 64) && (match tab64[i]? with
   | some (.int .u8 k) => decide (k = (t : Int))
   | _ => false)
  | _ => false) = true := by kernel_rfl
theorem tz_tab' {t : Nat} (ht : t < 24) : ∃ i : Nat, ishr .u64 (imul .u64 ((2 ^ t : Nat) : Int) 285870213051353865) 58 = i ∧ i < 64 ∧ tab64[i]? = some (.int .u8 t) := by
 have := List.all_eq_true.1 tz_tab t (List.mem_range.2 ht)
 split at this
 ·rename_i i hi
  rw [Bool.and_eq_true] at this
  obtain ⟨h1, h2⟩ := this
  refine ⟨i, hi, by simpa using h1, ?_⟩
  split at h2
  ·rename_i k hk
   rw [hk]
   simp at h2; rw [h2]
  ·cases h2
 ·cases this
theorem chk271 : chkFn Tryz.f271 = true := by kernel_rfl
theorem trail271' {v : Int} {i : Nat} {d : Int} (hpos : v ≠ 0) (h1 : ishr .u64 (imul .u64 (iand .u64 v (ineg .u64 v)) 285870213051353865) 58 = i) (h2 : i < 64) (h3 : tab64[i]? = some (.int .u8 d)) : PC Pr GG 271 [.int .u64 v] (iD (IntKind.i64.wrap d)) := by
 refine pc_walk pok Tryz.func271 chk271 ?_
 conv => whnf
 have key : ∀ a b, a = 1 → b = 1 → List.take a (List.drop (0 + (i : Int).toNat * b) tab64) = [.int .u8 d] := by
  rintro a b rfl rfl
  rw [Int.toNat_natCast, Nat.zero_add, Nat.mul_one]
  have hi : i < tab64.length := (List.getElem?_eq_some_iff.1 h3).1
  rw [List.drop_eq_getElem_cons hi]
  have := (List.getElem?_eq_some_iff.1 h3).2
  rw [this]; rfl
 intro t ht
 cases t <;> conv => whnf
 ·refine And.intro (by decide) ?_
  conv => whnf
  rw [h1]
  repeat' first | ((first | refine And.intro (by first | assumption | exact ⟨by kernel_rfl, rfl⟩ | decide | omega) ?_ | rw [key _ _ rfl rfl]); conv => whnf)
  exact fin rfl
 ·exfalso; simp at ht; omega
theorem trail271 {n t m : Nat} (h : n = 2 ^ t * (2 * m + 1)) (ht : t < 24) (hn : n < 2 ^ 24) : PC Pr GG 271 [.int .u64 n] (iD t) := by
 have hl := low_int h ht hn
 obtain ⟨i, h1, h2, h3⟩ := tz_tab' ht
 rw [← hl] at h1
 have hpos : (n : Int) ≠ 0 := by
  have : 0 < n := by rw [h]; exact Nat.mul_pos (Nat.two_pow_pos t) (by omega)
  omega
 have hw : IntKind.i64.wrap (t : Int) = t := wrap_small (by omega) (by omega)
 have := trail271' hpos h1 h2 h3
 rwa [hw] at this
theorem trail271z : PC Pr GG 271 [.int .u64 0] (iD 64) := by
 refine pc_walk pok Tryz.func271 chk271 ?_
 conv => whnf
 repeat' first | ((first | refine And.intro (by first | assumption | exact ⟨by kernel_rfl, rfl⟩ | decide | omega) ?_ | fail); conv => whnf) | (intro t ht; cases t <;> conv => whnf)
 ·exact absurd ht (by decide)
 ·exact fin rfl
theorem chk251 : chkFn Tryz.f251 = true := by kernel_rfl
theorem trail251 {n t m : Nat} (h : n = 2 ^ t * (2 * m + 1)) (ht : t < 24) (hn : n < 2 ^ 24) : PC Pr GG 251 [.int .u64 n] (iD t) := by
 have hc := trail271 h ht hn
 refine pc_walk pok Tryz.func251 chk251 ?_
 conv => whnf
 repeat' first | (refine pc_use hc ?_; conv => whnf)
 exact fin rfl
theorem trail251z : PC Pr GG 251 [.int .u64 0] (iD 64) := by
 have hc := trail271z
 refine pc_walk pok Tryz.func251 chk251 ?_
 conv => whnf
 repeat' first | (refine pc_use hc ?_; conv => whnf)
 exact fin rfl
end Go.Tz
namespace Go.Tz
open Go Go.AL Go.Proofs
variable {G : Nat → Option (List D)}
abbrev Rn := Nat × Nat
def Rn.l (r : Rn) : List D := [iD r.1, iD r.2]
abbrev rnD (l : List Rn) (t : Bool) : D := .sl (l.map Rn.l) t
theorem rn_len (l : List Rn) : ∀ el, el ∈ l.map Rn.l → el.length = 2 := by
 intro el h
 obtain ⟨q, _, rfl⟩ := List.mem_map.1 h
 rfl
theorem rn_sc (l : List Rn) : (((l.map Rn.l).map (·.map AV.d)).all fun el => el.all AV.scalar) = true := by
 simp [Rn.l, AV.scalar, D.scalar]
theorem over_all {α : Type} {N : Nat} {z : α} {ys : List α} (h : ys.length = N) : over (List.replicate N z) 0 (ys.take N) = ys := by
 have e : ys.take N = ys := List.take_of_length_le (by omega)
 unfold over
 rw [e]
 simp [h]
def rwB (N : Nat) (f : Nat → List D) : Blk := dblk 2 ((List.range N).map f)
theorem rwB_list (l : List Rn) : Blk.arr 2 ((l.map Rn.l).map fun x => x.map AV.d) = rwB l.length fun j => Rn.l (l.getD j (0, 0)) := by
 unfold rwB dblk
 congr 2
 apply List.ext_getElem
 ·simp
 ·intro j h1 h2
  have h3 : j < l.length := by simpa using h1
  simp [List.getD_eq_getElem?_getD, List.getElem?_eq_getElem h3]
theorem get_rw {N k : Nat} {f : Nat → List D} (h : k < N) : (((List.range N).map f).map fun el => el.map AV.d)[0 + (k : Int).toNat]? = some ((f k).map AV.d) := by simp [h]
theorem get_rwE {N k : Nat} {f : Nat → List D} {x : List D} (h : k < N) (e : f k = x) : (((List.range N).map f).map fun el => el.map AV.d)[0 + (k : Int).toNat]? = some (x.map AV.d) := by rw [get_rw h, e]
theorem rwB_congr {N : Nat} {f g : Nat → List D} (h : ∀ j, f j = g j) : Blk.arr 2 (((List.range N).map f).map fun el => el.map AV.d) = rwB N g := by rw [funext h]; rfl
theorem set_rw {N k : Nat} {f : Nat → List D} {x : List D} (h : k < N) : (((List.range N).map f).map fun el => el.map AV.d).set (0 + (k : Int).toNat) (x.map AV.d) = ((List.range N).map fun j => if j = k then x else f j).map fun el => el.map AV.d := by
 rw [Int.toNat_natCast, Nat.zero_add]
 apply List.ext_getElem
 ·simp
 ·intro i h1 h2
  rw [List.getElem_set]
  by_cases e : k = i
  ·subst e; simp
  ·rw [if_neg e]; simp [Ne.symm e]
def clrW (rf : Nat → Rn) (n b i : Nat) : Nat → Rn := fun k => if k < i ∧ k ≠ n ∧ (rf k).1.testBit b = true then ((rf k).1 ^^^ (rf n).1, (rf k).2 ^^^ (rf n).2) else rf k
theorem clrW_0 (rf : Nat → Rn) (n b : Nat) : clrW rf n b 0 = rf := by funext k; simp [clrW]
theorem clrW_n (rf : Nat → Rn) (n b i : Nat) : clrW rf n b i n = rf n := by simp [clrW]
theorem clrW_ge (rf : Nat → Rn) (n b i : Nat) : clrW rf n b i i = rf i := by simp [clrW]
theorem clrW_same {rf : Nat → Rn} {n b i : Nat} (h : ¬ (i ≠ n ∧ (rf i).1.testBit b = true)) : clrW rf n b (i + 1) = clrW rf n b i := by
 funext j
 unfold clrW
 by_cases e : j = i
 ·subst e
  rw [if_neg (fun q => h q.2), if_neg (fun q => h q.2)]
 ·have : (j < i + 1) ↔ (j < i) := by omega
  simp only [this]
theorem clrW_set {rf : Nat → Rn} {n b i : Nat} (hin : i ≠ n) (hb : (rf i).1.testBit b = true) : clrW rf n b (i + 1) = fun j => if j = i then ((rf i).1 ^^^ (rf n).1, (rf i).2 ^^^ (rf n).2) else clrW rf n b i j := by
 funext j
 unfold clrW
 by_cases e : j = i
 ·subst e
  rw [if_pos ⟨Nat.lt_succ_self _, hin, hb⟩, if_pos rfl]
 ·have : (j < i + 1) ↔ (j < i) := by omega
  simp only [this, if_neg e]
def lowN (n : Nat) : Nat := ((List.range 24).find? fun j => n.testBit j).getD 0
theorem low_spec {n : Nat} (h0 : n ≠ 0) (hn : n < 2 ^ 24) : lowN n < 24 ∧ n.testBit (lowN n) = true ∧ ∃ m, n = 2 ^ lowN n * (2 * m + 1) := by
 obtain ⟨c, hc⟩ := Nat.exists_testBit_of_ne_zero h0
 have hc24 : c < 24 := by
  rcases Nat.lt_or_ge c 24 with q | q
  ·exact q
  ·rw [Nat.testBit_lt_two_pow (Nat.lt_of_lt_of_le hn (Nat.pow_le_pow_right (by decide) q))] at hc; cases hc
 cases hf : (List.range 24).find? fun j => n.testBit j with
 | none =>
  have := List.find?_eq_none.1 hf c (List.mem_range.2 hc24)
  rw [hc] at this; simp at this
 | some t =>
  have ht : lowN n = t := by unfold lowN; rw [hf]; rfl
  rw [ht]
  rw [List.find?_range_eq_some] at hf
  obtain ⟨h1, h2, h3⟩ := hf
  refine ⟨List.mem_range.1 h2, h1, n / 2 ^ t / 2, ?_⟩
  have hz : n % 2 ^ t = 0 := by
   refine Nat.eq_of_testBit_eq fun j => ?_
   rw [Nat.testBit_mod_two_pow, Nat.zero_testBit]
   by_cases e : j < t
   ·have := h3 j e; simp at this; simp [this]
   ·simp [e]
  have hodd : n / 2 ^ t % 2 = 1 := by
   rw [Nat.testBit_eq_decide_div_mod_eq] at h1; simpa using h1
  have e1 : 2 * (n / 2 ^ t / 2) + 1 = n / 2 ^ t := by omega
  rw [e1, Nat.mul_div_cancel' (Nat.dvd_of_mod_eq_zero hz)]
def redW (l : List Rn) : Nat → Nat → Rn
 | 0 => fun j => l.getD j (0, 0)
 | n + 1 => if (redW l n n).1 ≠ 0 then clrW (redW l n) n (lowN (redW l n n).1) l.length else redW l n
theorem redW_lt {l : List Rn} (h : ∀ r, r ∈ l → r.1 < 2 ^ 24 ∧ r.2 < 2 ^ 24) : ∀ n j, (redW l n j).1 < 2 ^ 24 ∧ (redW l n j).2 < 2 ^ 24
 | 0, j => by
  show (l.getD j (0, 0)).1 < 2 ^ 24 ∧ (l.getD j (0, 0)).2 < 2 ^ 24
  rw [List.getD_eq_getElem?_getD]
  cases hj : l[j]? with
  | none => exact ⟨by decide, by decide⟩
  | some r => exact h r (List.mem_of_getElem? hj)
 | n + 1, j => by
  have ih := redW_lt h n
  simp only [redW]
  split
  ·unfold clrW
   split
   ·exact ⟨Nat.xor_lt_two_pow (ih j).1 (ih n).1, Nat.xor_lt_two_pow (ih j).2 (ih n).2⟩
   ·exact ih j
  ·exact ih j
theorem low_mul {n m : Nat} (h0 : n ≠ 0) (hn : n < 2 ^ 24) (h : n = 2 ^ lowN n * (2 * m + 1)) : PC Pr GG 251 [.int .u64 (IntKind.u64.wrap (n : Int))] (iD (lowN n)) := by
 have hl := (low_spec h0 hn).1
 revert h hl
 generalize lowN n = t
 intro h hl
 rw [wrapu (by omega)]
 exact trail251 h hl hn
def tzN (n : Nat) : Nat := if n = 0 then 64 else lowN n
theorem tz_c {n : Nat} (hn : n < 2 ^ 24) : PC Pr GG 251 [.int .u64 (IntKind.u64.wrap (n : Int))] (iD (tzN n)) := by
 unfold tzN
 split
 ·rename_i h; subst h; exact trail251z
 ·rename_i h
  obtain ⟨_, _, m, hm⟩ := low_spec h hn
  exact low_mul h hn hm
def lfW (rf : Nat → Rn) (i : Nat) : List Rn := ((List.range i).map rf).filter fun r => decide (r.1 ≠ 0)
def gnW (rf : Nat → Rn) (i : Nat) : List Rn := ((List.range i).map rf).filter fun r => decide (r.1 = 0)
theorem lf_snoc (rf : Nat → Rn) (i : Nat) : lfW rf (i + 1) = lfW rf i ++ (if (rf i).1 ≠ 0 then [rf i] else []) := by
 simp only [lfW, List.range_succ, List.map_append, List.filter_append, List.map_cons, List.map_nil, List.filter_cons, List.filter_nil, decide_eq_true_eq]
theorem gn_snoc (rf : Nat → Rn) (i : Nat) : gnW rf (i + 1) = gnW rf i ++ (if (rf i).1 = 0 then [rf i] else []) := by
 simp only [gnW, List.range_succ, List.map_append, List.filter_append, List.map_cons, List.map_nil, List.filter_cons, List.filter_nil, decide_eq_true_eq]
theorem asD_tup2 {H : AHeap} {v1 v2 : AV} {d1 d2 : D} (h1 : AsD H v1 d1) (h2 : AsD H v2 d2) : AsD H (.tup [v1, v2]) (.tup [d1, d2]) := by
 refine .tup _ _ rfl fun j v d hv hd => ?_
 match j, hv, hd with
 | 0, hv, hd => simp at hv hd; subst hv hd; exact h1
 | 1, hv, hd => simp at hv hd; subst hv hd; exact h2
 | j + 2, hv, _ => simp at hv
theorem chk250 : chkFn Tryz.f250 = true := by kernel_rfl
theorem chk199 : chkFn Tryz.f199 = true := by kernel_rfl
theorem red199 (l : List Rn) (t : Bool) (hn : l.length ≤ 1000) (hb : ∀ r, r ∈ l → r.1 < 2 ^ 24 ∧ r.2 < 2 ^ 24) : PC Pr GG 199 [rnD l t] (.tup [rnD (lfW (redW l l.length) l.length) false, rnD (gnW (redW l l.length) l.length) false]) := by
 refine pc_freeze (isFn_of Tryz.func199 chk199) (fn_walk pok Tryz.func199 chk199 ?_)
 conv => whnf
 repeat' first | ((first | refine LookP.mk _ rfl ?_ | refine ShlP.mk _ (by first | exact over_all (by simp) | (simp only [List.set, over, List.take, List.drop, List.append_eq, List.nil_append, List.cons_append, List.length]; rfl) | rfl) ?_ | (refine And.intro (by first | exact ⟨Int.natCast_nonneg _, rfl, by show 16 * (((l.map Rn.l).length : Nat) : Int).toNat ≤ 281474976710656; rw [Int.toNat_natCast, List.length_map]; omega, by decide, by decide⟩ | exact rn_len _ | exact (by rw [List.length_replicate, Nat.zero_add]; exact Nat.le_refl _) | assumption | exact ⟨by kernel_rfl, rfl⟩ | decide | omega) ?_) | rw [rn_sc] | refine HpP.force ?_); conv => whnf)
 have eN : (((l.map Rn.l).length : Nat) : Int).toNat = l.length := by simp
 refine for_use pok (fun n => ⟨[(2, .d (.sl [] true)), (3, .d (.sl [] true)), (4, .ptr 1 1 0 0), (5, .fn 250 [] [.ptr 1 1 0 0]), (18, .d (iD l.length)), (19, .d (iD n))], [(0, some (rwB l.length fun j => (redW l n j).l)), (1, some (.arr 1 [[.sl 0 2 0 l.length l.length true]]))], 2⟩) (l.length) (fun _ => True) (trivial) ?_ (by kernel_rfl) ?_ ?_
 ·refine keep_env (by first | exact Nat.zero_le _ | exact Nat.le_of_ble_eq_true rfl) ?_ ?_ trivial
  ·repeat' first | exact trivial | refine ⟨⟨by first | rfl | assumption | (show AV.d (D.int .i64 ((((l.map Rn.l).length : Nat) : Int).toNat : Int)) = _; rw [eN]), rfl⟩, ?_⟩
  ·repeat' first | exact trivial | refine ⟨⟨ltB rfl, _, rfl, by first | rfl | assumption | exact congrArg some (rwB_list l) | (show some (Blk.arr 1 [[AV.sl 0 2 0 (((l.map Rn.l).length : Nat) : Int).toNat (((l.map Rn.l).length : Nat) : Int).toNat true]]) = _; rw [eN]), by first | exact below1 rfl | exact below_dblk _ _ _ | exact below_arr rfl | exact below_dblk _ _ _⟩, ?_⟩
 ·intro n A_n h_n I_n N_n
  have e_n : iadd .i64 (n : Int) 1 = ((n + 1 : Nat) : Int) := iadd_nat (by first | omega | (simp at *; omega))
  have hlt := redW_lt hb n n
  have hlt3 := redW_lt hb n
  generalize hg : redW l n = rf at hlt hlt3
  have htz := tz_c hlt.1
  have hlt2 : (rf n).1 < 2 ^ 63 := by omega
  generalize hb1 : (rf n).1 = b1 at hlt htz hlt2
  conv => whnf
  repeat' first | ((first | refine LookP.mk _ (by first | rfl | exact get_rw h_n) ?_ | refine And.intro (by first | assumption | exact ⟨by kernel_rfl, rfl⟩ | decide | omega) ?_ | rw [hb1] | refine pc_use htz ?_); conv => whnf) | (intro t ht; cases t <;> conv => whnf)
  ·exfalso; simp at ht; omega
  ·have h0 : b1 = 0 := by simp at ht; omega
   have hnx : redW l (n + 1) = rf := by simp only [redW, hg, hb1, h0]; simp
   refine N_n _ ?_ ?_
   ·first | trivial | assumption | omega
   ·refine keep_env (by first | exact Nat.zero_le _ | exact Nat.le_of_ble_eq_true rfl) ?_ ?_ trivial
    ·repeat' first | exact trivial | refine ⟨⟨by first | rfl | assumption | exact congrArg (fun n => AV.d (iD n)) e_n, rfl⟩, ?_⟩
    ·repeat' first | exact trivial | refine ⟨⟨ltB rfl, _, rfl, by first | rfl | assumption | (rw [hnx]; rfl), by first | exact below1 rfl | exact below_dblk _ _ _ | exact below_arr rfl | exact below_dblk _ _ _⟩, ?_⟩
  ·have h0 : b1 ≠ 0 := by simp at ht; omega
   have hnx : redW l (n + 1) = clrW rf n (tzN b1) l.length := by
    simp only [redW, hg, hb1]; rw [if_pos h0]; unfold tzN; rw [if_neg h0]
   have ht64 : tzN b1 ≤ 64 := by
    unfold tzN; split
    ·omega
    ·rename_i h; have := (low_spec h hlt.1).1; omega
   generalize tzN b1 = b at hnx ht64
   clear htz
   refine call_walk pok Tryz.func250 chk250 ?_
   conv => whnf
   repeat' first | (refine LookP.mk _ rfl ?_; conv => whnf)
   refine for_use pok (fun k => ⟨[(0, .d (iD n)), (1, .d (iD b)), (2, .ptr 1 1 0 0), (7, .d (iD l.length)), (8, .d (iD k))], [(0, some (rwB l.length fun j => (clrW rf n b k j).l)), (1, some (.arr 1 [[.sl 0 2 0 l.length l.length true]]))], 2⟩) (l.length) (fun _ => True) (trivial) ?_ (by kernel_rfl) ?_ ?_
   ·refine keep_env (by first | exact Nat.zero_le _ | exact Nat.le_of_ble_eq_true rfl) ?_ ?_ trivial
    ·repeat' first | exact trivial | refine ⟨⟨by first | rfl | assumption, rfl⟩, ?_⟩
    ·repeat' first | exact trivial | refine ⟨⟨ltB rfl, _, rfl, by first | rfl | assumption | (rw [clrW_0]; rfl), by first | exact below1 rfl | exact below_dblk _ _ _ | exact below_arr rfl | exact below_dblk _ _ _⟩, ?_⟩
   ·intro k A_k h_k I_k N_k
    have e_k : iadd .i64 (k : Int) 1 = ((k + 1 : Nat) : Int) := iadd_nat (by first | omega | (simp at *; omega))
    have hn' := clrW_n rf n b k
    have hk' := clrW_ge rf n b k
    have hs := @clrW_set rf n b k
    have hs2 := @clrW_same rf n b k
    generalize hgk : clrW rf n b k = g at hn' hk' hs
    conv => whnf
    repeat' first | ((first | refine LookP.mk _ (by first | rfl | exact get_rw (f := fun j => Rn.l (g j)) h_k | exact get_rw (f := fun j => Rn.l (g j)) h_n) ?_ | refine ShlP.mk _ (by first | exact set_rw (x := [_, _]) h_k | rfl) ?_ | refine And.intro (by first | assumption | exact ⟨by kernel_rfl, rfl⟩ | decide | omega) ?_ | refine HpP.force ?_); conv => whnf) | (intro t ht; cases t <;> conv => whnf)
    ·exfalso; simp at ht; omega
    ·have hkn : k = n := by simp at ht; omega
     have e : clrW rf n b (k + 1) = g := by rw [← hgk]; exact hs2 fun q => q.1 hkn
     refine N_k _ ?_ ?_
     ·first | trivial | assumption | omega
     ·refine keep_env (by first | exact Nat.zero_le _ | exact Nat.le_of_ble_eq_true rfl) ?_ ?_ trivial
      ·repeat' first | exact trivial | refine ⟨⟨by first | rfl | assumption | exact congrArg (fun n => AV.d (iD n)) e_k, rfl⟩, ?_⟩
      ·repeat' first | exact trivial | refine ⟨⟨ltB rfl, _, rfl, by first | rfl | assumption | (rw [e]; rfl), by first | exact below1 rfl | exact below_dblk _ _ _ | exact below_arr rfl | exact below_dblk _ _ _⟩, ?_⟩
    ·have hkn : k ≠ n := by intro e; subst e; simp at *
     have e : clrW rf n b (k + 1) = g := by
      rw [← hgk]; refine hs2 fun q => ?_
      rw [hk', bit_nat ht64 (by have := (hlt3 k).1; omega), q.2] at ht
      simp at ht
     refine N_k _ ?_ ?_
     ·first | trivial | assumption | omega
     ·refine keep_env (by first | exact Nat.zero_le _ | exact Nat.le_of_ble_eq_true rfl) ?_ ?_ trivial
      ·repeat' first | exact trivial | refine ⟨⟨by first | rfl | assumption | exact congrArg (fun n => AV.d (iD n)) e_k, rfl⟩, ?_⟩
      ·repeat' first | exact trivial | refine ⟨⟨ltB rfl, _, rfl, by first | rfl | assumption | (rw [e]; rfl), by first | exact below1 rfl | exact below_dblk _ _ _ | exact below_arr rfl | exact below_dblk _ _ _⟩, ?_⟩
    ·have hkn : k ≠ n := by intro e; subst e; simp at *
     have hnk : n ≠ k := Ne.symm hkn
     have hbk : (rf k).1.testBit b = true := by
      rw [hk', bit_nat ht64 (by have := (hlt3 k).1; omega)] at ht
      cases e : (rf k).1.testBit b with
      | true => rfl
      | false => rw [e] at ht; simp at ht
     repeat' first | ((first | refine LookP.mk _ (by first | rfl | exact get_rwE h_k (if_pos rfl) | exact get_rwE h_n (if_neg hnk)) ?_ | refine ShlP.mk _ (by first | exact set_rw (x := [_, _]) h_k | rfl) ?_ | refine And.intro (by first | assumption | exact ⟨by kernel_rfl, rfl⟩ | decide | omega) ?_ | refine HpP.force ?_); conv => whnf)
     have hblk : ∀ j, (if j = k then [iD (ixor .i64 (g k).1 (g n).1), iD (ixor .i64 (g k).2 (g n).2)] else if j = k then [iD (ixor .i64 (g k).1 (g n).1), iD (g k).2] else Rn.l (g j)) = Rn.l (clrW rf n b (k + 1) j) := by
      intro j
      rw [hs hkn hbk]
      dsimp only
      by_cases e : j = k
      ·rw [if_pos e, if_pos e, hk', hn']
       have q1 := hlt3 k
       have q2 := hlt3 n
       rw [ixor_nat (by omega) (by omega), ixor_nat (by omega) (by omega)]; rfl
      ·rw [if_neg e, if_neg e, if_neg e]
     refine N_k _ ?_ ?_
     ·first | trivial | assumption | omega
     ·refine keep_env (by first | exact Nat.zero_le _ | exact Nat.le_of_ble_eq_true rfl) ?_ ?_ trivial
      ·repeat' first | exact trivial | refine ⟨⟨by first | rfl | assumption | exact congrArg (fun n => AV.d (iD n)) e_k, rfl⟩, ?_⟩
      ·repeat' first | exact trivial | refine ⟨⟨ltB rfl, _, rfl, by first | rfl | assumption | exact congrArg some (rwB_congr hblk), by first | exact below1 rfl | exact below_dblk _ _ _ | exact below_arr rfl | exact below_dblk _ _ _⟩, ?_⟩
   ·intro A_last I_last
    conv => whnf
    repeat (refine LookP.mk _ rfl ?_; conv => whnf)
    intro t ht
    cases t
    rotate_left
    ·exfalso; first | (simp at ht; done) | (simp at ht; omega)
    conv => whnf
    skip
    refine N_n _ ?_ ?_
    ·first | trivial | assumption | omega
    ·refine keep_env (by first | exact Nat.zero_le _ | exact Nat.le_of_ble_eq_true rfl) ?_ ?_ trivial
     ·repeat' first | exact trivial | refine ⟨⟨by first | rfl | assumption | exact congrArg (fun n => AV.d (iD n)) e_n, rfl⟩, ?_⟩
     ·repeat' first | exact trivial | refine ⟨⟨ltB rfl, _, rfl, by first | rfl | assumption | (rw [hnx]; rfl), by first | exact below1 rfl | exact below_dblk _ _ _ | exact below_arr rfl | exact below_dblk _ _ _⟩, ?_⟩
 ·intro A_last I_last
  generalize redW l l.length = rf
  conv => whnf
  repeat (refine LookP.mk _ rfl ?_; conv => whnf)
  intro t ht
  cases t
  rotate_left
  ·exfalso; first | (simp at ht; done) | (simp at ht; omega)
  conv => whnf
  repeat' first | (refine LookP.mk _ rfl ?_; conv => whnf)
  refine for_use pok (fun i => ⟨[(2, .sl 1 2 0 (lfW rf i).length (lfW rf i).length false), (3, .sl 2 2 0 (gnW rf i).length (gnW rf i).length false), (40, .sl 0 2 0 l.length l.length true), (41, .d (iD l.length)), (42, .d (iD i))], [(0, some (rwB l.length fun j => (rf j).l)), (1, some (dblk 2 ((lfW rf i).map Rn.l))), (2, some (dblk 2 ((gnW rf i).map Rn.l)))], 3⟩) (l.length) (fun _ => True) (trivial) ?_ (by kernel_rfl) ?_ ?_
  ·refine Sub.trans ((sub_nil (t := 2) (S := 2) (Nat.zero_le _) rfl).trans (sub_nil (t := 3) (S := 2) (Nat.zero_le _) rfl)) ?_
   first | refine ren_env [(1, 2), (2, 3)] ?_ ?_ ?_ trivial | refine ren_envB [(1, 2), (2, 3)] rfl rfl ?_ ?_ ?_ trivial
   ·repeat' first | exact trivial | refine ⟨⟨by first | rfl | assumption, rfl⟩, ?_⟩
   ·repeat' first | exact trivial | refine ⟨⟨ltB rfl, _, rfl, by first | rfl | assumption | exact get_ren rfl (by first | rfl | assumption), by first | exact below1 rfl | exact below_dblk _ _ _ | exact below_arr rfl⟩, ?_⟩
   ·repeat' first | exact trivial | (refine And.intro ?_ ?_) | (exact fun _ => rfl) | (exact fun h => absurd h (Nat.ne_of_beq_eq_false rfl))
  ·intro i A_i h_i I_i N_i
   have e_i : iadd .i64 (i : Int) 1 = ((i + 1 : Nat) : Int) := iadd_nat (by first | omega | (simp at *; omega))
   have h1 := lf_snoc rf i
   have h2 := gn_snoc rf i
   have hle1 : (lfW rf i).length ≤ i := by have := List.length_filter_le (fun r : Rn => decide (r.1 ≠ 0)) ((List.range i).map rf); simpa [lfW] using this
   have hle2 : (gnW rf i).length ≤ i := by have := List.length_filter_le (fun r : Rn => decide (r.1 = 0)) ((List.range i).map rf); simpa [gnW] using this
   generalize lfW rf i = L at h1 hle1
   generalize gnW rf i = K at h2 hle2
   conv => whnf
   repeat (refine LookP.mk _ rfl ?_; conv => whnf)
   intro t ht
   cases t
   ·exfalso; first | (simp at ht; done) | (simp at ht; omega)
   conv => whnf
   repeat' first | ((first | refine LookP.mk _ (by first | rfl | exact get_rw (f := fun j => Rn.l (rf j)) h_i) ?_ | refine ShlP.mk _ (by first | (simp only [List.set, over, List.take, List.drop, List.append_eq, List.nil_append, List.cons_append, List.length]; rfl) | rfl) ?_ | (refine And.intro (by first | exact Nat.le_refl _ | exact ⟨by simp, by decide, by show (2 * (L.length + 1) + 192) * 16 ≤ 281474976710656; omega⟩ | exact ⟨by simp, by decide, by show (2 * (K.length + 1) + 192) * 16 ≤ 281474976710656; omega⟩ | assumption | exact ⟨by kernel_rfl, rfl⟩ | decide | omega) ?_) | rw [nbeq] | refine HpP.force ?_); conv => whnf) | (intro t ht; cases t <;> conv => whnf)
   ·have hz : (rf i).1 = 0 := by simp at ht; omega
    have e1 : lfW rf (i + 1) = L := by rw [h1, if_neg (by simp [hz])]; simp
    have e2 : gnW rf (i + 1) = K ++ [rf i] := by rw [h2, if_pos hz]
    refine N_i _ ?_ ?_
    ·first | trivial | assumption | omega
    ·first | refine ren_env [(2, 5)] ?_ ?_ ?_ trivial | refine ren_envB [(2, 5)] rfl rfl ?_ ?_ ?_ trivial
     ·repeat' first | exact trivial | refine ⟨⟨by first | rfl | assumption | exact congrArg (fun n => AV.d (iD n)) e_i | (rw [e2, List.length_append]; rfl) | (rw [e1]; rfl), rfl⟩, ?_⟩
     ·repeat' first | exact trivial | refine ⟨⟨ltB rfl, _, rfl, by first | rfl | assumption | exact get_ren rfl (by first | rfl | assumption | exact get_ren rfl (by rw [e1]; rfl) | exact get_ren rfl (by rw [e2, List.map_append]; exact congrArg some (dblk_snoc rfl))) | exact get_ren rfl (by rw [e1]; rfl) | exact get_ren rfl (by rw [e2, List.map_append]; exact congrArg some (dblk_snoc rfl)), by first | exact below1 rfl | exact below_dblk _ _ _ | exact below_arr rfl | exact below_dblk _ _ _⟩, ?_⟩
     ·repeat' first | exact trivial | (refine And.intro ?_ ?_) | (exact fun _ => rfl) | (exact fun h => absurd h (Nat.ne_of_beq_eq_false rfl))
   ·have hz : (rf i).1 ≠ 0 := by simp at ht; omega
    have e1 : lfW rf (i + 1) = L ++ [rf i] := by rw [h1, if_pos hz]
    have e2 : gnW rf (i + 1) = K := by rw [h2, if_neg hz]; simp
    refine N_i _ ?_ ?_
    ·first | trivial | assumption | omega
    ·first | refine ren_env [(1, 5)] ?_ ?_ ?_ trivial | refine ren_envB [(1, 5)] rfl rfl ?_ ?_ ?_ trivial
     ·repeat' first | exact trivial | refine ⟨⟨by first | rfl | assumption | exact congrArg (fun n => AV.d (iD n)) e_i | (rw [e1, List.length_append]; rfl) | (rw [e2]; rfl), rfl⟩, ?_⟩
     ·repeat' first | exact trivial | refine ⟨⟨ltB rfl, _, rfl, by first | rfl | assumption | exact get_ren rfl (by first | rfl | assumption | exact get_ren rfl (by rw [e2]; rfl) | exact get_ren rfl (by rw [e1, List.map_append]; exact congrArg some (dblk_snoc rfl))) | exact get_ren rfl (by rw [e2]; rfl) | exact get_ren rfl (by rw [e1, List.map_append]; exact congrArg some (dblk_snoc rfl)), by first | exact below1 rfl | exact below_dblk _ _ _ | exact below_arr rfl | exact below_dblk _ _ _⟩, ?_⟩
     ·repeat' first | exact trivial | (refine And.intro ?_ ?_) | (exact fun _ => rfl) | (exact fun h => absurd h (Nat.ne_of_beq_eq_false rfl))
  ·intro A_last I_last
   conv => whnf
   repeat (refine LookP.mk _ rfl ?_; conv => whnf)
   intro t ht
   cases t
   rotate_left
   ·exfalso; first | (simp at ht; done) | (simp at ht; omega)
   conv => whnf
   skip
   exact fin (asD_tup2 (asD_dblk rfl (by simp)) (asD_dblk rfl (by simp)))
end Go.Tz
namespace Go.Tz
open Go Go.AL Go.Proofs Go.Ma
variable {G : Nat → Option (List D)}
theorem chk269 : chkFn Tryz.f269 = true := by kernel_rfl
theorem ev269 (q : Ps) (f : FuncId) (first cap : List D) (b : Bool) (hf : PC Pr G f (first ++ [q.d] ++ cap) (.bool b)) : PC Pr G 269 [q.d, .rop [.fn f first cap] 0] (.bool (!b)) := by
 refine pc_walk pok Tryz.func269 chk269 ?_
 conv => whnf
 repeat' first | ((first | refine LookP.mk _ rfl ?_ | rw [forceL_eq] | refine pc_use3B hf rfl ?_); conv => whnf) | (intro t ht; cases t <;> conv => whnf)
 all_goals rw [ht]; exact fin rfl
theorem chk248 : chkFn Tryz.f248 = true := by kernel_rfl
theorem every248 (l : List Ps) (t : Bool) (f : FuncId) (first cap : List D) (p : Ps → Bool) (hn : l.length ≤ 1000) (hf : ∀ q, q ∈ l → PC Pr G f (first ++ [q.d] ++ cap) (.bool (p q))) : PC Pr G 248 [rowsD l t, .fn f first cap] (.bool (l.all p)) := by
 have hi := has196 (G := G) l t 269 [] [.rop [.fn f first cap] 0] (fun q => !p q) hn fun q hq => ev269 q f first cap (p q) (hf q hq)
 have e : l.all p = !l.any (fun q => !p q) := by
  rw [List.all_eq_not_any_not]
 rw [e]
 refine pc_walk pok Tryz.func248 chk248 ?_
 conv => whnf
 repeat' first | (refine pc_lendcB hi rfl ?_) | (intro t ht; cases t <;> conv => whnf)
 all_goals rw [ht]; exact fin rfl
theorem chk249 : chkFn Tryz.f249 = true := by kernel_rfl
theorem chks249 (q r : Ps) (l : List Ps) (t : Bool) : PC Pr G 249 [q.d, .rop [rowsD (r :: l) t] 0] (.bool (decide (q.w = r.w))) := by
 refine pc_walk pok Tryz.func249 chk249 ?_
 conv => whnf
 repeat' first | ((first | refine LookP.mk _ rfl ?_ | refine And.intro (by first | assumption | exact ⟨by kernel_rfl, rfl⟩ | decide | omega) ?_ | refine HpP.force ?_); conv => whnf) | (intro t ht; cases t <;> conv => whnf)
 all_goals
  refine fin ?_
  have e : (q.w == r.w) = decide (q.w = r.w) := by rw [Bool.eq_iff_iff]; simp
  rw [← e, ht]
theorem chk198 : chkFn Tryz.f198 = true := by kernel_rfl
theorem checks198 {w : Nat} (hw : 1 ≤ w ∧ w ≤ 12) (r : Ps) (l : List Ps) (t : Bool) (hn : (r :: l).length ≤ 24) (hv : ∀ q, q ∈ r :: l → Vl w q) : PC Pr G 198 [rowsD (r :: l) t] (iD 0) := by
 have hev := every248 (G := G) (r :: l) t 249 [] [.rop [rowsD (r :: l) t] 0] (fun q => decide (q.w = r.w)) (by omega) fun q _ => chks249 q r l t
 have hall : (r :: l).all (fun q => decide (q.w = r.w)) = true := List.all_eq_true.2 fun q hq => by simp [vl_w (hv q hq), vl_w (hv r (by simp))]
 rw [hall] at hev
 generalize hm : r :: l = m at hn hv hev
 refine pc_walk pok Tryz.func198 chk198 ?_
 conv => whnf
 repeat' first | (refine LookP.mk _ rfl ?_; conv => whnf) | (intro t ht; cases t <;> conv => whnf)
 rotate_left
 ·exfalso; simp at ht; omega
 ·exfalso
  have : 1 ≤ m.length := by rw [← hm]; simp
  simp at ht; omega
 refine for_use pok (fun i => ⟨[(1, .ptr 0 1 0 0), (14, .d (rowsD m t)), (15, .d (iD (m.map Ps.l).length)), (16, .d (iD i))], [(0, some (.arr 1 [[.d (rowsD m t)]]))], 1⟩) (m.length) (fun _ => True) (trivial) ?_ (by kernel_rfl) ?_ ?_
 ·refine keep_env (by first | exact Nat.zero_le _ | exact Nat.le_of_ble_eq_true rfl) ?_ ?_ trivial
  ·repeat' first | exact trivial | refine ⟨⟨by first | rfl | assumption, rfl⟩, ?_⟩
  ·repeat' first | exact trivial | refine ⟨⟨ltB rfl, _, rfl, by first | rfl | assumption, by first | exact below1 rfl | exact below_dblk _ _ _ | exact below_arr rfl⟩, ?_⟩
 ·intro i A_i h_i I_i N_i
  have e_i : iadd .i64 (i : Int) 1 = ((i + 1 : Nat) : Int) := iadd_nat (by first | omega | (simp at *; omega))
  have hc := check111 (G := G) m[i]
  rw [pck_vl hw (hv _ (List.getElem_mem h_i))] at hc
  conv => whnf
  repeat (refine LookP.mk _ rfl ?_; conv => whnf)
  intro t ht
  cases t
  ·exfalso; first | (simp at ht; done) | (simp at ht; omega)
  conv => whnf
  repeat' first | ((first | refine LookP.mk _ (by first | rfl | exact get_l h_i) ?_ | refine ShlP.mk _ (by first | (simp only [List.set, over, List.take, List.drop, List.append_eq, List.nil_append, List.cons_append, List.length]; rfl) | rfl) ?_ | refine And.intro (by first | assumption | exact ⟨by kernel_rfl, rfl⟩ | decide | omega) ?_ | refine pc_use hc ?_ | refine HpP.force ?_); conv => whnf) | (intro t ht; cases t <;> conv => whnf)
  ·refine N_i _ ?_ ?_
   ·first | trivial | assumption | omega
   ·refine keep_env (by first | exact Nat.zero_le _ | exact Nat.le_of_ble_eq_true rfl) ?_ ?_ trivial
    ·repeat' first | exact trivial | refine ⟨⟨by first | rfl | assumption | exact congrArg (fun n => AV.d (iD n)) e_i, rfl⟩, ?_⟩
    ·repeat' first | exact trivial | refine ⟨⟨ltB rfl, _, rfl, by first | rfl | assumption, by first | exact below1 rfl | exact below_dblk _ _ _ | exact below_arr rfl⟩, ?_⟩
  ·exact absurd ht (by decide)
 ·intro A_last I_last
  conv => whnf
  repeat (refine LookP.mk _ rfl ?_; conv => whnf)
  intro t ht
  cases t
  rotate_left
  ·exfalso; first | (simp at ht; done) | (simp at ht; omega)
  conv => whnf
  repeat' first | (refine LookP.mk _ rfl ?_; conv => whnf) | (refine pc_lendcB hev rfl ?_) | (intro t ht; cases t <;> conv => whnf)
  ·exfalso; cases ht
  ·exact fin rfl
theorem rowI_nat {w : Nat} (hw : w ≤ 12) {l : List Ps} (hv : ∀ q, q ∈ l → Vl w q) (hn : l.length ≤ 24) : (rowI l).map Rw.l = (l.mapIdx fun n q => ((nf q).2, 2 ^ n)).map Rn.l := by
 unfold rowI
 apply List.ext_getElem
 ·simp
 ·intro i h1 h2
  have hi : i < l.length := by simpa using h1
  simp only [List.getElem_map, List.getElem_mapIdx]
  obtain ⟨X, Z, P, he, g1, g2, g3⟩ := hv l[i] (List.getElem_mem hi)
  have hp : (2 : Nat) ^ w ≤ 2 ^ 12 := Nat.pow_le_pow_right (by decide) hw
  rw [he, nf_mk]
  show [iD (ior .i64 (X : Int) (ishl .i64 (Z : Int) (12 : Nat))), iD (ishl .i64 1 i)] = [iD ((X + 4096 * Z : Nat) : Int), iD ((2 ^ i : Nat) : Int)]
  rw [pow_nat (by omega), ishl_nat (by decide) (by omega), Nat.shiftLeft_eq, ior_nat (by omega) (by omega)]
  have e : X ||| Z * 2 ^ 12 = X + 4096 * Z := by
   have := Nat.two_pow_add_eq_or_of_lt (show X < 2 ^ 12 by omega) Z
   rw [Nat.or_comm, Nat.mul_comm Z, ← this]; omega
  rw [e]
def rowN (l : List Ps) : List Rn := l.mapIdx fun n q => ((nf q).2, 2 ^ n)
def redF (l : List Ps) : Nat → Rn := redW (rowN l) l.length
theorem rowN_lt {w : Nat} (hw : w ≤ 12) {l : List Ps} (hv : ∀ q, q ∈ l → Vl w q) (hn : l.length ≤ 24) : ∀ r, r ∈ rowN l → r.1 < 2 ^ 24 ∧ r.2 < 2 ^ 24 := by
 intro r hr
 obtain ⟨i, hi, rfl⟩ := List.mem_mapIdx.1 hr
 obtain ⟨X, Z, P, he, g1, g2, g3⟩ := hv l[i] (List.getElem_mem hi)
 have hp : (2 : Nat) ^ w ≤ 2 ^ 12 := Nat.pow_le_pow_right (by decide) hw
 rw [he, nf_mk]
 refine ⟨by show X + 4096 * Z < 2 ^ 24; omega, Nat.pow_lt_pow_right (by decide) (by omega)⟩
theorem rowN_len (l : List Ps) : (rowN l).length = l.length := by simp [rowN]
theorem redu199 {w : Nat} (hw : w ≤ 12) {l : List Ps} (hv : ∀ q, q ∈ l → Vl w q) (hn : l.length ≤ 24) : PC Pr GG 199 [.sl ((rowI l).map Rw.l) false] (.tup [rnD (lfW (redF l) l.length) false, rnD (gnW (redF l) l.length) false]) := by
 rw [rowI_nat hw hv hn]
 have := red199 (rowN l) false (by rw [rowN_len]; omega) (rowN_lt hw hv hn)
 rw [rowN_len] at this
 exact this
theorem chk115 : chkFn Tryz.f115 = true := by kernel_rfl
theorem ind115 {w : Nat} (hw : 1 ≤ w ∧ w ≤ 12) (l : List Ps) (t : Bool) (hpos : 0 < l.length) (hn : l.length ≤ 24) (hv : ∀ q, q ∈ l → Vl w q) : PC Pr GG 115 [rowsD l t] (.tup [.bool (decide ((gnW (redF l) l.length).length = 0)), iD 0]) := by
 have h1 : PC Pr GG 198 [rowsD l t] (iD 0) := by
  cases l with
  | nil => simp at hpos
  | cons r l => exact checks198 hw r l t hn hv
 have h2 := rows200 (G := GG) l t (by omega)
 have h3 := redu199 hw.2 hv hn
 generalize gnW (redF l) l.length = K at h3 ⊢
 generalize lfW (redF l) l.length = L at h3
 generalize (rowI l).map Rw.l = R at h2 h3
 refine pc_walk pok Tryz.func115 chk115 ?_
 conv => whnf
 repeat' first | ((first | refine pc_use h1 ?_ | refine pc_use h2 ?_ | refine pc_use h3 ?_); conv => whnf) | (intro t ht; cases t <;> conv => whnf)
 ·have e : K.length ≠ 0 := by intro h; simp [h] at ht
  rw [decide_eq_false e]; exact fin rfl
 ·have e : K.length = 0 := by simp at ht; simp [ht]
  rw [decide_eq_true e]; exact fin rfl
 ·exact absurd ht (by decide)
end Go.Tz
namespace Go.Tz
open Go Go.AL Go.Proofs Go.Ma
variable {G : Nat → Option (List D)}
theorem get_rn {l : List Rn} {k : Nat} (h : k < l.length) : (l.map Rn.l)[(k : Int).toNat]? = some (l[k]).l := by simp [h]
theorem rn_beq (q r : Rn) : ([(q.1 : Int), (q.2 : Int)] == [(r.1 : Int), (r.2 : Int)]) = decide (q = r) := by
 obtain ⟨a, b⟩ := q
 obtain ⟨a', b'⟩ := r
 rw [Bool.eq_iff_iff]; simp; omega
def oth (r : Rn) (l : List Rn) : Nat := l.foldl (fun o x => if x = r then o else o ||| x.1) 0
theorem oth_snoc {r : Rn} {l : List Rn} {i : Nat} (h : i < l.length) : oth r (l.take (i + 1)) = if l[i] = r then oth r (l.take i) else oth r (l.take i) ||| l[i].1 := by
 unfold oth
 rw [take_snoc h, List.foldl_append]; rfl
theorem oth_lt {r : Rn} : ∀ {l : List Rn}, (∀ x, x ∈ l → x.1 < 2 ^ 24) → oth r l < 2 ^ 24 := by
 intro l h
 have key : ∀ (l : List Rn) (o : Nat), o < 2 ^ 24 → (∀ x, x ∈ l → x.1 < 2 ^ 24) → l.foldl (fun o x => if x = r then o else o ||| x.1) o < 2 ^ 24 := by
  intro l
  induction l with
  | nil => exact fun o h _ => h
  | cons x l ih =>
   intro o ho hl
   refine ih _ ?_ fun y hy => hl y (List.mem_cons_of_mem _ hy)
   show (if x = r then o else o ||| x.1) < 2 ^ 24
   split
   ·exact ho
   ·exact Nat.or_lt_two_pow ho (hl x (by simp))
 exact key l 0 (by decide) h
def andn (a b : Nat) : Nat := a ^^^ (a &&& b)
theorem andn_bit (a b j : Nat) : (andn a b).testBit j = (a.testBit j && !b.testBit j) := by
 unfold andn
 rw [Nat.testBit_xor, Nat.testBit_and]
 cases a.testBit j <;> cases b.testBit j <;> rfl
theorem andn_lt {a b k : Nat} (h : a < 2 ^ k) : andn a b < 2 ^ k := Nat.xor_lt_two_pow h (Nat.lt_of_le_of_lt Nat.and_le_left h)
theorem iandNot_nat {a b : Nat} (ha : a < 2 ^ 63) (hb : b < 2 ^ 63) : iandNot .i64 a b = ((andn a b : Nat) : Int) := by
 unfold iandNot
 show IntKind.i64.wrap ((BitVec.ofInt 64 a &&& ~~~ BitVec.ofInt 64 b).toNat : Int) = _
 have e : (BitVec.ofInt 64 (a : Int) &&& ~~~ BitVec.ofInt 64 (b : Int)).toNat = andn a b := by
  refine Nat.eq_of_testBit_eq fun j => ?_
  rw [andn_bit, BitVec.toNat_and, Nat.testBit_and, ofInt_nat ha]
  rw [BitVec.toNat_not, ofInt_nat hb]
  by_cases hj : j < 64
  ·have : 2 ^ 64 - 1 - b = 2 ^ 64 - (b + 1) := by omega
   rw [this, Nat.testBit_two_pow_sub_succ (by omega)]
   simp [hj]
  ·rw [Nat.testBit_lt_two_pow (Nat.lt_of_lt_of_le ha (Nat.pow_le_pow_right (by decide) (by omega)))]; simp
 rw [e]
 have := andn_lt (b := b) ha
 exact wrap_small (by omega) (by omega)
def ownN (l : List Rn) (r : Rn) : Nat := tzN (andn r.1 (oth r l))
theorem tz_le (n : Nat) (h : n < 2 ^ 24) : tzN n ≤ 64 := by
 unfold tzN; split
 ·omega
 ·rename_i h0; have := (low_spec h0 h).1; omega
theorem chk246 : chkFn Tryz.f246 = true := by kernel_rfl
theorem own246 (l : List Rn) (t : Bool) (r : Rn) (hn : l.length ≤ 1000) (hr : r.1 < 2 ^ 24) (hl : ∀ x, x ∈ l → x.1 < 2 ^ 24) : PC Pr GG 246 [rnD l t, .agg r.l] (iD (ownN l r)) := by
 refine pc_walk pok Tryz.func246 chk246 ?_
 conv => whnf
 skip
 refine for_use pok (fun i => ⟨[(3, .ptr 0 2 0 0), (5, .d (iD (oth r (l.take i)))), (8, .d (rnD l t)), (9, .d (iD (l.map Rn.l).length)), (10, .d (iD i))], [(0, some (.arr 2 [r.l.map AV.d]))], 1⟩) (l.length) (fun _ => True) (trivial) ?_ (by kernel_rfl) ?_ ?_
 ·refine keep_env (by first | exact Nat.zero_le _ | exact Nat.le_of_ble_eq_true rfl) ?_ ?_ trivial
  ·repeat' first | exact trivial | refine ⟨⟨by first | rfl | assumption, rfl⟩, ?_⟩
  ·repeat' first | exact trivial | refine ⟨⟨ltB rfl, _, rfl, by first | rfl | assumption, by first | exact below1 rfl | exact below_dblk _ _ _ | exact below_arr rfl⟩, ?_⟩
 ·intro i A_i h_i I_i N_i
  have e_i : iadd .i64 (i : Int) 1 = ((i + 1 : Nat) : Int) := iadd_nat (by first | omega | (simp at *; omega))
  have hs := oth_snoc (r := r) h_i
  have ho : oth r (l.take i) < 2 ^ 24 := oth_lt fun x hx => hl x (List.mem_of_mem_take hx)
  have hx := hl _ (List.getElem_mem h_i)
  generalize oth r (l.take i) = o at hs ho ⊢
  conv => whnf
  repeat (refine LookP.mk _ rfl ?_; conv => whnf)
  intro t ht
  cases t
  ·exfalso; first | (simp at ht; done) | (simp at ht; omega)
  conv => whnf
  repeat' first | ((first | refine LookP.mk _ (by first | rfl | exact get_rn h_i) ?_ | refine ShlP.mk _ (by first | (simp only [List.set, over, List.take, List.drop, List.append_eq, List.nil_append, List.cons_append, List.length]; rfl) | rfl) ?_ | refine And.intro (by first | assumption | exact ⟨by kernel_rfl, rfl⟩ | decide | omega) ?_ | refine HpP.force ?_); conv => whnf) | (intro t ht; cases t <;> conv => whnf)
  ·have e : l[i] = r := by
    have q := rn_beq l[i] r
    cases c : ([(l[i].1 : Int), (l[i].2 : Int)] == [(r.1 : Int), (r.2 : Int)]) with
    | true => rw [c] at q; simpa using q.symm
    | false => rw [c] at ht; cases ht
   rw [if_pos e] at hs
   refine N_i _ ?_ ?_
   ·first | trivial | assumption | omega
   ·refine keep_env (by first | exact Nat.zero_le _ | exact Nat.le_of_ble_eq_true rfl) ?_ ?_ trivial
    ·repeat' first | exact trivial | refine ⟨⟨by first | rfl | assumption | exact congrArg (fun n => AV.d (iD n)) e_i | (rw [hs]; rfl), rfl⟩, ?_⟩
    ·repeat' first | exact trivial | refine ⟨⟨ltB rfl, _, rfl, by first | rfl | assumption, by first | exact below1 rfl | exact below_dblk _ _ _ | exact below_arr rfl⟩, ?_⟩
  ·have e : l[i] ≠ r := by
    intro e
    have q := rn_beq l[i] r
    rw [e] at q
    rw [e, q] at ht
    simp at ht
   rw [if_neg e] at hs
   rw [ior_nat (by omega) (by omega)]
   refine N_i _ ?_ ?_
   ·first | trivial | assumption | omega
   ·refine keep_env (by first | exact Nat.zero_le _ | exact Nat.le_of_ble_eq_true rfl) ?_ ?_ trivial
    ·repeat' first | exact trivial | refine ⟨⟨by first | rfl | assumption | exact congrArg (fun n => AV.d (iD n)) e_i | (rw [hs]; rfl), rfl⟩, ?_⟩
    ·repeat' first | exact trivial | refine ⟨⟨ltB rfl, _, rfl, by first | rfl | assumption, by first | exact below1 rfl | exact below_dblk _ _ _ | exact below_arr rfl⟩, ?_⟩
 ·intro A_last I_last
  rw [List.take_length]
  have ho : oth r l < 2 ^ 24 := oth_lt hl
  have htz := tz_c (andn_lt (b := oth r l) hr)
  rw [← iandNot_nat (by omega) (by omega)] at htz
  unfold ownN
  generalize tzN (andn r.1 (oth r l)) = z at htz ⊢
  generalize oth r l = o at htz ⊢
  conv => whnf
  repeat (refine LookP.mk _ rfl ?_; conv => whnf)
  intro t ht
  cases t
  rotate_left
  ·exfalso; first | (simp at ht; done) | (simp at ht; omega)
  conv => whnf
  repeat' first | ((first | refine LookP.mk _ rfl ?_ | refine pc_use htz ?_); conv => whnf)
  exact fin rfl
def fstp (L : List Rn) (a : Nat × Nat) (r : Rn) : Nat × Nat := if a.1.testBit (ownN L r) = true then (a.1 ^^^ r.1, a.2 ^^^ r.2) else a
def fndS (L : List Rn) (v i : Nat) : Nat × Nat := (L.take i).foldl (fstp L) (v, 0)
theorem fnd_snoc {L : List Rn} {v i : Nat} (h : i < L.length) : fndS L v (i + 1) = fstp L (fndS L v i) L[i] := by
 unfold fndS
 rw [take_snoc h, List.foldl_append]; rfl
theorem fnd_lt {L : List Rn} {v : Nat} (hv : v < 2 ^ 24) (hL : ∀ x, x ∈ L → x.1 < 2 ^ 24 ∧ x.2 < 2 ^ 24) (i : Nat) : (fndS L v i).1 < 2 ^ 24 ∧ (fndS L v i).2 < 2 ^ 24 := by
 have key : ∀ (l : List Rn) (a : Nat × Nat), (∀ x, x ∈ l → x.1 < 2 ^ 24 ∧ x.2 < 2 ^ 24) → a.1 < 2 ^ 24 ∧ a.2 < 2 ^ 24 → (l.foldl (fstp L) a).1 < 2 ^ 24 ∧ (l.foldl (fstp L) a).2 < 2 ^ 24 := by
  intro l
  induction l with
  | nil => exact fun a _ h => h
  | cons x l ih =>
   intro a hl ha
   refine ih _ (fun y hy => hl y (List.mem_cons_of_mem _ hy)) ?_
   unfold fstp
   have hx := hl x (by simp)
   split
   ·exact ⟨Nat.xor_lt_two_pow ha.1 hx.1, Nat.xor_lt_two_pow ha.2 hx.2⟩
   ·exact ha
 exact key _ _ (fun x hx => hL x (List.mem_of_mem_take hx)) ⟨hv, Nat.two_pow_pos 24⟩
def allS (w : Int) (l : List Ps) (m : Nat) : Nat → Ps
 | 0 => ⟨w, 0, 0, 0⟩
 | i + 1 => if m.testBit i = true then timS (allS w l m i) (l.getD i Ps.z0) else allS w l m i
theorem allS_w (w : Int) (l : List Ps) (m : Nat) : ∀ i, (allS w l m i).w = w
 | 0 => rfl
 | i + 1 => by
  simp only [allS]
  split
  ·exact allS_w w l m i
  ·exact allS_w w l m i
def outL (m i : Nat) : List (List D) := ((List.range i).filter fun n => m.testBit n).map fun n : Nat => [iD (n : Int)]
theorem outL_snoc (m i : Nat) : outL m (i + 1) = if m.testBit i = true then outL m i ++ [[iD i]] else outL m i := by
 unfold outL
 rw [List.range_succ, List.filter_append, List.map_append]
 by_cases h : m.testBit i = true
 ·rw [if_pos h]; simp [h]
 ·rw [if_neg h]; simp [h]
theorem outL_le (m i : Nat) : (outL m i).length ≤ i := by
 have := List.length_filter_le (fun n => m.testBit n) (List.range i)
 simpa [outL] using this
theorem dw_any3 (a b c : D) : DW (.tup [a, b, c]) (.tup [.any, b, c]) := by
 intro w RO x h
 cases h with
 | tup _ cs hs h =>
  refine .tup _ cs hs fun i d hd => ?_
  match i, hd with
  | 0, hd => simp at hd; subst hd; exact .any _
  | 1, hd => exact h 1 d hd
  | 2, hd => exact h 2 d hd
  | i + 3, hd => simp at hd
theorem asD_tup3 {H : AHeap} {v1 v2 v3 : AV} {d1 d2 d3 : D} (h1 : AsD H v1 d1) (h2 : AsD H v2 d2) (h3 : AsD H v3 d3) : AsD H (.tup [v1, v2, v3]) (.tup [d1, d2, d3]) := by
 refine .tup _ _ rfl fun j v d hv hd => ?_
 match j, hv, hd with
 | 0, hv, hd => simp at hv hd; subst hv hd; exact h1
 | 1, hv, hd => simp at hv hd; subst hv hd; exact h2
 | 2, hv, hd => simp at hv hd; subst hv hd; exact h3
 | j + 3, hv, _ => simp at hv
def fndD (l : List Ps) (L : List Rn) (p : Ps) : D := if (fndS L (nf p).2 L.length).1 = 0 then .tup [.any, iD ((iadd .i64 (isub .i64 p.p (allS p.w l (fndS L (nf p).2 L.length).2 l.length).p) 4).tmod 4), iD 0] else .tup [.any, iD 0, iD 6]
theorem lf_lt {rf : Nat → Rn} {n : Nat} (h : ∀ j, (rf j).1 < 2 ^ 24 ∧ (rf j).2 < 2 ^ 24) : ∀ x, x ∈ lfW rf n → x.1 < 2 ^ 24 ∧ x.2 < 2 ^ 24 := by
 intro x hx
 obtain ⟨j, _, rfl⟩ := List.mem_map.1 (List.mem_filter.1 hx).1
 exact h j
theorem chk194 : chkFn Tryz.f194 = true := by kernel_rfl
theorem find194 {w : Nat} (hw : 1 ≤ w ∧ w ≤ 12) (l : List Ps) (t : Bool) (p : Ps) (hpos : 0 < l.length) (hn : l.length ≤ 24) (hv : ∀ q, q ∈ l → Vl w q) (hp : Vl w p) (hg : gnW (redF l) l.length = []) :
  PC Pr GG 194 [rowsD l t, p.d] (fndD l (lfW (redF l) l.length) p) := by
 have h1 : PC Pr GG 198 [rowsD l t] (iD 0) := by
  cases l with
  | nil => simp at hpos
  | cons r l => exact checks198 hw r l t hn hv
 have h2 := rows200 (G := GG) l t (by omega)
 have h3 := redu199 hw.2 hv hn
 have h4 := check111 (G := GG) p
 rw [pck_vl hw hp] at h4
 rw [hg] at h3
 have hL := lf_lt (rf := redF l) (n := l.length) (redW_lt (rowN_lt hw.2 hv hn) l.length)
 have hlen : (lfW (redF l) l.length).length ≤ l.length := by
  have := List.length_filter_le (fun r : Rn => decide (r.1 ≠ 0)) ((List.range l.length).map (redF l)); simpa [lfW] using this
 have hvp : (nf p).2 < 2 ^ 24 := by
  obtain ⟨X, Z, P, rfl, g1, g2, g3⟩ := hp
  have hp : (2 : Nat) ^ w ≤ 2 ^ 12 := Nat.pow_le_pow_right (by decide) hw.2
  rw [nf_mk]; show X + 4096 * Z < 2 ^ 24; omega
 have hbits : ior .i64 p.x (ishl .i64 p.z 12) = (((nf p).2 : Nat) : Int) := by
  obtain ⟨X, Z, P, rfl, g1, g2, g3⟩ := hp
  have hp : (2 : Nat) ^ w ≤ 2 ^ 12 := Nat.pow_le_pow_right (by decide) hw.2
  rw [nf_mk]
  show ior .i64 (X : Int) (ishl .i64 (Z : Int) (12 : Nat)) = ((X + 4096 * Z : Nat) : Int)
  rw [ishl_nat (by decide) (by omega), Nat.shiftLeft_eq, ior_nat (by omega) (by omega)]
  have e : X ||| Z * 2 ^ 12 = X + 4096 * Z := by
   have := Nat.two_pow_add_eq_or_of_lt (show X < 2 ^ 12 by omega) Z
   rw [Nat.or_comm, Nat.mul_comm Z, ← this]; omega
  rw [e]
 generalize hL0 : lfW (redF l) l.length = L at h3 hL hlen
 clear hL0 hg
 generalize (rowI l).map Rw.l = R at h2 h3
 unfold fndD
 generalize (nf p).2 = v at hvp hbits ⊢
 have hl0 : ∃ r, r ∈ l ∧ l[0]? = some r := ⟨l[0], List.getElem_mem hpos, by rw [List.getElem?_eq_getElem hpos]⟩
 have hg0 : (l.map Ps.l)[(0 : Int).toNat]? = some (l[0]).l := get_l0 hpos
 have hwp : p.w = (l[0]).w := by rw [vl_w hp, vl_w (hv _ (List.getElem_mem hpos))]
 have hdw : ∀ v : AV, ∀ H : AHeap, True := fun _ _ => trivial
 refine pc_freezeW (isFn_of Tryz.func194 chk194) (fn_walk pok Tryz.func194 chk194 ?_)
 conv => whnf
 repeat' first | ((first | refine LookP.mk _ (by first | rfl | exact hg0) ?_ | refine And.intro (by first | assumption | exact ⟨by kernel_rfl, rfl⟩ | decide | omega) ?_ | refine pc_use h1 ?_ | refine pc_use h2 ?_ | refine pc_use h3 ?_ | refine pc_use h4 ?_ | refine HpP.force ?_); conv => whnf) | (intro t ht; cases t <;> conv => whnf)
 rotate_left
 ·exact absurd ht (by decide)
 ·exfalso; simp at ht; exact ht hwp
 ·exact absurd ht (by decide)
 ·exact absurd ht (by decide)
 refine for_use pok (fun i => ⟨[(0, .d (rowsD l t)), (3, .ptr 0 4 0 0), (9, .d (rnD L false)), (11, .d (iD (fndS L v i).1)), (12, .d (iD (fndS L v i).2)), (52, .d (rnD L false)), (53, .d (iD (L.map Rn.l).length)), (54, .d (iD i))], [(0, some (.arr 4 [p.l.map AV.d]))], 1⟩) (L.length) (fun _ => True) (trivial) ?_ (by kernel_rfl) ?_ ?_
 ·refine keep_env (by first | exact Nat.zero_le _ | exact Nat.le_of_ble_eq_true rfl) ?_ ?_ trivial
  ·repeat' first | exact trivial | refine ⟨⟨by first | rfl | assumption | exact congrArg (fun n => AV.d (iD n)) hbits, rfl⟩, ?_⟩
  ·repeat' first | exact trivial | refine ⟨⟨ltB rfl, _, rfl, by first | rfl | assumption, by first | exact below1 rfl | exact below_dblk _ _ _ | exact below_arr rfl⟩, ?_⟩
 ·intro i A_i h_i I_i N_i
  have e_i : iadd .i64 (i : Int) 1 = ((i + 1 : Nat) : Int) := iadd_nat (by first | omega | (simp at *; omega))
  have hs := fnd_snoc (v := v) h_i
  have hb := fnd_lt hvp hL i
  have hr := hL _ (List.getElem_mem h_i)
  have ho := own246 L false L[i] (by omega) hr.1 fun x hx => (hL x hx).1
  have hle : ownN L L[i] ≤ 64 := tz_le _ (andn_lt hr.1)
  unfold fstp at hs
  generalize fndS L v i = a at hs hb ⊢
  generalize ownN L L[i] = b at hs ho hle
  conv => whnf
  repeat (refine LookP.mk _ rfl ?_; conv => whnf)
  intro t ht
  cases t
  ·exfalso; first | (simp at ht; done) | (simp at ht; omega)
  conv => whnf
  repeat' first | ((first | refine LookP.mk _ (by first | rfl | exact get_rn h_i) ?_ | refine ShlP.mk _ (by first | (simp only [List.set, over, List.take, List.drop, List.append_eq, List.nil_append, List.cons_append, List.length]; rfl) | rfl) ?_ | refine And.intro (by first | assumption | exact ⟨by kernel_rfl, rfl⟩ | decide | omega) ?_ | refine pc_use ho ?_ | refine HpP.force ?_); conv => whnf) | (intro t ht; cases t <;> conv => whnf)
  ·rw [bit_nat hle (by omega)] at ht
   have e : a.1.testBit b = false := by
    cases c : a.1.testBit b with
    | false => rfl
    | true => rw [c] at ht; simp at ht
   rw [e, if_neg (by simp)] at hs
   refine N_i _ ?_ ?_
   ·first | trivial | assumption | omega
   ·refine keep_env (by first | exact Nat.zero_le _ | exact Nat.le_of_ble_eq_true rfl) ?_ ?_ trivial
    ·repeat' first | exact trivial | refine ⟨⟨by first | rfl | assumption | exact congrArg (fun n => AV.d (iD n)) e_i | (rw [hs]; rfl), rfl⟩, ?_⟩
    ·repeat' first | exact trivial | refine ⟨⟨ltB rfl, _, rfl, by first | rfl | assumption, by first | exact below1 rfl | exact below_dblk _ _ _ | exact below_arr rfl⟩, ?_⟩
  ·rw [bit_nat hle (by omega)] at ht
   have e : a.1.testBit b = true := by
    cases c : a.1.testBit b with
    | true => rfl
    | false => rw [c] at ht; simp at ht
   rw [e, if_pos rfl] at hs
   rw [ixor_nat (by omega) (by omega), ixor_nat (by omega) (by omega)]
   refine N_i _ ?_ ?_
   ·first | trivial | assumption | omega
   ·refine keep_env (by first | exact Nat.zero_le _ | exact Nat.le_of_ble_eq_true rfl) ?_ ?_ trivial
    ·repeat' first | exact trivial | refine ⟨⟨by first | rfl | assumption | exact congrArg (fun n => AV.d (iD n)) e_i | (rw [hs]; rfl), rfl⟩, ?_⟩
    ·repeat' first | exact trivial | refine ⟨⟨ltB rfl, _, rfl, by first | rfl | assumption, by first | exact below1 rfl | exact below_dblk _ _ _ | exact below_arr rfl⟩, ?_⟩
 ·intro A_last I_last
  have hlt := fnd_lt hvp hL L.length
  generalize fndS L v L.length = a at hlt ⊢
  have ha : ∀ i : Nat, i ≤ 64 → iand .i64 (ishr .i64 (a.2 : Int) (i : Int)) 1 = if a.2.testBit i = true then 1 else 0 := fun i hi => bit_nat hi (Nat.lt_of_lt_of_le hlt.2 (Nat.pow_le_pow_right (by decide) (by decide)))
  conv => whnf
  repeat (refine LookP.mk _ rfl ?_; conv => whnf)
  intro t ht
  cases t
  rotate_left
  ·exfalso; first | (simp at ht; done) | (simp at ht; omega)
  conv => whnf
  repeat' first | ((first | refine LookP.mk _ rfl ?_ | refine ShlP.mk _ (by first | (simp only [List.set, over, List.take, List.drop, List.append_eq, List.nil_append, List.cons_append, List.length]; rfl) | rfl) ?_ | refine HpP.force ?_); conv => whnf) | (intro t ht; cases t <;> conv => whnf)
  rotate_left
  ·have e : a.1 ≠ 0 := by simp at ht; omega
   refine fin ⟨_, .d _, ?_⟩
   rw [if_neg e]
   exact dw_any3 _ _ _
  have e : a.1 = 0 := by simp at ht; omega
  rw [if_pos e]
  refine for_use pok (fun i => ⟨[(3, .ptr 0 4 0 0), (12, .d (iD a.2)), (16, .sl 2 1 0 (outL a.2 i).length (outL a.2 i).length false), (17, .ptr 1 4 0 0), (80, .d (rowsD l t)), (81, .d (iD (l.map Ps.l).length)), (82, .d (iD i))], [(0, some (.arr 4 [p.l.map AV.d])), (1, some (.arr 4 [(allS p.w l a.2 i).l.map AV.d])), (2, some (dblk 1 (outL a.2 i)))], 3⟩) (l.length) (fun _ => True) (trivial) ?_ (by kernel_rfl) ?_ ?_
  ·refine Sub.trans (sub_nil (t := 16) (S := 1) (Nat.zero_le _) rfl) ?_
   refine keep_env (by first | exact Nat.zero_le _ | exact Nat.le_of_ble_eq_true rfl) ?_ ?_ trivial
   ·repeat' first | exact trivial | refine ⟨⟨by first | rfl | assumption, rfl⟩, ?_⟩
   ·repeat' first | exact trivial | refine ⟨⟨ltB rfl, _, rfl, by first | rfl | assumption, by first | exact below1 rfl | exact below_dblk _ _ _ | exact below_arr rfl⟩, ?_⟩
  ·intro i A_i h_i I_i N_i
   have e_i : iadd .i64 (i : Int) 1 = ((i + 1 : Nat) : Int) := iadd_nat (by first | omega | (simp at *; omega))
   have hs := outL_snoc a.2 i
   have hle := outL_le a.2 i
   have hs2 : allS p.w l a.2 (i + 1) = if a.2.testBit i = true then timS (allS p.w l a.2 i) l[i] else allS p.w l a.2 i := by
    simp only [allS, List.getD_eq_getElem?_getD, List.getElem?_eq_getElem h_i, Option.getD_some]
   have hgw := allS_w p.w l a.2 i
   generalize outL a.2 i = O at hs hle
   generalize allS p.w l a.2 i = g at hs2 hgw
   have hb := ha i (by omega)
   have hgb : 0 ≤ g.w ∧ g.w ≤ 24 := by rw [hgw, vl_w hp]; omega
   conv => whnf
   repeat (refine LookP.mk _ rfl ?_; conv => whnf)
   intro t ht
   cases t
   ·exfalso; first | (simp at ht; done) | (simp at ht; omega)
   conv => whnf
   repeat' first | ((first | refine LookP.mk _ (by first | rfl | exact get_l h_i) ?_ | refine ShlP.mk _ (by first | (simp only [List.set, over, List.take, List.drop, List.append_eq, List.nil_append, List.cons_append, List.length]; rfl) | rfl) ?_ | (refine And.intro (by first | exact Nat.le_refl _ | exact ⟨by simp, by decide, by show (2 * (O.length + 1) + 192) * 8 ≤ 281474976710656; omega⟩ | assumption | exact ⟨by kernel_rfl, rfl⟩ | decide | omega) ?_) | rw [nbeq] | refine pc_givec (tim142 g [l[i]] true hgb (by simp)) rfl ?_ | refine HpP.force ?_); conv => whnf) | (intro t ht; cases t <;> conv => whnf)
   ·have e : a.2.testBit i = false := by
     rw [hb] at ht
     cases c : a.2.testBit i with
     | false => rfl
     | true => rw [c] at ht; simp at ht
    rw [e, if_neg (by simp)] at hs hs2
    refine N_i _ ?_ ?_
    ·first | trivial | assumption | omega
    ·refine keep_env (by first | exact Nat.zero_le _ | exact Nat.le_of_ble_eq_true rfl) ?_ ?_ trivial
     ·repeat' first | exact trivial | refine ⟨⟨by first | rfl | assumption | exact congrArg (fun n => AV.d (iD n)) e_i | (rw [hs]; rfl), rfl⟩, ?_⟩
     ·repeat' first | exact trivial | refine ⟨⟨ltB rfl, _, rfl, by first | rfl | assumption | (rw [hs]; rfl) | (rw [hs2]; rfl), by first | exact below1 rfl | exact below_dblk _ _ _ | exact below_arr rfl | exact below_dblk _ _ _⟩, ?_⟩
   ·have e : a.2.testBit i = true := by
     rw [hb] at ht
     cases c : a.2.testBit i with
     | true => rfl
     | false => rw [c] at ht; simp at ht
    rw [e, if_pos rfl] at hs hs2
    refine N_i _ ?_ ?_
    ·first | trivial | assumption | omega
    ·first | refine ren_env [(2, 5)] ?_ ?_ ?_ trivial | refine ren_envB [(2, 5)] rfl rfl ?_ ?_ ?_ trivial
     ·repeat' first | exact trivial | refine ⟨⟨by first | rfl | assumption | exact congrArg (fun n => AV.d (iD n)) e_i | (rw [hs, List.length_append]; rfl), rfl⟩, ?_⟩
     ·repeat' first | exact trivial | refine ⟨⟨ltB rfl, _, rfl, by first | rfl | assumption | exact get_ren rfl (by first | rfl | assumption | exact get_ren rfl (by rw [hs]; exact congrArg some (dblk_snoc rfl)) | (rw [hs2]; rfl)) | exact get_ren rfl (by rw [hs]; exact congrArg some (dblk_snoc rfl)) | (rw [hs2]; rfl), by first | exact below1 rfl | exact below_dblk _ _ _ | exact below_arr rfl | exact below_dblk _ _ _⟩, ?_⟩
     ·repeat' first | exact trivial | (refine And.intro ?_ ?_) | (exact fun _ => rfl) | (exact fun h => absurd h (Nat.ne_of_beq_eq_false rfl))
  ·intro A_last I_last
   conv => whnf
   repeat (refine LookP.mk _ rfl ?_; conv => whnf)
   intro t ht
   cases t
   rotate_left
   ·exfalso; first | (simp at ht; done) | (simp at ht; omega)
   conv => whnf
   repeat' first | ((first | refine LookP.mk _ rfl ?_ | refine And.intro (by first | assumption | exact ⟨by kernel_rfl, rfl⟩ | decide | omega) ?_ | refine HpP.force ?_); conv => whnf)
   refine fin ⟨_, asD_tup3 (asD_dblk rfl rfl) (.d _) (.d _), ?_⟩
   exact dw_any3 _ _ _
end Go.Tz
namespace Go.Tz
open Go Go.AL Go.Proofs Go.Ma
variable {G : Nat → Option (List D)}
theorem chk192 : chkFn Tryz.f192 = true := by kernel_rfl
theorem has192 (c : Nat) (q : Ps) : PC Pr G 192 [.agg [iD (c % 2 : Nat), iD (c / 2 : Nat)], q.d] (iD (bitI (if (c : Int) % 2 = 0 then q.x else q.z) ((c : Int) / 2))) := by
 have h : c % 2 = 0 ∨ c % 2 = 1 := by omega
 have e2 : (c : Int) / 2 = ((c / 2 : Nat) : Int) := by omega
 have e1 : (if (c : Int) % 2 = 0 then q.x else q.z) = if c % 2 = 0 then q.x else q.z := by
  by_cases e : c % 2 = 0
  ·rw [if_pos e, if_pos (by omega)]
  ·rw [if_neg e, if_neg (by omega)]
 rw [e1, e2]
 generalize c / 2 = d
 refine pc_walk pok Tryz.func192 chk192 ?_
 rcases h with h | h
 ·rw [h, if_pos rfl]
  conv => whnf
  repeat' first | ((first | refine LookP.mk _ rfl ?_ | refine ShlP.mk _ (by first | (simp only [List.set, over, List.take, List.drop, List.append_eq, List.nil_append, List.cons_append, List.length]; rfl) | rfl) ?_ | refine And.intro (by first | assumption | exact ⟨by kernel_rfl, rfl⟩ | decide | omega) ?_ | refine HpP.force ?_); conv => whnf)
  exact fin rfl
 ·rw [h, if_neg (by decide)]
  conv => whnf
  repeat' first | ((first | refine LookP.mk _ rfl ?_ | refine ShlP.mk _ (by first | (simp only [List.set, over, List.take, List.drop, List.append_eq, List.nil_append, List.cons_append, List.length]; rfl) | rfl) ?_ | refine And.intro (by first | assumption | exact ⟨by kernel_rfl, rfl⟩ | decide | omega) ?_ | refine HpP.force ?_); conv => whnf)
  exact fin rfl
theorem chk193 : chkFn Tryz.f193 = true := by kernel_rfl
theorem has193 (c : Nat) (q : Ps) : PC Pr G 193 [q.d, .rop [iD (c % 2 : Nat), iD (c / 2 : Nat)] 0] (.bool (bitB q c)) := by
 have hh := has192 (G := G) c q
 have e : bitB q c = (bitI (if (c : Int) % 2 = 0 then q.x else q.z) ((c : Int) / 2) == 1) := by
  unfold bitB; rw [Bool.eq_iff_iff]; simp
 rw [e]
 generalize bitI (if (c : Int) % 2 = 0 then q.x else q.z) ((c : Int) / 2) = b at hh ⊢
 refine pc_walk pok Tryz.func193 chk193 ?_
 conv => whnf
 repeat' first | ((first | refine LookP.mk _ rfl ?_ | refine pc_use hh ?_); conv => whnf) | (intro t ht; cases t <;> conv => whnf)
 all_goals rw [ht]; exact fin rfl
theorem psB_list (l : List Ps) : Blk.arr 4 ((l.map Ps.l).map fun x => x.map AV.d) = dblk 4 ((List.range l.length).map fun j => Ps.l (l.getD j Ps.z0)) := by
 unfold dblk
 congr 2
 apply List.ext_getElem
 ·simp
 ·intro j h1 h2
  have h3 : j < l.length := by simpa using h1
  simp [List.getD_eq_getElem?_getD, List.getElem?_eq_getElem h3]
theorem swap_vl {w n a f : Nat} {rf : Nat → Ps} (h : ∀ j, j < n → Vl w (rf j)) (ha : a < n) (hf : f < n) : ∀ j, j < n → Vl w (swapF rf a f j) := by
 intro j hj
 unfold swapF
 split
 ·exact h f hf
 ·split
  ·exact h a ha
  ·exact h j hj
theorem clr_vl {w n a c i : Nat} {rf : Nat → Ps} (hw : w ≤ 12) (h : ∀ j, j < n → Vl w (rf j)) (ha : a < n) : ∀ j, j < n → Vl w (clrR rf a c i j) := by
 intro j hj
 unfold clrR
 split
 ·exact mul_vl hw (h j hj) (h a ha)
 ·exact h j hj
theorem fndO_some {rf : Nat → Ps} {n c a f : Nat} (h : fndO rf n c a = some f) : a ≤ f ∧ f < n ∧ bitB (rf f) c = true ∧ ∀ j, a ≤ j → j < f → bitB (rf j) c = false := by
 unfold fndO at h
 rw [List.find?_range_eq_some] at h
 obtain ⟨p1, p2, p3⟩ := h
 simp at p1
 refine ⟨p1.1, List.mem_range.1 p2, p1.2, fun j hj hlt => ?_⟩
 have := p3 j hlt
 simp at this
 rcases this with h | h
 ·omega
 ·exact h
theorem fndO_none {rf : Nat → Ps} {n c a : Nat} (h : fndO rf n c a = none) : ∀ j, a ≤ j → j < n → bitB (rf j) c = false := by
 intro j hj hlt
 unfold fndO at h
 have := List.find?_eq_none.1 h j (List.mem_range.2 hlt)
 simpa [hj] using this
theorem red_vl {w : Nat} (hw : w ≤ 12) {l : List Ps} (hv : ∀ q, q ∈ l → Vl w q) : ∀ c, (∀ j, j < l.length → Vl w ((redN l c).1 j)) ∧ (redN l c).2.2 ≤ l.length
 | 0 => ⟨fun j hj => by simp only [redN, List.getD_eq_getElem?_getD, List.getElem?_eq_getElem hj, Option.getD_some]; exact hv _ (List.getElem_mem hj), Nat.zero_le _⟩
 | c + 1 => by
  obtain ⟨q1, q2⟩ := red_vl hw hv c
  simp only [redN, colS]
  split
  ·exact ⟨q1, q2⟩
  ·rename_i f hf
   obtain ⟨p3, p2, _⟩ := fndO_some hf
   have p4 : (redN l c).2.2 < l.length := by omega
   exact ⟨clr_vl hw (swap_vl q1 p4 p2) p4, p4⟩
theorem idx_fnd {rf : Nat → Ps} {n c a : Nat} (ha : a ≤ n) : idxI (fun q => bitB q c) (((List.range n).map rf).drop a) = match fndO rf n c a with
  | some f => ((f - a : Nat) : Int)
  | none => -1 := by
 cases h : fndO rf n c a with
 | none =>
  have h0 := fndO_none h
  refine idxI_none fun q hq => ?_
  obtain ⟨i, hi, rfl⟩ := List.getElem_of_mem hq
  have hi' : i < n - a := by simpa using hi
  simp only [List.getElem_drop, List.getElem_map, List.getElem_range]
  exact h0 _ (by omega) (by omega)
 | some f =>
  obtain ⟨h1, h2, h3, h4⟩ := fndO_some h
  have hl : f - a < (((List.range n).map rf).drop a).length := by simp; omega
  refine idxI_some hl ?_ fun q hq => ?_
  ·simp only [List.getElem_drop, List.getElem_map, List.getElem_range]
   rw [show a + (f - a) = f by omega]; exact h3
  ·obtain ⟨i, hi, rfl⟩ := List.mem_take_iff_getElem.1 hq
   have hi' : i < f - a := by omega
   simp only [List.getElem_drop, List.getElem_map, List.getElem_range]
   exact h4 _ (by omega) (by omega)
theorem asD_part {H : AHeap} {nm N a : Nat} {g : Nat → Ps} {t : Bool} (hg : H.get nm = some (dblk 4 ((List.range N).map fun j => (g j).l))) (ha : a ≤ N) : AsD H (.sl nm 4 (0 + (a : Int).toNat) (N - (a : Int).toNat) (N - (a : Int).toNat) t) (rowsD (((List.range N).map g).drop a) t) := by
 rw [Int.toNat_natCast, Nat.zero_add]
 have := asD_sl_map (lo := a) (len := N - a) (room := N - a) (t := t) hg (by simp; omega)
 have e : (((List.range N).map fun j => (g j).l).drop a).take (N - a) = (((List.range N).map g).drop a).map Ps.l := by
  rw [List.take_of_length_le (by simp), List.map_drop, List.map_map]; rfl
 rw [e] at this
 have et : (t && decide (N - a = N - a)) = t := by simp
 rw [et] at this
 exact this
theorem psB_congr {N : Nat} {f g : Nat → List D} (h : ∀ j, f j = g j) : Blk.arr 4 (((List.range N).map f).map fun el => el.map AV.d) = dblk 4 ((List.range N).map g) := by rw [funext h]; rfl
theorem asD_agg2 {H : AHeap} {v1 v2 : AV} {d1 d2 : D} (h1 : AsD H v1 d1) (h2 : AsD H v2 d2) : AsD H (.agg [v1, v2]) (.agg [d1, d2]) := by
 refine .agg _ _ rfl fun j v d hv hd => ?_
 match j, hv, hd with
 | 0, hv, hd => simp at hv hd; subst hv hd; exact h1
 | 1, hv, hd => simp at hv hd; subst hv hd; exact h2
 | j + 2, hv, _ => simp at hv
theorem asD_fn1 {H : AHeap} {f : FuncId} {v : AV} {d : D} (h : AsD H v d) : AsD H (.fn f [] [v]) (.fn f [] [d]) := by
 refine .fn f _ _ _ _ rfl rfl (fun j v d h1 => by simp at h1) fun j v' d' h1 h2 => ?_
 match j, h1, h2 with
 | 0, h1, h2 => simp at h1 h2; subst h1 h2; exact h
 | j + 1, h1, _ => simp at h1
theorem asD_rop {H : AHeap} {nm sz : Nat} {ds : List D} (hg : H.get nm = some (.arr sz [ds.map AV.d])) : AsD H (.ptr nm sz 0 0) (.rop ds 0) := by
 refine .ptr nm sz 0 0 _ _ ds hg rfl (by simp) fun j v d h1 h2 => ?_
 rw [List.getElem?_map, h2] at h1
 simp at h1; subst h1; exact .d d
theorem pc_lend2 {f : FuncId} {v1 v2 : AV} {d1 d2 d : D} {H : AHeap} {nx : Nat} {k : AV → AHeap → Nat → Prop} (h : PC Pr G f [d1, d2] d) (h1 : AsD H v1 d1) (h2 : AsD H v2 d2) (hf : d.flat = true) (hk : k (.d d) H nx) : CallVC Pr G f [v1, v2] H nx k := by
 refine pc_lend h rfl (fun i v d a1 a2 => ?_) hf hk
 match i, a1, a2 with
 | 0, a1, a2 => simp at a1 a2; subst a1 a2; exact h1
 | 1, a1, a2 => simp at a1 a2; subst a1 a2; exact h2
 | i + 2, a1, _ => simp at a1
theorem chk191 : chkFn Tryz.f191 = true := by kernel_rfl
theorem chk105 : chkFn Tryz.f105 = true := by kernel_rfl
theorem canon105a {w : Nat} (hw : 1 ≤ w ∧ w ≤ 12) (l : List Ps) (t : Bool) (hn : l.length ≤ 1000) (hv : ∀ q, q ∈ l → Vl w q) : ACall Pr G 105 [.d (stD w l t)] [] 0 fun v H _ => v = .agg [.d (iD w), .sl 2 4 0 l.length l.length true] ∧ H.get 2 = some (dblk 4 ((redRows l (2 * w)).map Ps.l)) := by
 refine fn_walk pok Tryz.func105 chk105 ?_
 conv => whnf
 repeat' first | ((first | refine LookP.mk _ rfl ?_ | refine ShlP.mk _ (by first | exact over_all (by simp) | (simp only [List.set, over, List.take, List.drop, List.append_eq, List.nil_append, List.cons_append, List.length]; rfl) | rfl) ?_ | (refine And.intro (by first | exact ⟨Int.natCast_nonneg _, rfl, by show 32 * (((l.map Ps.l).length : Nat) : Int).toNat ≤ 281474976710656; rw [Int.toNat_natCast, List.length_map]; omega, by decide, by decide⟩ | exact rows_len _ | exact (by rw [List.length_replicate, Nat.zero_add]; exact Nat.le_refl _) | assumption | exact ⟨by kernel_rfl, rfl⟩ | decide | omega) ?_) | rw [rows_sc] | refine HpP.force ?_); conv => whnf)
 have eN : (((l.map Ps.l).length : Nat) : Int).toNat = l.length := by simp
 have hrv := red_vl hw.2 hv
 have e2 : imul .i64 2 (w : Int) = ((2 * w : Nat) : Int) := imul_nat (a := 2) (by omega)
 refine for_use pok (fun c => ⟨[(1, .ptr 0 2 0 0), (2, .ptr 1 2 0 0), (3, .ptr 3 1 0 0), (4, .d (iD (redN l c).2.2)), (5, .fn 191 [] [.ptr 3 1 0 0]), (20, .d (iD (2 * w : Nat))), (21, .d (iD c))], [(0, some (.arr 2 [[.d (iD w), .d (rowsD l t)]])), (1, some (.arr 2 [[.d (iD 0), .d (.sl [] true)]])), (2, some (dblk 4 ((List.range l.length).map fun j => ((redN l c).1 j).l))), (3, some (.arr 1 [[.sl 2 4 0 l.length l.length true]]))], 4⟩) ((2 * w)) (fun _ => True) (trivial) ?_ (by kernel_rfl) ?_ ?_
 ·refine keep_env (by first | exact Nat.zero_le _ | exact Nat.le_of_ble_eq_true rfl) ?_ ?_ trivial
  ·repeat' first | exact trivial | refine ⟨⟨by first | rfl | assumption | exact congrArg (fun n => AV.d (iD n)) e2, rfl⟩, ?_⟩
  ·repeat' first | exact trivial | refine ⟨⟨ltB rfl, _, rfl, by first | rfl | assumption | exact congrArg some (psB_list l) | (show some (Blk.arr 1 [[AV.sl 2 4 0 (((l.map Ps.l).length : Nat) : Int).toNat (((l.map Ps.l).length : Nat) : Int).toNat true]]) = _; rw [eN]), by first | exact below1 rfl | exact below_dblk _ _ _ | exact below_arr rfl⟩, ?_⟩
 ·intro c A_c h_c I_c N_c
  have e_c : iadd .i64 (c : Int) 1 = ((c + 1 : Nat) : Int) := iadd_nat (by first | omega | (simp at *; omega))
  obtain ⟨hvr, han⟩ := hrv c
  have hnx : redN l (c + 1) = colS l.length c (redN l c) := rfl
  unfold colS at hnx
  generalize hR : redN l c = s at hvr han hnx ⊢
  obtain ⟨rf, wb, a⟩ := s
  dsimp only at hvr han hnx ⊢
  conv => whnf
  repeat (refine LookP.mk _ rfl ?_; conv => whnf)
  intro t ht
  cases t
  ·exfalso; first | (simp at ht; done) | (simp at ht; omega)
  conv => whnf
  repeat' first | ((first | refine LookP.mk _ rfl ?_ | refine ShlP.mk _ (by first | (simp only [List.set, over, List.take, List.drop, List.append_eq, List.nil_append, List.cons_append, List.length]; rfl) | rfl) ?_ | refine And.intro (by first | exact ⟨Int.natCast_nonneg _, by omega⟩ | assumption | exact ⟨by kernel_rfl, rfl⟩ | decide | omega) ?_ | refine HpP.force ?_); conv => whnf)
  have e3 : (c : Int).tmod 2 = ((c % 2 : Nat) : Int) := by rw [Int.tmod_eq_emod_of_nonneg (by omega)]; rfl
  have e4 : iquo .i64 (c : Int) 2 = ((c / 2 : Nat) : Int) := by
   have := iquo_eq (c := (c : Int)) (d := 2) (by omega) (by omega) (by decide) (by decide)
   rw [this]; rfl
  rw [e3, e4]
  have hidx := idx180 (G := G) (((List.range l.length).map rf).drop a) true 193 [] [.rop [iD (c % 2 : Nat), iD (c / 2 : Nat)] 0] (fun q => bitB q c) (by simp; omega) fun q _ => has193 c q
  rw [idx_fnd han] at hidx
  cases hf : fndO rf l.length c a with
  | none =>
   rw [hf] at hidx hnx
   dsimp only at hidx hnx
   refine pc_lend2 hidx (asD_part rfl han) (asD_fn1 (asD_rop rfl)) rfl ?_
   conv => whnf
   repeat' first | (refine LookP.mk _ rfl ?_; conv => whnf) | (intro t ht; cases t <;> conv => whnf)
   ·exact absurd ht (by decide)
   ·refine N_c _ ?_ ?_
    ·first | trivial | assumption | omega
    ·refine keep_env (by first | exact Nat.zero_le _ | exact Nat.le_of_ble_eq_true rfl) ?_ ?_ trivial
     ·repeat' first | exact trivial | refine ⟨⟨by first | rfl | assumption | exact congrArg (fun n => AV.d (iD n)) e_c | (rw [hnx]; rfl), rfl⟩, ?_⟩
     ·repeat' first | exact trivial | refine ⟨⟨ltB rfl, _, rfl, by first | rfl | assumption | (rw [hnx]; rfl), by first | exact below1 rfl | exact below_dblk _ _ _ | exact below_arr rfl⟩, ?_⟩
  | some f =>
   rw [hf] at hidx hnx
   dsimp only at hidx hnx
   obtain ⟨hf1, hf2, _, _⟩ := fndO_some hf
   have haN : a < l.length := by omega
   have e6 : iadd .i64 (a : Int) 1 = ((a + 1 : Nat) : Int) := iadd_nat (b := 1) (by omega)
   have e5 : iadd .i64 (a : Int) ((f - a : Nat) : Int) = (f : Int) := by rw [iadd_nat (by omega)]; congr 1; omega
   refine pc_lend2 hidx (asD_part rfl han) (asD_fn1 (asD_rop rfl)) rfl ?_
   conv => whnf
   repeat' first | ((first | (refine LookP.mk _ (by first | rfl | exact get_rw (f := fun j => Ps.l (rf j)) hf2 | exact get_rw (f := fun j => Ps.l (rf j)) haN | exact get_rwE (x := Ps.l (rf f)) hf2 (by split <;> rfl)) ?_) | refine ShlP.mk _ (by first | exact set_rw (x := [_, _, _, _]) haN | exact set_rw (x := [_, _, _, _]) hf2 | rfl) ?_ | refine And.intro (by first | (rw [e5]; exact ⟨Int.natCast_nonneg _, by omega⟩) | exact ⟨Int.natCast_nonneg _, by omega⟩ | assumption | exact ⟨by kernel_rfl, rfl⟩ | decide | omega) ?_ | rw [e5] | refine HpP.force ?_); conv => whnf) | (intro t ht; cases t <;> conv => whnf)
   rotate_left
   ·exfalso; simp at ht; exact absurd ht (Int.not_lt.2 (Int.natCast_nonneg _))
   have hgv := swap_vl hvr haN hf2
   have hsw : ∀ j, (if j = f then [iD (rf a).w, iD (rf a).x, iD (rf a).z, iD (rf a).p] else if j = a then [iD (rf f).w, iD (rf f).x, iD (rf f).z, iD (rf f).p] else Ps.l (rf j)) = Ps.l (clrR (swapF rf a f) a c 0 j) := by
    intro j
    have e : clrR (swapF rf a f) a c 0 j = swapF rf a f j := by simp [clrR]
    rw [e]
    unfold swapF
    by_cases j1 : j = f <;> by_cases j2 : j = a
    ·subst j1 j2; rw [if_pos rfl, if_pos rfl]; rfl
    ·rw [if_pos j1, if_neg j2, if_pos j1]; rfl
    ·rw [if_neg j1, if_pos j2, if_pos j2]; rfl
    ·rw [if_neg j1, if_neg j2, if_neg j2, if_neg j1]
   generalize swapF rf a f = g at hnx hgv hsw
   refine call_walk pok Tryz.func191 chk191 ?_
   conv => whnf
   repeat' first | (refine LookP.mk _ rfl ?_; conv => whnf)
   refine for_use pok (fun k => ⟨[(1, .d (iD a)), (2, .ptr 3 1 0 0), (3, .ptr 5 2 0 0), (7, .d (iD l.length)), (8, .d (iD k))], [(0, some (.arr 2 [[.d (iD w), .d (rowsD l t)]])), (1, some (.arr 2 [[.d (iD 0), .d (.sl [] true)]])), (2, some (dblk 4 ((List.range l.length).map fun j => (clrR g a c k j).l))), (3, some (.arr 1 [[.sl 2 4 0 l.length l.length true]])), (5, some (.arr 2 [[.d (iD (c % 2 : Nat)), .d (iD (c / 2 : Nat))]]))], 6⟩) (l.length) (fun _ => True) (trivial) ?_ (by kernel_rfl) ?_ ?_
   ·refine keep_env (by first | exact Nat.zero_le _ | exact Nat.le_of_ble_eq_true rfl) ?_ ?_ trivial
    ·repeat' first | exact trivial | refine ⟨⟨by first | rfl | assumption, rfl⟩, ?_⟩
    ·repeat' first | exact trivial | refine ⟨⟨ltB rfl, _, rfl, by first | rfl | assumption | exact congrArg some (psB_congr hsw), by first | exact below1 rfl | exact below_dblk _ _ _ | exact below_arr rfl⟩, ?_⟩
   ·intro k A_k h_k I_k N_k
    have e_k : iadd .i64 (k : Int) 1 = ((k + 1 : Nat) : Int) := iadd_nat (by first | omega | (simp at *; omega))
    have hra := clrR_a g a c k
    have hrk := clrR_ge g a c k k (Nat.le_refl _)
    have hset := @clrR_set g a c k
    have hsame := @clrR_same g a c k
    have hh := has192 (G := G) c (g k)
    have hb : bitB (g k) c = (bitI (if (c : Int) % 2 = 0 then (g k).x else (g k).z) ((c : Int) / 2) == 1) := by
     unfold bitB; rw [Bool.eq_iff_iff]; simp
    have ht2 := times183v (G := G) hw (g k) [g a] true (by simp) (hgv k h_k) (by intro r hr; rw [List.mem_singleton.1 hr]; exact hgv a haN)
    rw [← hrk] at hh hb
    rw [← hra, ← hrk] at ht2
    generalize hr : clrR g a c k = r at hra hrk hset hsame hh hb ht2
    generalize bitI (if (c : Int) % 2 = 0 then (r k).x else (r k).z) ((c : Int) / 2) = b at hh hb
    have hm : ([r a].foldl mulS (r k)) = mulS (r k) (r a) := rfl
    rw [hm] at ht2
    rw [← hra, ← hrk] at hset
    generalize mulS (r k) (r a) = m at ht2 hset
    conv => whnf
    repeat (refine LookP.mk _ rfl ?_; conv => whnf)
    intro t ht
    cases t
    ·exfalso; first | (simp at ht; done) | (simp at ht; omega)
    conv => whnf
    repeat' first | ((first | refine LookP.mk _ (by first | rfl | exact get_rw (f := fun j => Ps.l (r j)) h_k | exact get_rw (f := fun j => Ps.l (r j)) haN) ?_ | refine ShlP.mk _ (by first | exact set_rw (x := [_, _, _, _]) h_k | (simp only [List.set, over, List.take, List.drop, List.append_eq, List.nil_append, List.cons_append, List.length]; rfl) | rfl) ?_ | refine And.intro (by first | exact ⟨Int.natCast_nonneg _, by omega⟩ | assumption | exact ⟨by kernel_rfl, rfl⟩ | decide | omega) ?_ | refine pc_head hh ?_ | refine pc_head ht2 ?_ | refine HpP.force ?_); conv => whnf) | (intro t ht; cases t <;> conv => whnf)
    ·have hka : k = a := by simp at ht; omega
     have e : clrR g a c (k + 1) = r := hsame fun q => q.1 hka
     refine N_k _ ?_ ?_
     ·first | trivial | assumption | omega
     ·refine keep_env (by first | exact Nat.zero_le _ | exact Nat.le_of_ble_eq_true rfl) ?_ ?_ trivial
      ·repeat' first | exact trivial | refine ⟨⟨by first | rfl | assumption | exact congrArg (fun n => AV.d (iD n)) e_k, rfl⟩, ?_⟩
      ·repeat' first | exact trivial | refine ⟨⟨ltB rfl, _, rfl, by first | rfl | assumption | (rw [e]; rfl), by first | exact below1 rfl | exact below_dblk _ _ _ | exact below_arr rfl⟩, ?_⟩
    ·have e : clrR g a c (k + 1) = r := by
      refine hsame fun q => ?_
      rw [← hrk, hb] at q
      rw [q.2] at ht; cases ht
     refine N_k _ ?_ ?_
     ·first | trivial | assumption | omega
     ·refine keep_env (by first | exact Nat.zero_le _ | exact Nat.le_of_ble_eq_true rfl) ?_ ?_ trivial
      ·repeat' first | exact trivial | refine ⟨⟨by first | rfl | assumption | exact congrArg (fun n => AV.d (iD n)) e_k, rfl⟩, ?_⟩
      ·repeat' first | exact trivial | refine ⟨⟨ltB rfl, _, rfl, by first | rfl | assumption | (rw [e]; rfl), by first | exact below1 rfl | exact below_dblk _ _ _ | exact below_arr rfl⟩, ?_⟩
    ·have hka : k ≠ a := by intro e; subst e; simp at *
     have e := hset hka (by rw [hb]; exact ht)
     have hblk : ∀ j, (if j = k then [iD m.w, iD m.x, iD m.z, iD m.p] else Ps.l (r j)) = Ps.l (clrR g a c (k + 1) j) := by
      intro j
      rw [e]
      dsimp only
      split <;> rfl
     refine N_k _ ?_ ?_
     ·first | trivial | assumption | omega
     ·refine keep_env (by first | exact Nat.zero_le _ | exact Nat.le_of_ble_eq_true rfl) ?_ ?_ trivial
      ·repeat' first | exact trivial | refine ⟨⟨by first | rfl | assumption | exact congrArg (fun n => AV.d (iD n)) e_k, rfl⟩, ?_⟩
      ·repeat' first | exact trivial | refine ⟨⟨ltB rfl, _, rfl, by first | rfl | assumption | exact congrArg some (psB_congr hblk), by first | exact below1 rfl | exact below_dblk _ _ _ | exact below_arr rfl⟩, ?_⟩
   ·intro A_last I_last
    conv => whnf
    repeat (refine LookP.mk _ rfl ?_; conv => whnf)
    intro t ht
    cases t
    rotate_left
    ·exfalso; first | (simp at ht; done) | (simp at ht; omega)
    conv => whnf
    skip
    refine N_c _ ?_ ?_
    ·first | trivial | assumption | omega
    ·refine keep_env (by first | exact Nat.zero_le _ | exact Nat.le_of_ble_eq_true rfl) ?_ ?_ trivial
     ·repeat' first | exact trivial | refine ⟨⟨by first | rfl | assumption | exact congrArg (fun n => AV.d (iD n)) e_c | (rw [hnx]; exact congrArg (fun n => AV.d (iD n)) e6) | (rw [hnx]; rfl), rfl⟩, ?_⟩
     ·repeat' first | exact trivial | refine ⟨⟨ltB rfl, _, rfl, by first | rfl | assumption | (rw [hnx]; rfl), by first | exact below1 rfl | exact below_dblk _ _ _ | exact below_arr rfl⟩, ?_⟩
 ·intro A_last I_last
  conv => whnf
  repeat (refine LookP.mk _ rfl ?_; conv => whnf)
  intro t ht
  cases t
  rotate_left
  ·exfalso; first | (simp at ht; done) | (simp at ht; omega)
  conv => whnf
  repeat' first | ((first | refine LookP.mk _ rfl ?_ | refine ShlP.mk _ (by first | (simp only [List.set, over, List.take, List.drop, List.append_eq, List.nil_append, List.cons_append, List.length]; rfl) | rfl) ?_ | refine HpP.force ?_); conv => whnf)
  refine fin ⟨rfl, ?_⟩
  have e : (redRows l (2 * w)).map Ps.l = (List.range l.length).map fun j => Ps.l ((redN l (2 * w)).1 j) := by
   unfold redRows; rw [List.map_map]; rfl
  rw [e]; rfl
theorem canon105 {w : Nat} (hw : 1 ≤ w ∧ w ≤ 12) (l : List Ps) (t : Bool) (hn : l.length ≤ 1000) (hv : ∀ q, q ∈ l → Vl w q) : PC Pr G 105 [stD w l t] (stD w (redRows l (2 * w)) true) := by
 refine pc_freeze (isFn_of Tryz.func105 chk105) (acall_mono (canon105a hw l t hn hv) ?_)
 rintro v H _ ⟨rfl, hg⟩
 refine asD_agg2 (.d _) ?_
 have := asD_sl_map (nm := 2) (lo := 0) (len := l.length) (room := l.length) (t := true) hg (by simp [redRows])
 have e : (((redRows l (2 * w)).map Ps.l).drop 0).take l.length = (redRows l (2 * w)).map Ps.l := by
  rw [List.drop_zero, List.take_of_length_le (by simp [redRows])]
 rw [e] at this
 have et : (true && decide (l.length = l.length)) = true := by simp
 rw [et] at this
 exact this
theorem canon105o {w : Nat} (hw : 1 ≤ w ∧ w ≤ 12) (l : List Ps) (t : Bool) (hn : l.length ≤ 1000) (hv : ∀ q, q ∈ l → Vl w q) : PO Pr G 105 [stD w l t] (.agg [.d (iD w), .sl 0 4 0 l.length l.length true]) [(0, some (dblk 4 ((redRows l (2 * w)).map Ps.l)))] 1 := by
 refine ⟨isFn_of Tryz.func105 chk105, acall_sub (canon105a hw l t hn hv) ?_⟩
 rintro v H n ⟨rfl, hg⟩
 refine ⟨_, _, 1, ?_, rfl, rfl, rfl⟩
 first | refine ren_env [(0, 2)] ?_ ?_ ?_ trivial | refine ren_envB [(0, 2)] rfl rfl ?_ ?_ ?_ trivial
 ·repeat' first | exact trivial | refine ⟨⟨by first | rfl | assumption, rfl⟩, ?_⟩
 ·repeat' first | exact trivial | refine ⟨⟨ltB rfl, _, rfl, by first | rfl | assumption | exact get_ren rfl (by first | rfl | assumption | exact get_ren rfl hg) | exact get_ren rfl hg, by first | exact below1 rfl | exact below_dblk _ _ _ | exact below_arr rfl⟩, ?_⟩
 ·repeat' first | exact trivial | (refine And.intro ?_ ?_) | (exact fun _ => rfl) | (exact fun h => absurd h (Nat.ne_of_beq_eq_false rfl))
end Go.Tz
namespace Go.Tz
open Go Go.AL Go.Ma
def vec (q : Ps) : Nat := (nf q).2
theorem vec_in {w : Nat} (hw : w ≤ 12) {q : Ps} (h : Vl w q) : inV w (vec q) := by
 obtain ⟨X, Z, P, rfl, h1, h2, h3⟩ := h
 have hp : (2 : Nat) ^ w ≤ 2 ^ 12 := Nat.pow_le_pow_right (by decide) hw
 unfold vec
 rw [nf_mk]
 refine inV_bits _ fun j hj => ?_
 dsimp only
 rw [vec_bit (by omega)]
 split
 ·exact Nat.testBit_lt_two_pow (Nat.lt_of_lt_of_le h1 (Nat.pow_le_pow_right (by decide) (by omega)))
 ·exact Nat.testBit_lt_two_pow (Nat.lt_of_lt_of_le h2 (Nat.pow_le_pow_right (by decide) (by omega)))
theorem vec_lt {w : Nat} (hw : w ≤ 12) {q : Ps} (h : Vl w q) : vec q < 2 ^ 24 := sp_lt _ (U_lt hw) _ (vec_in hw h)
theorem vec_mul {w : Nat} (hw : w ≤ 12) {q r : Ps} (hq : Vl w q) (hr : Vl w r) : vec (mulS q r) = vec q ^^^ vec r := by
 unfold vec; rw [nf_mul hw hq hr]; rfl
theorem bitB_cb {w c : Nat} (hw : w ≤ 12) (hc : c < 2 * w) {q : Ps} (h : Vl w q) : bitB q c = cb (vec q) c := by
 obtain ⟨X, Z, P, rfl, h1, h2, h3⟩ := h
 have hp : (2 : Nat) ^ w ≤ 2 ^ 12 := Nat.pow_le_pow_right (by decide) hw
 unfold bitB cb pos vec bitI mk
 rw [show nf ⟨(w : Int), (X : Int), (Z : Int), (P : Int)⟩ = _ from nf_mk w X Z P]
 dsimp only
 have e2 : (c : Int) / 2 = ((c / 2 : Nat) : Int) := by omega
 rw [e2]
 by_cases e : c % 2 = 0
 ·rw [if_pos (show (c : Int) % 2 = 0 by omega), if_pos e, bit_nat (by omega) (by omega), vec_bit (by omega), if_pos (show c / 2 < 12 by omega)]
  cases X.testBit (c / 2) <;> simp
 ·rw [if_neg (show ¬ (c : Int) % 2 = 0 by omega), if_neg e, bit_nat (by omega) (by omega), vec_bit (by omega), if_neg (show ¬ 12 + c / 2 < 12 by omega), show 12 + c / 2 - 12 = c / 2 by omega]
  cases Z.testBit (c / 2) <;> simp
theorem rr_congr {n c a : Nat} {R R' pc : Nat → Nat} (h : RR n c a R pc) (e : ∀ j, j < n → R j = R' j) : RR n c a R' pc := by
 have ha := h.an
 refine ⟨h.an, h.lt, h.mono, fun j hj => ?_, fun i j hi hj hij => ?_, fun j d hj hd => ?_, fun j d h1 h2 h3 => ?_⟩
 ·rw [← e j (by omega)]; exact h.own j hj
 ·rw [← e i hi]; exact h.other i j hi hj hij
 ·rw [← e j (by omega)]; exact h.lead j d hj hd
 ·rw [← e j h2]; exact h.zero j d h1 h2 h3
def rfv (l : List Ps) (c j : Nat) : Nat := vec ((redN l c).1 j)
theorem rfv_step {w : Nat} (hw : w ≤ 12) {l : List Ps} (hv : ∀ q, q ∈ l → Vl w q) {c : Nat} (hc : c < 2 * w) :
  (fndO (redN l c).1 l.length c (redN l c).2.2 = none ∧ redN l (c + 1) = redN l c ∧ ∀ j, (redN l c).2.2 ≤ j → j < l.length → cb (rfv l c j) c = false) ∨
  ∃ f, (redN l c).2.2 ≤ f ∧ f < l.length ∧ (redN l (c + 1)).2.2 = (redN l c).2.2 + 1 ∧ (redN l (c + 1)).2.1 = clrB (swapF (redN l c).1 (redN l c).2.2 f) (swapF (redN l c).2.1 (redN l c).2.2 f) l.length (redN l c).2.2 c l.length ∧ cb (rfv l c f) c = true ∧
   ∀ j, j < l.length → rfv l (c + 1) j = clr (swp (rfv l c) (redN l c).2.2 f) (redN l c).2.2 c j := by
 obtain ⟨q1, q2⟩ := red_vl hw hv c
 cases hf : fndO (redN l c).1 l.length c (redN l c).2.2 with
 | none =>
  refine .inl ⟨rfl, by simp only [redN, colS, hf], fun j h1 h2 => ?_⟩
  have := fndO_none hf j h1 h2
  rw [bitB_cb hw hc (q1 j h2)] at this
  exact this
 | some f =>
  obtain ⟨h1, h2, h3, h4⟩ := fndO_some hf
  have han : (redN l c).2.2 < l.length := by omega
  have e1 : redN l (c + 1) = (clrR (swapF (redN l c).1 (redN l c).2.2 f) (redN l c).2.2 c l.length, clrB (swapF (redN l c).1 (redN l c).2.2 f) (swapF (redN l c).2.1 (redN l c).2.2 f) l.length (redN l c).2.2 c l.length, (redN l c).2.2 + 1) := by simp only [redN, colS, hf]
  rw [bitB_cb hw hc (q1 f h2)] at h3
  refine .inr ⟨f, h1, h2, by rw [e1], by rw [e1], h3, fun j hj => ?_⟩
  have hs := swap_vl q1 han h2
  have sw : ∀ j, vec (swapF (redN l c).1 (redN l c).2.2 f j) = swp (rfv l c) (redN l c).2.2 f j := by
   intro j
   unfold swapF swp rfv
   split
   ·rfl
   ·split <;> rfl
  show vec ((redN l (c + 1)).1 j) = _
  rw [e1]
  dsimp only
  unfold clrR clr
  rw [← sw j, ← sw (redN l c).2.2, ← bitB_cb hw hc (hs j hj)]
  by_cases e : j ≠ (redN l c).2.2 ∧ bitB (swapF (redN l c).1 (redN l c).2.2 f j) c = true
  ·rw [if_pos ⟨hj, e⟩, if_pos e, vec_mul hw (hs j hj) (hs _ han)]
  ·rw [if_neg (fun q => e q.2), if_neg e]
theorem rfv_rr {w : Nat} (hw : w ≤ 12) {l : List Ps} (hv : ∀ q, q ∈ l → Vl w q) : ∀ {c : Nat}, c ≤ 2 * w → ∃ pc, RR l.length c (redN l c).2.2 (rfv l c) pc
 | 0, _ => ⟨_, rr_zero _ _⟩
 | c + 1, hc => by
  obtain ⟨pc, h⟩ := rfv_rr hw hv (c := c) (by omega)
  rcases rfv_step hw hv (c := c) (by omega) with ⟨_, h2, h3⟩ | ⟨f, f1, f2, f3, _, f4, f5⟩
  ·refine ⟨pc, ?_⟩
   have e : rfv l (c + 1) = rfv l c := by funext j; unfold rfv; rw [h2]
   rw [e, h2]
   exact rr_skip h h3
  ·refine ⟨fun j => if j = (redN l c).2.2 then c else pc j, ?_⟩
   rw [f3]
   refine rr_congr (rr_clr (rr_swap h f1 f2) (by omega) ?_) fun j hj => (f5 j hj).symm
   unfold swp; rw [if_pos rfl]; exact f4
theorem span_clr {n a : Nat} {R : Nat → Nat} (ha : a < n) (t : Nat → Bool) (v : Nat) : spB (revl (fun j => if j ≠ a ∧ t j = true then R j ^^^ R a else R j) n) v = spB (revl R n) v := by
 have m1 : ∀ j, j < n → spB (revl R n) (R j) = true := fun j hj => sp_mem _ _ (revl_mem.2 ⟨j, hj, rfl⟩)
 have m2 : ∀ j, j < n → spB (revl (fun j => if j ≠ a ∧ t j = true then R j ^^^ R a else R j) n) (if j ≠ a ∧ t j = true then R j ^^^ R a else R j) = true := fun j hj => sp_mem _ _ (revl_mem.2 ⟨j, hj, rfl⟩)
 have ma := m2 a ha
 rw [if_neg (by simp)] at ma
 refine sp_ext (fun x hx => ?_) (fun x hx => ?_) v
 ·obtain ⟨j, hj, rfl⟩ := revl_mem.1 hx
  split
  ·exact sp_xor _ _ _ (m1 j hj) (m1 a ha)
  ·exact m1 j hj
 ·obtain ⟨j, hj, rfl⟩ := revl_mem.1 hx
  have := m2 j hj
  split at this
  ·have h2 := sp_xor _ _ _ this ma
   rwa [xor_cancel] at h2
  ·exact this
theorem span_swp {n a f : Nat} {R : Nat → Nat} (ha : a < n) (hf : f < n) (v : Nat) : spB (revl (swp R a f) n) v = spB (revl R n) v := by
 refine sp_ext (fun x hx => ?_) (fun x hx => ?_) v
 ·obtain ⟨j, hj, rfl⟩ := revl_mem.1 hx
  obtain ⟨i, hi, e, _⟩ := swp_mem (f := R) ha hf hj
  rw [e]; exact sp_mem _ _ (revl_mem.2 ⟨i, hi, rfl⟩)
 ·obtain ⟨j, hj, rfl⟩ := revl_mem.1 hx
  by_cases e1 : j = a
  ·refine sp_mem _ _ (revl_mem.2 ⟨f, hf, ?_⟩)
   unfold swp
   by_cases e2 : f = a
   ·rw [if_pos e2, e1, e2]
   ·rw [if_neg e2, if_pos rfl, e1]
  ·by_cases e2 : j = f
   ·refine sp_mem _ _ (revl_mem.2 ⟨a, ha, ?_⟩)
    unfold swp; rw [if_pos rfl, e2]
   ·refine sp_mem _ _ (revl_mem.2 ⟨j, hj, ?_⟩)
    unfold swp; rw [if_neg e1, if_neg e2]
theorem revl_congr {r r' : Nat → Nat} : ∀ {n : Nat}, (∀ j, j < n → r j = r' j) → revl r n = revl r' n
 | 0, _ => rfl
 | n + 1, h => by simp only [revl]; rw [h n (by omega), revl_congr fun j hj => h j (by omega)]
theorem rfv_span {w : Nat} (hw : w ≤ 12) {l : List Ps} (hv : ∀ q, q ∈ l → Vl w q) (v : Nat) : ∀ {c : Nat}, c ≤ 2 * w → spB (revl (rfv l c) l.length) v = spB (revl (rfv l 0) l.length) v
 | 0, _ => rfl
 | c + 1, hc => by
  rw [← rfv_span hw hv v (c := c) (by omega)]
  rcases rfv_step hw hv (c := c) (by omega) with ⟨_, h2, h3⟩ | ⟨f, f1, f2, f3, _, f4, f5⟩
  ·have e : rfv l (c + 1) = rfv l c := by funext j; unfold rfv; rw [h2]
   rw [e]
  ·have ha : (redN l c).2.2 < l.length := by omega
   rw [revl_congr f5, ← span_swp (R := rfv l c) ha f2 v]
   exact span_clr (R := swp (rfv l c) (redN l c).2.2 f) ha (fun j => cb (swp (rfv l c) (redN l c).2.2 f j) c) v
theorem rfv_piv {w : Nat} (hw : w ≤ 12) {l : List Ps} (hv : ∀ q, q ∈ l → Vl w q) : ∃ pc, RR l.length (2 * w) (redN l (2 * w)).2.2 (rfv l (2 * w)) pc ∧ Piv l.length (rfv l (2 * w)) (fun i => pos (pc i)) fun i => decide (i < (redN l (2 * w)).2.2) := by
 obtain ⟨pc, h⟩ := rfv_rr hw hv (Nat.le_refl _)
 exact ⟨pc, h, rr_piv h fun j hj hz => cb_zero hw (vec_in hw ((red_vl hw hv _).1 j hj)) hz⟩
def rwv (l : List Ps) (m j : Nat) : Nat := (redW (rowN l) m j).1
theorem rwv_0 (l : List Ps) {j : Nat} (hj : j < l.length) : rwv l 0 j = rfv l 0 j := by
 unfold rwv rfv
 have h2 : j < (rowN l).length := by rw [rowN_len]; exact hj
 simp only [redW, redN, List.getD_eq_getElem?_getD, List.getElem?_eq_getElem hj, List.getElem?_eq_getElem h2, Option.getD_some]
 simp [rowN, vec]
theorem rwv_step (l : List Ps) (m : Nat) : rwv l (m + 1) = if rwv l m m ≠ 0 then (fun k => if k < (rowN l).length ∧ k ≠ m ∧ (rwv l m k).testBit (lowN (rwv l m m)) = true then rwv l m k ^^^ rwv l m m else rwv l m k) else rwv l m := by
 funext k
 unfold rwv
 simp only [redW]
 split
 ·unfold clrW
  dsimp only
  split <;> rfl
 ·rfl
theorem rwv_span {w : Nat} (hw : w ≤ 12) {l : List Ps} (hv : ∀ q, q ∈ l → Vl w q) (hn : l.length ≤ 24) (v : Nat) : ∀ {m : Nat}, m ≤ l.length → spB (revl (rwv l m) l.length) v = spB (revl (rfv l 0) l.length) v
 | 0, _ => by rw [revl_congr fun j hj => rwv_0 l hj]
 | m + 1, hm => by
  rw [← rwv_span hw hv hn v (m := m) (by omega), rwv_step]
  split
  ·rw [← span_clr (R := rwv l m) (a := m) (by omega) (fun k => (rwv l m k).testBit (lowN (rwv l m m))) v]
   congr 1
   refine revl_congr fun j hj => ?_
   have : j < (rowN l).length := by rw [rowN_len]; exact hj
   simp only [this, true_and]
  ·rfl
theorem rwv_piv {w : Nat} (hw : w ≤ 12) {l : List Ps} (hv : ∀ q, q ∈ l → Vl w q) (hn : l.length ≤ 24) : ∀ {m : Nat}, m ≤ l.length → ∃ p : Nat → Nat, (∀ j, j < m → rwv l m j ≠ 0 → (rwv l m j).testBit (p j) = true) ∧ ∀ i j, i < l.length → j < m → i ≠ j → rwv l m j ≠ 0 → (rwv l m i).testBit (p j) = false
 | 0, _ => ⟨fun _ => 0, by omega, by omega⟩
 | m + 1, hm => by
  obtain ⟨p, h1, h2⟩ := rwv_piv hw hv hn (m := m) (by omega)
  have hlt := redW_lt (rowN_lt hw hv hn) m
  rw [rwv_step]
  by_cases h0 : rwv l m m ≠ 0
  ·rw [if_pos h0]
   obtain ⟨hl, hb, _⟩ := low_spec h0 (hlt m).1
   generalize lowN (rwv l m m) = b at hl hb
   have hmj : ∀ j, j < m → rwv l m j ≠ 0 → (rwv l m m).testBit (p j) = false := fun j hj hz => h2 m j (by omega) hj (by omega) hz
   have nz : ∀ j, j < m → (if j < (rowN l).length ∧ j ≠ m ∧ (rwv l m j).testBit b = true then rwv l m j ^^^ rwv l m m else rwv l m j) ≠ 0 → rwv l m j ≠ 0 := by
    intro j hj h e
    rw [e] at h
    simp at h
   refine ⟨fun j => if j = m then b else p j, fun j hj hz => ?_, fun i j hi hj hij hz => ?_⟩
   ·dsimp only at hz ⊢
    by_cases e : j = m
    ·subst e
     rw [if_pos rfl, if_neg (by simp)]; exact hb
    ·rw [if_neg e]
     have hj' : j < m := by omega
     have hz' := nz j hj' hz
     split
     ·rw [Nat.testBit_xor, h1 j hj' hz', hmj j hj' hz']; rfl
     ·exact h1 j hj' hz'
   ·dsimp only at hz ⊢
    have hil : i < (rowN l).length := by rw [rowN_len]; exact hi
    by_cases e : j = m
    ·subst e
     rw [if_pos rfl]
     by_cases c : (rwv l j i).testBit b = true
     ·rw [if_pos ⟨hil, hij, c⟩, Nat.testBit_xor, c, hb]; rfl
     ·rw [if_neg fun q => c q.2.2]; simpa using c
    ·rw [if_neg e]
     have hj' : j < m := by omega
     have hz' := nz j hj' hz
     split
     ·rw [Nat.testBit_xor, h2 i j hi hj' hij hz', hmj j hj' hz']; rfl
     ·exact h2 i j hi hj' hij hz'
  ·rw [if_neg h0]
   simp only [ne_eq, Decidable.not_not] at h0
   refine ⟨p, fun j hj hz => ?_, fun i j hi hj hij hz => ?_⟩
   ·exact h1 j (by rcases Nat.lt_or_ge j m with q | q; exact q; exact absurd (by rw [show j = m by omega]; exact h0) hz) hz
   ·exact h2 i j hi (by rcases Nat.lt_or_ge j m with q | q; exact q; exact absurd (by rw [show j = m by omega]; exact h0) hz) hij hz
theorem rwv_Piv {w : Nat} (hw : w ≤ 12) {l : List Ps} (hv : ∀ q, q ∈ l → Vl w q) (hn : l.length ≤ 24) : ∃ p, Piv l.length (rwv l l.length) p fun i => decide (rwv l l.length i ≠ 0) := by
 obtain ⟨p, h1, h2⟩ := rwv_piv hw hv hn (Nat.le_refl _)
 exact ⟨p, fun i hi ha => h1 i hi (by simpa using ha), fun i j hi hj hij ha => h2 i j hi hj hij (by simpa using ha), fun i _ ha => by simpa using ha⟩
theorem lead_nz {w : Nat} (hw : w ≤ 12) {q : Ps} (h : Vl w q) : 0 ≤ leadI q ↔ vec q ≠ 0 := by
 have hww := vl_w h
 have key : ∀ f k, k + f = 2 * w → (0 ≤ leadF q f k ↔ ∃ d, k ≤ d ∧ d < 2 * w ∧ bitB q d = true) := by
  intro f
  induction f with
  | zero =>
   intro k hk
   constructor
   ·intro h; simp [leadF] at h
   ·rintro ⟨d, h1, h2, _⟩; omega
  | succ f ih =>
   intro k hk
   simp only [leadF]
   by_cases hb : bitB q k = true
   ·rw [if_pos hb]
    exact ⟨fun _ => ⟨k, Nat.le_refl _, by omega, hb⟩, fun _ => by omega⟩
   ·rw [if_neg hb, ih (k + 1) (by omega)]
    constructor
    ·rintro ⟨d, h1, h2, h3⟩; exact ⟨d, by omega, h2, h3⟩
    ·rintro ⟨d, h1, h2, h3⟩
     refine ⟨d, ?_, h2, h3⟩
     rcases Nat.lt_or_ge k d with e | e
     ·omega
     ·have : d = k := by omega
      subst this; exact absurd h3 hb
 unfold leadI
 rw [hww, Int.toNat_natCast, key _ 0 (by omega)]
 constructor
 ·rintro ⟨d, _, h2, h3⟩ e
  rw [bitB_cb hw h2 h, e] at h3
  simp [cb] at h3
 ·intro hz
  refine Classical.byContradiction fun hn => hz (cb_zero hw (vec_in hw h) fun d hd => ?_)
  rw [← bitB_cb hw hd h]
  cases e : bitB q d with
  | false => rfl
  | true => exact absurd ⟨d, Nat.zero_le _, hd, e⟩ hn
theorem cnt_countP {act : Nat → Bool} : ∀ n, Ma.cnt act n = (List.range n).countP act
 | 0 => rfl
 | n + 1 => by
  rw [List.range_succ, List.countP_append, ← cnt_countP n]
  simp only [Ma.cnt, List.countP_singleton]
  cases act n <;> rfl
theorem rank_rk {w : Nat} (hw : w ≤ 12) {l : List Ps} (hv : ∀ q, q ∈ l → Vl w q) : rankN (redRows l (2 * w)) = rk (revl (rfv l 0) l.length) := by
 obtain ⟨pc, h1, h2⟩ := rfv_piv hw hv
 have hb : ∀ c, ∀ a, a ∈ revl (rfv l c) l.length → a < 2 ^ 24 := by
  intro c a ha
  obtain ⟨j, hj, rfl⟩ := revl_mem.1 ha
  exact vec_lt hw ((red_vl hw hv c).1 j hj)
 have e1 := rk_eq (hb (2 * w)) (hb 0) fun v => rfv_span hw hv v (Nat.le_refl _)
 rw [← e1, rk_piv h2]
 unfold rankN redRows
 rw [List.countP_map, cnt_countP]
 refine List.countP_congr fun j hj => ?_
 have hjn := List.mem_range.1 hj
 have hvl := (red_vl hw hv (2 * w)).1 j hjn
 simp only [Function.comp, decide_eq_true_eq]
 rw [lead_nz hw hvl]
 constructor
 ·intro hz
  refine Classical.byContradiction fun hn => hz (h2.zero j hjn (by simpa using hn))
 ·intro hlt e
  have := h2.own j hjn (by simpa using hlt)
  rw [show rfv l (2 * w) j = 0 from e] at this
  simp at this
theorem gone_rk {w : Nat} (hw : w ≤ 12) {l : List Ps} (hv : ∀ q, q ∈ l → Vl w q) (hn : l.length ≤ 24) : (gnW (redF l) l.length).length = 0 ↔ rk (revl (rfv l 0) l.length) = l.length := by
 obtain ⟨p, h2⟩ := rwv_Piv hw hv hn
 have hb : ∀ a, a ∈ revl (rfv l 0) l.length → a < 2 ^ 24 := by
  intro a ha
  obtain ⟨j, hj, rfl⟩ := revl_mem.1 ha
  exact vec_lt hw ((red_vl hw hv 0).1 j hj)
 have hb2 : ∀ a, a ∈ revl (rwv l l.length) l.length → a < 2 ^ 24 := by
  intro a ha
  obtain ⟨j, hj, rfl⟩ := revl_mem.1 ha
  exact (redW_lt (rowN_lt hw hv hn) _ j).1
 have e1 := rk_eq hb2 hb fun v => rwv_span hw hv hn v (Nat.le_refl _)
 rw [← e1, rk_piv h2, cnt_all]
 unfold gnW redF
 rw [List.length_eq_zero_iff, List.filter_eq_nil_iff]
 constructor
 ·intro h i hi
  have := h _ (List.mem_map.2 ⟨i, List.mem_range.2 hi, rfl⟩)
  exact decide_eq_true (by simpa [rwv] using this)
 ·intro h r hr
  obtain ⟨i, hi, rfl⟩ := List.mem_map.1 hr
  have := of_decide_eq_true (h i (List.mem_range.1 hi))
  simpa [rwv] using this
theorem ind_iff {w : Nat} (hw : w ≤ 12) {l : List Ps} (hv : ∀ q, q ∈ l → Vl w q) (hn : l.length ≤ 24) : (gnW (redF l) l.length).length = 0 ↔ rankN (redRows l (2 * w)) = l.length := by
 rw [gone_rk hw hv hn, rank_rk hw hv]
end Go.Tz
namespace Go.Tz
open Go Go.AL Go.Proofs
def zeroS (w : Nat) : List Ps := (List.range w).map fun i => ⟨w, 0, ((2 ^ i : Nat) : Int), 0⟩
end Go.Tz
namespace Go.Tz
open Go Go.AL Go.Proofs
variable {G : Nat → Option (List D)}
def badAt (l : List Ps) (i : Nat) : Bool := match l[i]? with
 | some q => decide (q.p.tmod 2 ≠ 0) || (l.take i).any fun r => decide (mulS q r ≠ mulS r q)
 | none => false
def badS (l : List Ps) : Bool := (List.range l.length).any (badAt l)
def chkS (w : Int) (l : List Ps) : Int :=
 if offB w 1 12 then 3 else if (l.length : Int) ≠ w then 2 else match l.find? fun q => decide (pchkI q ≠ 0) with
 | some q => pchkI q
 | none => if l.any fun q => decide (q.w ≠ w) then 7 else if badS l then 14 else if rankN (redRows l (2 * w.toNat)) = l.length then 0 else 14
theorem find_at {l : List Ps} {p : Ps → Bool} {i : Nat} (h : i < l.length) (hz : ∀ q, q ∈ l.take i → p q = false) (hp : p l[i] = true) : l.find? p = some l[i] := by
 have e : (l.take i ++ l[i] :: l.drop (i + 1)).find? p = some l[i] := by
  rw [List.find?_append, List.find?_eq_none.2 (by intro q hq; simp [hz q hq]), List.find?_cons_of_pos hp]; rfl
 have e2 : l.take i ++ l[i] :: l.drop (i + 1) = l := by rw [List.getElem_cons_drop, List.take_append_drop]
 rw [e2] at e
 exact e
theorem badAt_lt {l : List Ps} {i : Nat} (h : i < l.length) : badAt l i = (decide (l[i].p.tmod 2 ≠ 0) || (l.take i).any fun r => decide (mulS l[i] r ≠ mulS r l[i])) := by
 unfold badAt; rw [List.getElem?_eq_getElem h]
theorem badS_of {l : List Ps} {i : Nat} (h : i < l.length) (hb : badAt l i = true) : badS l = true := List.any_eq_true.2 ⟨i, List.mem_range.2 h, hb⟩
end Go.Tz
namespace Go.Tz
open Go Go.AL Go.Proofs
variable {G : Nat → Option (List D)}
def prodS (w : Int) (l : List Ps) : Ps := l.foldl mulS ⟨w, 0, 0, 0⟩
theorem foldl_w {w : Int} : ∀ (l : List Ps) (q : Ps), q.w = w → (l.foldl mulS q).w = w
 | [], _, h => h
 | r :: l, q, h => foldl_w l (mulS q r) h
theorem prodS_snoc (w : Int) (l : List Ps) (q : Ps) : prodS w (l ++ [q]) = mulS (prodS w l) q := by simp [prodS]
theorem chk205 : chkFn Tryz.f205 = true := by kernel_rfl
theorem prod205 (w : Int) (l : List Ps) (t : Bool) (hn : l.length ≤ 1000) (hw1 : 1 ≤ w) (hw2 : w ≤ 12) (hww : ∀ q, q ∈ l → q.w = w) : PC Pr G 205 [iD w, rowsD l t] (prodS w l).d := by
 refine pc_walk pok Tryz.func205 chk205 ?_
 conv => whnf
 repeat' first | ((first | refine LookP.mk _ rfl ?_ | refine ShlP.mk _ (by first | (simp only [List.set, over, List.take, List.drop, List.append_eq, List.nil_append, List.cons_append, List.length]; rfl) | rfl) ?_ | refine HpP.force ?_); conv => whnf)
 refine loop_use2 (σ := { i : Nat // i ≤ l.length }) (fun s => ⟨[(1, .d (rowsD l t)), (4, .ptr 0 4 0 0), (5, .ptr 1 4 0 0), (6, .d (iD s.1))], [(0, some (.arr 4 [(Ps.l ⟨0, 0, 0, 0⟩).map AV.d])), (1, some (.arr 4 [(prodS w (l.take s.1)).l.map AV.d]))], 2⟩) (fun s => l.length - s.1) ⟨0, Nat.zero_le _⟩ ?_ ?_ ?_
 ·exact keep_env (Nat.zero_le _) ⟨⟨rfl, rfl⟩, ⟨rfl, rfl⟩, ⟨rfl, rfl⟩, ⟨rfl, rfl⟩, trivial⟩ ⟨⟨ltB rfl, _, rfl, rfl, below1 rfl⟩, ⟨ltB rfl, _, rfl, rfl, below1 rfl⟩, trivial⟩ trivial
 ·kernel_rfl
 rintro ⟨i, hi⟩ A hA
 dsimp only at hi hA ⊢
 have e1 : iadd .i64 (i : Int) 1 = ((i + 1 : Nat) : Int) := by rw [iadd_eq (by omega) (by omega)]; rfl
 have hpw : (prodS w (l.take i)).w = w := foldl_w _ _ rfl
 rcases Nat.lt_or_ge i l.length with hlt | hge
 ·have hwi : (l[i]).w = (prodS w (l.take i)).w := by rw [hpw]; exact hww _ (List.getElem_mem hlt)
  have hsn : prodS w (l.take (i + 1)) = mulS (prodS w (l.take i)) l[i] := by rw [take_snoc hlt, prodS_snoc]
  have hgw : 1 ≤ (prodS w (l.take i)).w ∧ (prodS w (l.take i)).w ≤ 24 := by omega
  generalize prodS w (l.take i) = g at hwi hsn hgw hpw ⊢
  conv => whnf
  repeat' first | ((first | refine LookP.mk _ (by first | rfl | exact get_l hlt) ?_ | refine ShlP.mk _ (by first | (simp only [List.set, over, List.take, List.drop, List.append_eq, List.nil_append, List.cons_append, List.length]; rfl) | rfl) ?_ | refine And.intro (by first | assumption | exact ⟨by kernel_rfl, rfl⟩ | decide | omega) ?_ | refine pc_head (mulS_c _ _ hgw hwi) ?_ | refine HpP.force ?_); conv => whnf) | (intro t ht; cases t <;> conv => whnf)
  ·exfalso; simp at ht; omega
  ·refine hA _ ⟨i + 1, hlt⟩ (keep_env (Nat.zero_le _) ⟨⟨rfl, rfl⟩, ⟨rfl, rfl⟩, ⟨rfl, rfl⟩, ⟨congrArg (fun n => AV.d (iD n)) e1, rfl⟩, trivial⟩ ⟨⟨ltB rfl, _, rfl, rfl, below1 rfl⟩, ⟨ltB rfl, _, rfl, by rw [hsn]; rfl, below1 rfl⟩, trivial⟩ trivial) (by show l.length - (i + 1) < l.length - i; omega)
 ·conv => whnf
  repeat' first | ((first | refine LookP.mk _ rfl ?_ | refine ShlP.mk _ (by first | (simp only [List.set, over, List.take, List.drop, List.append_eq, List.nil_append, List.cons_append, List.length]; rfl) | rfl) ?_ | refine And.intro (by first | assumption | exact ⟨by kernel_rfl, rfl⟩ | decide | omega) ?_ | refine HpP.force ?_); conv => whnf) | (intro t ht; cases t <;> conv => whnf)
  ·refine fin ?_
   rw [List.take_of_length_le hge]; rfl
  ·exfalso; simp at ht; omega
end Go.Tz
