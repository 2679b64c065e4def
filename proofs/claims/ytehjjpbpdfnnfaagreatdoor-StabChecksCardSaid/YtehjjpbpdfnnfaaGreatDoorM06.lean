import Derived.Test.YtehjjpbpdfnnfaaGreatDoorM05
/-! stab.canonical. -/
namespace Go.Tz
open Go Go.AL Go.Proofs Go.Ma
variable {G : Nat → Option (List D)}
theorem chk192 : chkFn Tryz.f192 = true := by kernel_rfl
theorem has192 (c : Nat) (q : Ps) : PC Pr G 192 [.agg [iD (c % 2 : Nat), iD (c / 2 : Nat)], q.d] (iD (bitI (if (c : Int) % 2 = 0 then q.x else q.z) ((c : Int) / 2))) := by
  have h : c % 2 = 0 ∨ c % 2 = 1 := by omega
  have e2 : (c : Int) / 2 = ((c / 2 : Nat) : Int) := by omega
  have e1 : (if (c : Int) % 2 = 0 then q.x else q.z) = if c % 2 = 0 then q.x else q.z := by
    by_cases e : c % 2 = 0
    · rw [if_pos e, if_pos (by omega)]
    · rw [if_neg e, if_neg (by omega)]
  rw [e1, e2]
  generalize c / 2 = d
  refine pc_walk pok Tryz.func192 chk192 ?_
  rcases h with h | h
  · rw [h, if_pos rfl]
    conv => whnf
    repeat' first
      | (refine LookP.mk _ rfl ?_; conv => whnf)
      | (refine ShlP.mk _ (by first | (simp only [List.set, over, List.take, List.drop, List.append_eq, List.nil_append, List.cons_append, List.length]; rfl) | rfl) ?_; conv => whnf)
      | (refine And.intro (by first | assumption | exact ⟨by kernel_rfl, rfl⟩ | decide | omega | exact ⟨rfl, by decide, by simp only [List.length_map, Nat.zero_add]; omega⟩) ?_; conv => whnf)
      | (refine HpP.force ?_; conv => whnf)
      | (intro t ht; cases t <;> conv => whnf)
    exact fin rfl
  · rw [h, if_neg (by decide)]
    conv => whnf
    repeat' first
      | (refine LookP.mk _ rfl ?_; conv => whnf)
      | (refine ShlP.mk _ (by first | (simp only [List.set, over, List.take, List.drop, List.append_eq, List.nil_append, List.cons_append, List.length]; rfl) | rfl) ?_; conv => whnf)
      | (refine And.intro (by first | assumption | exact ⟨by kernel_rfl, rfl⟩ | decide | omega | exact ⟨rfl, by decide, by simp only [List.length_map, Nat.zero_add]; omega⟩) ?_; conv => whnf)
      | (refine HpP.force ?_; conv => whnf)
      | (intro t ht; cases t <;> conv => whnf)
    exact fin rfl
theorem chk193 : chkFn Tryz.f193 = true := by kernel_rfl
theorem has193 (c : Nat) (q : Ps) : PC Pr G 193 [q.d, .rop [iD (c % 2 : Nat), iD (c / 2 : Nat)] 0] (.bool (bitB q c)) := by
  have hh := has192 (G := G) c q
  have e : bitB q c = (bitI (if (c : Int) % 2 = 0 then q.x else q.z) ((c : Int) / 2) == 1) := by
    unfold bitB; rw [Bool.eq_iff_iff]; simp
  rw [e]
  generalize bitI (if (c : Int) % 2 = 0 then q.x else q.z) ((c : Int) / 2) = b at hh ⊢
  refine pc_walk pok Tryz.func193 chk193 ?_
  conv => whnf
  repeat' first
    | (refine LookP.mk _ rfl ?_; conv => whnf)
    | (refine ShlP.mk _ (by first | (simp only [List.set, over, List.take, List.drop, List.append_eq, List.nil_append, List.cons_append, List.length]; rfl) | rfl) ?_; conv => whnf)
    | (refine And.intro (by first | assumption | exact ⟨by kernel_rfl, rfl⟩ | decide | omega | exact ⟨rfl, by decide, by simp only [List.length_map, Nat.zero_add]; omega⟩) ?_; conv => whnf)
    | (refine pc_use (hh) ?_; conv => whnf)
    | (refine pc_head (hh) ?_; conv => whnf)
    | (refine HpP.force ?_; conv => whnf)
    | (intro t ht; cases t <;> conv => whnf)
  all_goals rw [ht]; exact fin rfl
theorem psB_list (l : List Ps) : Blk.arr 4 ((l.map Ps.l).map fun x => x.map AV.d) = dblk 4 ((List.range l.length).map fun j => Ps.l (l.getD j Ps.z0)) := by
  unfold dblk
  congr 2
  apply List.ext_getElem
  · simp
  · intro j h1 h2
    have h3 : j < l.length := by simpa using h1
    simp [List.getD_eq_getElem?_getD, List.getElem?_eq_getElem h3]
theorem swap_vl {w n a f : Nat} {rf : Nat → Ps} (h : ∀ j, j < n → Vl w (rf j)) (ha : a < n) (hf : f < n) : ∀ j, j < n → Vl w (swapF rf a f j) := by
  intro j hj
  unfold swapF
  split
  · exact h f hf
  · split
    · exact h a ha
    · exact h j hj
theorem clr_vl {w n a c i : Nat} {rf : Nat → Ps} (hw : w ≤ 12) (h : ∀ j, j < n → Vl w (rf j)) (ha : a < n) : ∀ j, j < n → Vl w (clrR rf a c i j) := by
  intro j hj
  unfold clrR
  split
  · exact mul_vl hw (h j hj) (h a ha)
  · exact h j hj
theorem fndO_some {rf : Nat → Ps} {n c a f : Nat} (h : fndO rf n c a = some f) : a ≤ f ∧ f < n ∧ bitB (rf f) c = true ∧ ∀ j, a ≤ j → j < f → bitB (rf j) c = false := by
  unfold fndO at h
  rw [List.find?_range_eq_some] at h
  obtain ⟨p1, p2, p3⟩ := h
  simp at p1
  refine ⟨p1.1, List.mem_range.1 p2, p1.2, fun j hj hlt => ?_⟩
  have := p3 j hlt
  simp at this
  rcases this with h | h
  · omega
  · exact h
theorem fndO_none {rf : Nat → Ps} {n c a : Nat} (h : fndO rf n c a = none) : ∀ j, a ≤ j → j < n → bitB (rf j) c = false := by
  intro j hj hlt
  unfold fndO at h
  have := List.find?_eq_none.1 h j (List.mem_range.2 hlt)
  simpa [hj] using this
theorem red_vl {w : Nat} (hw : w ≤ 12) {l : List Ps} (hv : ∀ q, q ∈ l → Vl w q) : ∀ c, (∀ j, j < l.length → Vl w ((redN l c).1 j)) ∧ (redN l c).2.2 ≤ l.length
  | 0 => ⟨fun j hj => by simp only [redN, List.getD_eq_getElem?_getD, List.getElem?_eq_getElem hj, Option.getD_some]; exact hv _ (List.getElem_mem hj), Nat.zero_le _⟩
  | c + 1 => by
    obtain ⟨q1, q2⟩ := red_vl hw hv c
    simp only [redN, colS]
    split
    · exact ⟨q1, q2⟩
    · rename_i f hf
      obtain ⟨p3, p2, _⟩ := fndO_some hf
      have p4 : (redN l c).2.2 < l.length := by omega
      exact ⟨clr_vl hw (swap_vl q1 p4 p2) p4, p4⟩
theorem idx_fnd {rf : Nat → Ps} {n c a : Nat} (ha : a ≤ n) : idxI (fun q => bitB q c) (((List.range n).map rf).drop a) = match fndO rf n c a with
    | some f => ((f - a : Nat) : Int)
    | none => -1 := by
  cases h : fndO rf n c a with
  | none =>
    have h0 := fndO_none h
    refine idxI_none fun q hq => ?_
    obtain ⟨i, hi, rfl⟩ := List.getElem_of_mem hq
    have hi' : i < n - a := by simpa using hi
    simp only [List.getElem_drop, List.getElem_map, List.getElem_range]
    exact h0 _ (by omega) (by omega)
  | some f =>
    obtain ⟨h1, h2, h3, h4⟩ := fndO_some h
    have hl : f - a < (((List.range n).map rf).drop a).length := by simp; omega
    refine idxI_some hl ?_ fun q hq => ?_
    · simp only [List.getElem_drop, List.getElem_map, List.getElem_range]
      rw [show a + (f - a) = f by omega]; exact h3
    · obtain ⟨i, hi, rfl⟩ := List.mem_take_iff_getElem.1 hq
      have hi' : i < f - a := by omega
      simp only [List.getElem_drop, List.getElem_map, List.getElem_range]
      exact h4 _ (by omega) (by omega)
theorem asD_part {H : AHeap} {nm N a : Nat} {g : Nat → Ps} {t : Bool} (hg : H.get nm = some (dblk 4 ((List.range N).map fun j => (g j).l))) (ha : a ≤ N) : AsD H (.sl nm 4 (0 + (a : Int).toNat) (N - (a : Int).toNat) (N - (a : Int).toNat) t) (rowsD (((List.range N).map g).drop a) t) := by
  rw [Int.toNat_natCast, Nat.zero_add]
  have := asD_sl_map (lo := a) (len := N - a) (room := N - a) (t := t) hg (by simp; omega)
  have e : (((List.range N).map fun j => (g j).l).drop a).take (N - a) = (((List.range N).map g).drop a).map Ps.l := by
    rw [List.take_of_length_le (by simp), List.map_drop, List.map_map]; rfl
  rw [e] at this
  have et : (t && decide (N - a = N - a)) = t := by simp
  rw [et] at this
  exact this
theorem psB_congr {N : Nat} {f g : Nat → List D} (h : ∀ j, f j = g j) : Blk.arr 4 (((List.range N).map f).map fun el => el.map AV.d) = dblk 4 ((List.range N).map g) := by rw [funext h]; rfl
theorem asD_agg2 {H : AHeap} {v1 v2 : AV} {d1 d2 : D} (h1 : AsD H v1 d1) (h2 : AsD H v2 d2) : AsD H (.agg [v1, v2]) (.agg [d1, d2]) := by
  refine .agg _ _ rfl fun j v d hv hd => ?_
  match j, hv, hd with
  | 0, hv, hd => simp at hv hd; subst hv hd; exact h1
  | 1, hv, hd => simp at hv hd; subst hv hd; exact h2
  | j + 2, hv, _ => simp at hv
theorem asD_fn1 {H : AHeap} {f : FuncId} {v : AV} {d : D} (h : AsD H v d) : AsD H (.fn f [] [v]) (.fn f [] [d]) := by
  refine .fn f _ _ _ _ rfl rfl (fun j v d h1 => by simp at h1) fun j v' d' h1 h2 => ?_
  match j, h1, h2 with
  | 0, h1, h2 => simp at h1 h2; subst h1 h2; exact h
  | j + 1, h1, _ => simp at h1
theorem asD_rop {H : AHeap} {nm sz : Nat} {ds : List D} (hg : H.get nm = some (.arr sz [ds.map AV.d])) : AsD H (.ptr nm sz 0 0) (.rop ds 0) := by
  refine .ptr nm sz 0 0 _ _ ds hg rfl (by simp) fun j v d h1 h2 => ?_
  rw [List.getElem?_map, h2] at h1
  simp at h1; subst h1; exact .d d
theorem pc_lend2 {f : FuncId} {v1 v2 : AV} {d1 d2 d : D} {H : AHeap} {nx : Nat} {k : AV → AHeap → Nat → Prop} (h : PC Pr G f [d1, d2] d) (h1 : AsD H v1 d1) (h2 : AsD H v2 d2) (hf : d.flat = true) (hk : k (.d d) H nx) : CallVC Pr G f [v1, v2] H nx k := by
  refine pc_lend h rfl (fun i v d a1 a2 => ?_) hf hk
  match i, a1, a2 with
  | 0, a1, a2 => simp at a1 a2; subst a1 a2; exact h1
  | 1, a1, a2 => simp at a1 a2; subst a1 a2; exact h2
  | i + 2, a1, _ => simp at a1
theorem chk191 : chkFn Tryz.f191 = true := by kernel_rfl
theorem chk105 : chkFn Tryz.f105 = true := by kernel_rfl
theorem canon105a {w : Nat} (hw : 1 ≤ w ∧ w ≤ 12) (l : List Ps) (t : Bool) (hn : l.length ≤ 1000) (hv : ∀ q, q ∈ l → Vl w q) : ACall Pr G 105 [.d (stD w l t)] [] 0 fun v H _ => v = .agg [.d (iD w), .sl 2 4 0 l.length l.length true] ∧ H.get 2 = some (dblk 4 ((redRows l (2 * w)).map Ps.l)) := by
  refine fn_walk pok Tryz.func105 chk105 ?_
  conv => whnf
  repeat' first
    | (refine LookP.mk _ rfl ?_; conv => whnf)
    | (refine ShlP.mk _ (by first | exact over_all (by simp) | (simp only [List.set, over, List.take, List.drop, List.append_eq, List.nil_append, List.cons_append, List.length]; rfl) | rfl) ?_; conv => whnf)
    | (refine And.intro (by first | exact ⟨Int.natCast_nonneg _, rfl, by show 32 * (((l.map Ps.l).length : Nat) : Int).toNat ≤ 281474976710656; rw [Int.toNat_natCast, List.length_map]; omega, by decide, by decide⟩ | exact rows_len _ | exact (by rw [List.length_replicate, Nat.zero_add]; exact Nat.le_refl _) | assumption | exact ⟨by kernel_rfl, rfl⟩ | decide | omega | exact ⟨rfl, by decide, by simp only [List.length_map, Nat.zero_add]; omega⟩) ?_; conv => whnf)
    | (rw [rows_sc]; conv => whnf)
    | (refine HpP.force ?_; conv => whnf)
    | (intro t ht; cases t <;> conv => whnf)
  have eN : (((l.map Ps.l).length : Nat) : Int).toNat = l.length := by simp
  have hrv := red_vl hw.2 hv
  have e2 : imul .i64 2 (w : Int) = ((2 * w : Nat) : Int) := imul_nat (a := 2) (by omega)
  refine for_use pok (fun c => ⟨[(1, .ptr 0 2 0 0), (2, .ptr 1 2 0 0), (3, .ptr 3 1 0 0), (4, .d (iD (redN l c).2.2)), (5, .fn 191 [] [.ptr 3 1 0 0]), (20, .d (iD (2 * w : Nat))), (21, .d (iD c))], [(0, some (.arr 2 [[.d (iD w), .d (rowsD l t)]])), (1, some (.arr 2 [[.d (iD 0), .d (.sl [] true)]])), (2, some (dblk 4 ((List.range l.length).map fun j => ((redN l c).1 j).l))), (3, some (.arr 1 [[.sl 2 4 0 l.length l.length true]]))], 4⟩) ((2 * w)) (fun _ => True) (trivial) ?_ (by kernel_rfl) ?_ ?_
  · refine keep_env (by first | exact Nat.zero_le _ | exact Nat.le_of_ble_eq_true rfl) ?_ ?_ trivial
    · repeat' first
        | exact trivial
        | refine ⟨⟨by first | rfl | assumption | exact congrArg (fun n => AV.d (iD n)) e2, rfl⟩, ?_⟩
    · repeat' first
        | exact trivial
        | refine ⟨⟨ltB rfl, _, rfl, by first | rfl | assumption | exact congrArg some (psB_list l) | (show some (Blk.arr 1 [[AV.sl 2 4 0 (((l.map Ps.l).length : Nat) : Int).toNat (((l.map Ps.l).length : Nat) : Int).toNat true]]) = _; rw [eN]), by first | exact below1 rfl | exact below_dblk _ _ _ | exact below_arr rfl⟩, ?_⟩
  · intro c A_c h_c I_c N_c
    have e_c : iadd .i64 (c : Int) 1 = ((c + 1 : Nat) : Int) := iadd_nat (by first | omega | (simp at *; omega))
    obtain ⟨hvr, han⟩ := hrv c
    have hnx : redN l (c + 1) = colS l.length c (redN l c) := rfl
    unfold colS at hnx
    generalize hR : redN l c = s at hvr han hnx ⊢
    obtain ⟨rf, wb, a⟩ := s
    dsimp only at hvr han hnx ⊢
    conv => whnf
    repeat (refine LookP.mk _ rfl ?_; conv => whnf)
    intro t ht
    cases t
    · exfalso; first | (simp at ht; done) | (simp at ht; omega)
    conv => whnf
    repeat' first
      | (refine LookP.mk _ rfl ?_; conv => whnf)
      | (refine ShlP.mk _ (by first | (simp only [List.set, over, List.take, List.drop, List.append_eq, List.nil_append, List.cons_append, List.length]; rfl) | rfl) ?_; conv => whnf)
      | (refine And.intro (by first | exact ⟨Int.natCast_nonneg _, by omega⟩ | assumption | exact ⟨by kernel_rfl, rfl⟩ | decide | omega | exact ⟨rfl, by decide, by simp only [List.length_map, Nat.zero_add]; omega⟩) ?_; conv => whnf)
      | (refine HpP.force ?_; conv => whnf)
      | (intro t ht; cases t <;> conv => whnf)
    have e3 : (c : Int).tmod 2 = ((c % 2 : Nat) : Int) := by rw [Int.tmod_eq_emod_of_nonneg (by omega)]; rfl
    have e4 : iquo .i64 (c : Int) 2 = ((c / 2 : Nat) : Int) := by
      have := iquo_eq (c := (c : Int)) (d := 2) (by omega) (by omega) (by decide) (by decide)
      rw [this]; rfl
    rw [e3, e4]
    have hidx := idx180 (G := G) (((List.range l.length).map rf).drop a) true 193 [] [.rop [iD (c % 2 : Nat), iD (c / 2 : Nat)] 0] (fun q => bitB q c) (by simp; omega) fun q _ => has193 c q
    rw [idx_fnd han] at hidx
    cases hf : fndO rf l.length c a with
    | none =>
      rw [hf] at hidx hnx
      dsimp only at hidx hnx
      refine pc_lend2 hidx (asD_part rfl han) (asD_fn1 (asD_rop rfl)) rfl ?_
      conv => whnf
      repeat' first
        | (refine LookP.mk _ rfl ?_; conv => whnf)
        | (refine ShlP.mk _ (by first | (simp only [List.set, over, List.take, List.drop, List.append_eq, List.nil_append, List.cons_append, List.length]; rfl) | rfl) ?_; conv => whnf)
        | (refine And.intro (by first | assumption | exact ⟨by kernel_rfl, rfl⟩ | decide | omega | exact ⟨rfl, by decide, by simp only [List.length_map, Nat.zero_add]; omega⟩) ?_; conv => whnf)
        | (refine HpP.force ?_; conv => whnf)
        | (intro t ht; cases t <;> conv => whnf)
      · exact absurd ht (by decide)
      · refine N_c _ ?_ ?_
        · first | trivial | assumption | omega
        · refine keep_env (by first | exact Nat.zero_le _ | exact Nat.le_of_ble_eq_true rfl) ?_ ?_ trivial
          · repeat' first
              | exact trivial
              | refine ⟨⟨by first | rfl | assumption | exact congrArg (fun n => AV.d (iD n)) e_c | (rw [hnx]; rfl), rfl⟩, ?_⟩
          · repeat' first
              | exact trivial
              | refine ⟨⟨ltB rfl, _, rfl, by first | rfl | assumption | (rw [hnx]; rfl), by first | exact below1 rfl | exact below_dblk _ _ _ | exact below_arr rfl⟩, ?_⟩
    | some f =>
      rw [hf] at hidx hnx
      dsimp only at hidx hnx
      obtain ⟨hf1, hf2, _, _⟩ := fndO_some hf
      have haN : a < l.length := by omega
      have e6 : iadd .i64 (a : Int) 1 = ((a + 1 : Nat) : Int) := iadd_nat (b := 1) (by omega)
      have e5 : iadd .i64 (a : Int) ((f - a : Nat) : Int) = (f : Int) := by rw [iadd_nat (by omega)]; congr 1; omega
      refine pc_lend2 hidx (asD_part rfl han) (asD_fn1 (asD_rop rfl)) rfl ?_
      conv => whnf
      repeat' first
        | (refine LookP.mk _ (by first | rfl | exact get_rw (f := fun j => Ps.l (rf j)) hf2 | exact get_rw (f := fun j => Ps.l (rf j)) haN | exact get_rwE (x := Ps.l (rf f)) hf2 (by split <;> rfl)) ?_; conv => whnf)
        | (refine ShlP.mk _ (by first | exact set_rw (x := [_, _, _, _]) haN | exact set_rw (x := [_, _, _, _]) hf2 | (simp only [List.set, over, List.take, List.drop, List.append_eq, List.nil_append, List.cons_append, List.length]; rfl) | rfl) ?_; conv => whnf)
        | (refine And.intro (by first | (rw [e5]; exact ⟨Int.natCast_nonneg _, by omega⟩) | exact ⟨Int.natCast_nonneg _, by omega⟩ | assumption | exact ⟨by kernel_rfl, rfl⟩ | decide | omega | exact ⟨rfl, by decide, by simp only [List.length_map, Nat.zero_add]; omega⟩) ?_; conv => whnf)
        | (rw [e5]; conv => whnf)
        | (refine HpP.force ?_; conv => whnf)
        | (intro t ht; cases t <;> conv => whnf)
      rotate_left
      · exfalso; simp at ht; exact absurd ht (Int.not_lt.2 (Int.natCast_nonneg _))
      have hgv := swap_vl hvr haN hf2
      have hsw : ∀ j, (if j = f then [iD (rf a).w, iD (rf a).x, iD (rf a).z, iD (rf a).p] else if j = a then [iD (rf f).w, iD (rf f).x, iD (rf f).z, iD (rf f).p] else Ps.l (rf j)) = Ps.l (clrR (swapF rf a f) a c 0 j) := by
        intro j
        have e : clrR (swapF rf a f) a c 0 j = swapF rf a f j := by simp [clrR]
        rw [e]
        unfold swapF
        by_cases j1 : j = f <;> by_cases j2 : j = a
        · subst j1 j2; rw [if_pos rfl, if_pos rfl]; rfl
        · rw [if_pos j1, if_neg j2, if_pos j1]; rfl
        · rw [if_neg j1, if_pos j2, if_pos j2]; rfl
        · rw [if_neg j1, if_neg j2, if_neg j2, if_neg j1]
      generalize swapF rf a f = g at hnx hgv hsw
      refine call_walk pok Tryz.func191 chk191 ?_
      conv => whnf
      repeat' first
        | (refine LookP.mk _ rfl ?_; conv => whnf)
        | (refine ShlP.mk _ (by first | (simp only [List.set, over, List.take, List.drop, List.append_eq, List.nil_append, List.cons_append, List.length]; rfl) | rfl) ?_; conv => whnf)
        | (refine And.intro (by first | assumption | exact ⟨by kernel_rfl, rfl⟩ | decide | omega | exact ⟨rfl, by decide, by simp only [List.length_map, Nat.zero_add]; omega⟩) ?_; conv => whnf)
        | (refine HpP.force ?_; conv => whnf)
        | (intro t ht; cases t <;> conv => whnf)
      refine for_use pok (fun k => ⟨[(1, .d (iD a)), (2, .ptr 3 1 0 0), (3, .ptr 5 2 0 0), (7, .d (iD l.length)), (8, .d (iD k))], [(0, some (.arr 2 [[.d (iD w), .d (rowsD l t)]])), (1, some (.arr 2 [[.d (iD 0), .d (.sl [] true)]])), (2, some (dblk 4 ((List.range l.length).map fun j => (clrR g a c k j).l))), (3, some (.arr 1 [[.sl 2 4 0 l.length l.length true]])), (5, some (.arr 2 [[.d (iD (c % 2 : Nat)), .d (iD (c / 2 : Nat))]]))], 6⟩) (l.length) (fun _ => True) (trivial) ?_ (by kernel_rfl) ?_ ?_
      · refine keep_env (by first | exact Nat.zero_le _ | exact Nat.le_of_ble_eq_true rfl) ?_ ?_ trivial
        · repeat' first
            | exact trivial
            | refine ⟨⟨by first | rfl | assumption, rfl⟩, ?_⟩
        · repeat' first
            | exact trivial
            | refine ⟨⟨ltB rfl, _, rfl, by first | rfl | assumption | exact congrArg some (psB_congr hsw), by first | exact below1 rfl | exact below_dblk _ _ _ | exact below_arr rfl⟩, ?_⟩
      · intro k A_k h_k I_k N_k
        have e_k : iadd .i64 (k : Int) 1 = ((k + 1 : Nat) : Int) := iadd_nat (by first | omega | (simp at *; omega))
        have hra := clrR_a g a c k
        have hrk := clrR_ge g a c k k (Nat.le_refl _)
        have hset := @clrR_set g a c k
        have hsame := @clrR_same g a c k
        have hh := has192 (G := G) c (g k)
        have hb : bitB (g k) c = (bitI (if (c : Int) % 2 = 0 then (g k).x else (g k).z) ((c : Int) / 2) == 1) := by
          unfold bitB; rw [Bool.eq_iff_iff]; simp
        have ht2 := times183v (G := G) hw (g k) [g a] true (by simp) (hgv k h_k) (by intro r hr; rw [List.mem_singleton.1 hr]; exact hgv a haN)
        rw [← hrk] at hh hb
        rw [← hra, ← hrk] at ht2
        generalize hr : clrR g a c k = r at hra hrk hset hsame hh hb ht2
        generalize bitI (if (c : Int) % 2 = 0 then (r k).x else (r k).z) ((c : Int) / 2) = b at hh hb
        have hm : ([r a].foldl mulS (r k)) = mulS (r k) (r a) := rfl
        rw [hm] at ht2
        rw [← hra, ← hrk] at hset
        generalize mulS (r k) (r a) = m at ht2 hset
        conv => whnf
        repeat (refine LookP.mk _ rfl ?_; conv => whnf)
        intro t ht
        cases t
        · exfalso; first | (simp at ht; done) | (simp at ht; omega)
        conv => whnf
        repeat' first
          | (refine LookP.mk _ (by first | rfl | exact get_rw (f := fun j => Ps.l (r j)) h_k | exact get_rw (f := fun j => Ps.l (r j)) haN) ?_; conv => whnf)
          | (refine ShlP.mk _ (by first | exact set_rw (x := [_, _, _, _]) h_k | (simp only [List.set, over, List.take, List.drop, List.append_eq, List.nil_append, List.cons_append, List.length]; rfl) | rfl) ?_; conv => whnf)
          | (refine And.intro (by first | exact ⟨Int.natCast_nonneg _, by omega⟩ | assumption | exact ⟨by kernel_rfl, rfl⟩ | decide | omega | exact ⟨rfl, by decide, by simp only [List.length_map, Nat.zero_add]; omega⟩) ?_; conv => whnf)
          | (refine pc_use (hh) ?_; conv => whnf)
          | (refine pc_head (hh) ?_; conv => whnf)
          | (refine pc_use (ht2) ?_; conv => whnf)
          | (refine pc_head (ht2) ?_; conv => whnf)
          | (refine HpP.force ?_; conv => whnf)
          | (intro t ht; cases t <;> conv => whnf)
        · have hka : k = a := by simp at ht; omega
          have e : clrR g a c (k + 1) = r := hsame fun q => q.1 hka
          refine N_k _ ?_ ?_
          · first | trivial | assumption | omega
          · refine keep_env (by first | exact Nat.zero_le _ | exact Nat.le_of_ble_eq_true rfl) ?_ ?_ trivial
            · repeat' first
                | exact trivial
                | refine ⟨⟨by first | rfl | assumption | exact congrArg (fun n => AV.d (iD n)) e_k, rfl⟩, ?_⟩
            · repeat' first
                | exact trivial
                | refine ⟨⟨ltB rfl, _, rfl, by first | rfl | assumption | (rw [e]; rfl), by first | exact below1 rfl | exact below_dblk _ _ _ | exact below_arr rfl⟩, ?_⟩
        · have e : clrR g a c (k + 1) = r := by
            refine hsame fun q => ?_
            rw [← hrk, hb] at q
            rw [q.2] at ht; cases ht
          refine N_k _ ?_ ?_
          · first | trivial | assumption | omega
          · refine keep_env (by first | exact Nat.zero_le _ | exact Nat.le_of_ble_eq_true rfl) ?_ ?_ trivial
            · repeat' first
                | exact trivial
                | refine ⟨⟨by first | rfl | assumption | exact congrArg (fun n => AV.d (iD n)) e_k, rfl⟩, ?_⟩
            · repeat' first
                | exact trivial
                | refine ⟨⟨ltB rfl, _, rfl, by first | rfl | assumption | (rw [e]; rfl), by first | exact below1 rfl | exact below_dblk _ _ _ | exact below_arr rfl⟩, ?_⟩
        · have hka : k ≠ a := by intro e; subst e; simp at *
          have e := hset hka (by rw [hb]; exact ht)
          have hblk : ∀ j, (if j = k then [iD m.w, iD m.x, iD m.z, iD m.p] else Ps.l (r j)) = Ps.l (clrR g a c (k + 1) j) := by
            intro j
            rw [e]
            dsimp only
            split <;> rfl
          refine N_k _ ?_ ?_
          · first | trivial | assumption | omega
          · refine keep_env (by first | exact Nat.zero_le _ | exact Nat.le_of_ble_eq_true rfl) ?_ ?_ trivial
            · repeat' first
                | exact trivial
                | refine ⟨⟨by first | rfl | assumption | exact congrArg (fun n => AV.d (iD n)) e_k, rfl⟩, ?_⟩
            · repeat' first
                | exact trivial
                | refine ⟨⟨ltB rfl, _, rfl, by first | rfl | assumption | exact congrArg some (psB_congr hblk), by first | exact below1 rfl | exact below_dblk _ _ _ | exact below_arr rfl⟩, ?_⟩
      · intro A_last I_last
        conv => whnf
        repeat (refine LookP.mk _ rfl ?_; conv => whnf)
        intro t ht
        cases t
        rotate_left
        · exfalso; first | (simp at ht; done) | (simp at ht; omega)
        conv => whnf
        repeat' first
          | (refine LookP.mk _ rfl ?_; conv => whnf)
          | (refine ShlP.mk _ (by first | (simp only [List.set, over, List.take, List.drop, List.append_eq, List.nil_append, List.cons_append, List.length]; rfl) | rfl) ?_; conv => whnf)
          | (refine And.intro (by first | assumption | exact ⟨by kernel_rfl, rfl⟩ | decide | omega | exact ⟨rfl, by decide, by simp only [List.length_map, Nat.zero_add]; omega⟩) ?_; conv => whnf)
          | (refine HpP.force ?_; conv => whnf)
          | (intro t ht; cases t <;> conv => whnf)
        refine N_c _ ?_ ?_
        · first | trivial | assumption | omega
        · refine keep_env (by first | exact Nat.zero_le _ | exact Nat.le_of_ble_eq_true rfl) ?_ ?_ trivial
          · repeat' first
              | exact trivial
              | refine ⟨⟨by first | rfl | assumption | exact congrArg (fun n => AV.d (iD n)) e_c | (rw [hnx]; exact congrArg (fun n => AV.d (iD n)) e6) | (rw [hnx]; rfl), rfl⟩, ?_⟩
          · repeat' first
              | exact trivial
              | refine ⟨⟨ltB rfl, _, rfl, by first | rfl | assumption | (rw [hnx]; rfl), by first | exact below1 rfl | exact below_dblk _ _ _ | exact below_arr rfl⟩, ?_⟩
  · intro A_last I_last
    conv => whnf
    repeat (refine LookP.mk _ rfl ?_; conv => whnf)
    intro t ht
    cases t
    rotate_left
    · exfalso; first | (simp at ht; done) | (simp at ht; omega)
    conv => whnf
    repeat' first
      | (refine LookP.mk _ rfl ?_; conv => whnf)
      | (refine ShlP.mk _ (by first | (simp only [List.set, over, List.take, List.drop, List.append_eq, List.nil_append, List.cons_append, List.length]; rfl) | rfl) ?_; conv => whnf)
      | (refine And.intro (by first | assumption | exact ⟨by kernel_rfl, rfl⟩ | decide | omega | exact ⟨rfl, by decide, by simp only [List.length_map, Nat.zero_add]; omega⟩) ?_; conv => whnf)
      | (refine HpP.force ?_; conv => whnf)
      | (intro t ht; cases t <;> conv => whnf)
    refine fin ⟨rfl, ?_⟩
    have e : (redRows l (2 * w)).map Ps.l = (List.range l.length).map fun j => Ps.l ((redN l (2 * w)).1 j) := by
      unfold redRows; rw [List.map_map]; rfl
    rw [e]; rfl
theorem canon105 {w : Nat} (hw : 1 ≤ w ∧ w ≤ 12) (l : List Ps) (t : Bool) (hn : l.length ≤ 1000) (hv : ∀ q, q ∈ l → Vl w q) : PC Pr G 105 [stD w l t] (stD w (redRows l (2 * w)) true) := by
  refine pc_freeze (isFn_of Tryz.func105 chk105) (acall_mono (canon105a hw l t hn hv) ?_)
  rintro v H _ ⟨rfl, hg⟩
  refine asD_agg2 (.d _) ?_
  have := asD_sl_map (nm := 2) (lo := 0) (len := l.length) (room := l.length) (t := true) hg (by simp [redRows])
  have e : (((redRows l (2 * w)).map Ps.l).drop 0).take l.length = (redRows l (2 * w)).map Ps.l := by
    rw [List.drop_zero, List.take_of_length_le (by simp [redRows])]
  rw [e] at this
  have et : (true && decide (l.length = l.length)) = true := by simp
  rw [et] at this
  exact this
/-- .. its rows the caller's own. -/
theorem canon105o {w : Nat} (hw : 1 ≤ w ∧ w ≤ 12) (l : List Ps) (t : Bool) (hn : l.length ≤ 1000) (hv : ∀ q, q ∈ l → Vl w q) : PO Pr G 105 [stD w l t] (.agg [.d (iD w), .sl 0 4 0 l.length l.length true]) [(0, some (dblk 4 ((redRows l (2 * w)).map Ps.l)))] 1 := by
  refine ⟨isFn_of Tryz.func105 chk105, acall_sub (canon105a hw l t hn hv) ?_⟩
  rintro v H n ⟨rfl, hg⟩
  refine ⟨_, _, 1, ?_, rfl, rfl, rfl⟩
  first | refine ren_env [(0, 2)] ?_ ?_ ?_ trivial | refine ren_envB [(0, 2)] rfl rfl ?_ ?_ ?_ trivial
  · repeat' first
      | exact trivial
      | refine ⟨⟨by first | rfl | assumption, rfl⟩, ?_⟩
  · repeat' first
      | exact trivial
      | refine ⟨⟨ltB rfl, _, rfl, by first | rfl | assumption | exact get_ren rfl (by first | rfl | assumption | exact get_ren rfl hg) | exact get_ren rfl hg, by first | exact below1 rfl | exact below_dblk _ _ _ | exact below_arr rfl⟩, ?_⟩
  · repeat' first
      | exact trivial
      | (refine And.intro ?_ ?_)
      | exact fun _ => rfl
      | exact fun h => absurd h (Nat.ne_of_beq_eq_false rfl)
end Go.Tz


/-! Reduced rows, the reference's and the program's: independent lists. -/
namespace Go.Tz
open Go Go.AL Go.Ma
def vec (q : Ps) : Nat := (nf q).2
theorem vec_in {w : Nat} (hw : w ≤ 12) {q : Ps} (h : Vl w q) : inV w (vec q) := by
  obtain ⟨X, Z, P, rfl, h1, h2, h3⟩ := h
  have hp : (2 : Nat) ^ w ≤ 2 ^ 12 := Nat.pow_le_pow_right (by decide) hw
  unfold vec
  rw [nf_mk]
  refine inV_bits _ fun j hj => ?_
  dsimp only
  rw [vec_bit (by omega)]
  split
  · exact Nat.testBit_lt_two_pow (Nat.lt_of_lt_of_le h1 (Nat.pow_le_pow_right (by decide) (by omega)))
  · exact Nat.testBit_lt_two_pow (Nat.lt_of_lt_of_le h2 (Nat.pow_le_pow_right (by decide) (by omega)))
theorem vec_lt {w : Nat} (hw : w ≤ 12) {q : Ps} (h : Vl w q) : vec q < 2 ^ 24 := sp_lt _ (U_lt hw) _ (vec_in hw h)
theorem vec_mul {w : Nat} (hw : w ≤ 12) {q r : Ps} (hq : Vl w q) (hr : Vl w r) : vec (mulS q r) = vec q ^^^ vec r := by
  unfold vec; rw [nf_mul hw hq hr]; rfl
theorem bitB_cb {w c : Nat} (hw : w ≤ 12) (hc : c < 2 * w) {q : Ps} (h : Vl w q) : bitB q c = cb (vec q) c := by
  obtain ⟨X, Z, P, rfl, h1, h2, h3⟩ := h
  have hp : (2 : Nat) ^ w ≤ 2 ^ 12 := Nat.pow_le_pow_right (by decide) hw
  unfold bitB cb pos vec bitI mk
  rw [show nf ⟨(w : Int), (X : Int), (Z : Int), (P : Int)⟩ = _ from nf_mk w X Z P]
  dsimp only
  have e2 : (c : Int) / 2 = ((c / 2 : Nat) : Int) := by omega
  rw [e2]
  by_cases e : c % 2 = 0
  · rw [if_pos (show (c : Int) % 2 = 0 by omega), if_pos e, bit_nat (by omega) (by omega), vec_bit (by omega), if_pos (show c / 2 < 12 by omega)]
    cases X.testBit (c / 2) <;> simp
  · rw [if_neg (show ¬ (c : Int) % 2 = 0 by omega), if_neg e, bit_nat (by omega) (by omega), vec_bit (by omega), if_neg (show ¬ 12 + c / 2 < 12 by omega), show 12 + c / 2 - 12 = c / 2 by omega]
    cases Z.testBit (c / 2) <;> simp
theorem rr_congr {n c a : Nat} {R R' pc : Nat → Nat} (h : RR n c a R pc) (e : ∀ j, j < n → R j = R' j) : RR n c a R' pc := by
  have ha := h.an
  refine ⟨h.an, h.lt, h.mono, fun j hj => ?_, fun i j hi hj hij => ?_, fun j d hj hd => ?_, fun j d h1 h2 h3 => ?_⟩
  · rw [← e j (by omega)]; exact h.own j hj
  · rw [← e i hi]; exact h.other i j hi hj hij
  · rw [← e j (by omega)]; exact h.lead j d hj hd
  · rw [← e j h2]; exact h.zero j d h1 h2 h3
theorem piv_congr {n : Nat} {r r' p : Nat → Nat} {act : Nat → Bool} (h : Piv n r p act) (e : ∀ j, j < n → r j = r' j) : Piv n r' p act :=
  ⟨fun i hi ha => by rw [← e i hi]; exact h.own i hi ha, fun i j hi hj hij ha => by rw [← e i hi]; exact h.other i j hi hj hij ha, fun i hi ha => by rw [← e i hi]; exact h.zero i hi ha⟩
/-- The rows of the reference. -/
def rfv (l : List Ps) (c j : Nat) : Nat := vec ((redN l c).1 j)
/-- What one column does with the rows of the reference. -/
theorem rfv_step {w : Nat} (hw : w ≤ 12) {l : List Ps} (hv : ∀ q, q ∈ l → Vl w q) {c : Nat} (hc : c < 2 * w) :
    (fndO (redN l c).1 l.length c (redN l c).2.2 = none ∧ redN l (c + 1) = redN l c ∧ ∀ j, (redN l c).2.2 ≤ j → j < l.length → cb (rfv l c j) c = false) ∨
    ∃ f, (redN l c).2.2 ≤ f ∧ f < l.length ∧ (redN l (c + 1)).2.2 = (redN l c).2.2 + 1 ∧ (redN l (c + 1)).2.1 = clrB (swapF (redN l c).1 (redN l c).2.2 f) (swapF (redN l c).2.1 (redN l c).2.2 f) l.length (redN l c).2.2 c l.length ∧ cb (rfv l c f) c = true ∧
      ∀ j, j < l.length → rfv l (c + 1) j = clr (swp (rfv l c) (redN l c).2.2 f) (redN l c).2.2 c j := by
  obtain ⟨q1, q2⟩ := red_vl hw hv c
  cases hf : fndO (redN l c).1 l.length c (redN l c).2.2 with
  | none =>
    refine .inl ⟨rfl, by simp only [redN, colS, hf], fun j h1 h2 => ?_⟩
    have := fndO_none hf j h1 h2
    rw [bitB_cb hw hc (q1 j h2)] at this
    exact this
  | some f =>
    obtain ⟨h1, h2, h3, h4⟩ := fndO_some hf
    have han : (redN l c).2.2 < l.length := by omega
    have e1 : redN l (c + 1) = (clrR (swapF (redN l c).1 (redN l c).2.2 f) (redN l c).2.2 c l.length, clrB (swapF (redN l c).1 (redN l c).2.2 f) (swapF (redN l c).2.1 (redN l c).2.2 f) l.length (redN l c).2.2 c l.length, (redN l c).2.2 + 1) := by simp only [redN, colS, hf]
    rw [bitB_cb hw hc (q1 f h2)] at h3
    refine .inr ⟨f, h1, h2, by rw [e1], by rw [e1], h3, fun j hj => ?_⟩
    have hs := swap_vl q1 han h2
    have sw : ∀ j, vec (swapF (redN l c).1 (redN l c).2.2 f j) = swp (rfv l c) (redN l c).2.2 f j := by
      intro j
      unfold swapF swp rfv
      split
      · rfl
      · split <;> rfl
    show vec ((redN l (c + 1)).1 j) = _
    rw [e1]
    dsimp only
    unfold clrR clr
    rw [← sw j, ← sw (redN l c).2.2, ← bitB_cb hw hc (hs j hj)]
    by_cases e : j ≠ (redN l c).2.2 ∧ bitB (swapF (redN l c).1 (redN l c).2.2 f j) c = true
    · rw [if_pos ⟨hj, e⟩, if_pos e, vec_mul hw (hs j hj) (hs _ han)]
    · rw [if_neg (fun q => e q.2), if_neg e]
theorem rfv_rr {w : Nat} (hw : w ≤ 12) {l : List Ps} (hv : ∀ q, q ∈ l → Vl w q) : ∀ {c : Nat}, c ≤ 2 * w → ∃ pc, RR l.length c (redN l c).2.2 (rfv l c) pc
  | 0, _ => ⟨_, rr_zero _ _⟩
  | c + 1, hc => by
    obtain ⟨pc, h⟩ := rfv_rr hw hv (c := c) (by omega)
    rcases rfv_step hw hv (c := c) (by omega) with ⟨_, h2, h3⟩ | ⟨f, f1, f2, f3, _, f4, f5⟩
    · refine ⟨pc, ?_⟩
      have e : rfv l (c + 1) = rfv l c := by funext j; unfold rfv; rw [h2]
      rw [e, h2]
      exact rr_skip h h3
    · refine ⟨fun j => if j = (redN l c).2.2 then c else pc j, ?_⟩
      rw [f3]
      refine rr_congr (rr_clr (rr_swap h f1 f2) (by omega) ?_) fun j hj => (f5 j hj).symm
      unfold swp; rw [if_pos rfl]; exact f4
theorem span_clr {n a : Nat} {R : Nat → Nat} (ha : a < n) (t : Nat → Bool) (v : Nat) : spB (revl (fun j => if j ≠ a ∧ t j = true then R j ^^^ R a else R j) n) v = spB (revl R n) v := by
  have m1 : ∀ j, j < n → spB (revl R n) (R j) = true := fun j hj => sp_mem _ _ (revl_mem.2 ⟨j, hj, rfl⟩)
  have m2 : ∀ j, j < n → spB (revl (fun j => if j ≠ a ∧ t j = true then R j ^^^ R a else R j) n) (if j ≠ a ∧ t j = true then R j ^^^ R a else R j) = true := fun j hj => sp_mem _ _ (revl_mem.2 ⟨j, hj, rfl⟩)
  have ma := m2 a ha
  rw [if_neg (by simp)] at ma
  refine sp_ext (fun x hx => ?_) (fun x hx => ?_) v
  · obtain ⟨j, hj, rfl⟩ := revl_mem.1 hx
    split
    · exact sp_xor _ _ _ (m1 j hj) (m1 a ha)
    · exact m1 j hj
  · obtain ⟨j, hj, rfl⟩ := revl_mem.1 hx
    have := m2 j hj
    split at this
    · have h2 := sp_xor _ _ _ this ma
      rwa [xor_cancel] at h2
    · exact this
theorem span_swp {n a f : Nat} {R : Nat → Nat} (ha : a < n) (hf : f < n) (v : Nat) : spB (revl (swp R a f) n) v = spB (revl R n) v := by
  refine sp_ext (fun x hx => ?_) (fun x hx => ?_) v
  · obtain ⟨j, hj, rfl⟩ := revl_mem.1 hx
    obtain ⟨i, hi, e, _⟩ := swp_mem (f := R) ha hf hj
    rw [e]; exact sp_mem _ _ (revl_mem.2 ⟨i, hi, rfl⟩)
  · obtain ⟨j, hj, rfl⟩ := revl_mem.1 hx
    by_cases e1 : j = a
    · refine sp_mem _ _ (revl_mem.2 ⟨f, hf, ?_⟩)
      unfold swp
      by_cases e2 : f = a
      · rw [if_pos e2, e1, e2]
      · rw [if_neg e2, if_pos rfl, e1]
    · by_cases e2 : j = f
      · refine sp_mem _ _ (revl_mem.2 ⟨a, ha, ?_⟩)
        unfold swp; rw [if_pos rfl, e2]
      · refine sp_mem _ _ (revl_mem.2 ⟨j, hj, ?_⟩)
        unfold swp; rw [if_neg e1, if_neg e2]
theorem revl_congr {r r' : Nat → Nat} : ∀ {n : Nat}, (∀ j, j < n → r j = r' j) → revl r n = revl r' n
  | 0, _ => rfl
  | n + 1, h => by simp only [revl]; rw [h n (by omega), revl_congr fun j hj => h j (by omega)]
theorem rfv_span {w : Nat} (hw : w ≤ 12) {l : List Ps} (hv : ∀ q, q ∈ l → Vl w q) (v : Nat) : ∀ {c : Nat}, c ≤ 2 * w → spB (revl (rfv l c) l.length) v = spB (revl (rfv l 0) l.length) v
  | 0, _ => rfl
  | c + 1, hc => by
    rw [← rfv_span hw hv v (c := c) (by omega)]
    rcases rfv_step hw hv (c := c) (by omega) with ⟨_, h2, h3⟩ | ⟨f, f1, f2, f3, _, f4, f5⟩
    · have e : rfv l (c + 1) = rfv l c := by funext j; unfold rfv; rw [h2]
      rw [e]
    · have ha : (redN l c).2.2 < l.length := by omega
      rw [revl_congr f5, ← span_swp (R := rfv l c) ha f2 v]
      exact span_clr (R := swp (rfv l c) (redN l c).2.2 f) ha (fun j => cb (swp (rfv l c) (redN l c).2.2 f j) c) v
theorem rfv_piv {w : Nat} (hw : w ≤ 12) {l : List Ps} (hv : ∀ q, q ∈ l → Vl w q) : ∃ pc, RR l.length (2 * w) (redN l (2 * w)).2.2 (rfv l (2 * w)) pc ∧ Piv l.length (rfv l (2 * w)) (fun i => pos (pc i)) fun i => decide (i < (redN l (2 * w)).2.2) := by
  obtain ⟨pc, h⟩ := rfv_rr hw hv (Nat.le_refl _)
  exact ⟨pc, h, rr_piv h fun j hj hz => cb_zero hw (vec_in hw ((red_vl hw hv _).1 j hj)) hz⟩
/-! the program's rows -/
def rwv (l : List Ps) (m j : Nat) : Nat := (redW (rowN l) m j).1
theorem rwv_0 (l : List Ps) {j : Nat} (hj : j < l.length) : rwv l 0 j = rfv l 0 j := by
  unfold rwv rfv
  have h2 : j < (rowN l).length := by rw [rowN_len]; exact hj
  simp only [redW, redN, List.getD_eq_getElem?_getD, List.getElem?_eq_getElem hj, List.getElem?_eq_getElem h2, Option.getD_some]
  simp [rowN, vec]
theorem rwv_step (l : List Ps) (m : Nat) : rwv l (m + 1) = if rwv l m m ≠ 0 then (fun k => if k < (rowN l).length ∧ k ≠ m ∧ (rwv l m k).testBit (lowN (rwv l m m)) = true then rwv l m k ^^^ rwv l m m else rwv l m k) else rwv l m := by
  funext k
  unfold rwv
  simp only [redW]
  split
  · unfold clrW
    dsimp only
    split <;> rfl
  · rfl
theorem rwv_span {w : Nat} (hw : w ≤ 12) {l : List Ps} (hv : ∀ q, q ∈ l → Vl w q) (hn : l.length ≤ 24) (v : Nat) : ∀ {m : Nat}, m ≤ l.length → spB (revl (rwv l m) l.length) v = spB (revl (rfv l 0) l.length) v
  | 0, _ => by rw [revl_congr fun j hj => rwv_0 l hj]
  | m + 1, hm => by
    rw [← rwv_span hw hv hn v (m := m) (by omega), rwv_step]
    split
    · rw [← span_clr (R := rwv l m) (a := m) (by omega) (fun k => (rwv l m k).testBit (lowN (rwv l m m))) v]
      congr 1
      refine revl_congr fun j hj => ?_
      have : j < (rowN l).length := by rw [rowN_len]; exact hj
      simp only [this, true_and]
    · rfl
theorem rwv_piv {w : Nat} (hw : w ≤ 12) {l : List Ps} (hv : ∀ q, q ∈ l → Vl w q) (hn : l.length ≤ 24) : ∀ {m : Nat}, m ≤ l.length → ∃ p : Nat → Nat, (∀ j, j < m → rwv l m j ≠ 0 → (rwv l m j).testBit (p j) = true) ∧ ∀ i j, i < l.length → j < m → i ≠ j → rwv l m j ≠ 0 → (rwv l m i).testBit (p j) = false
  | 0, _ => ⟨fun _ => 0, by omega, by omega⟩
  | m + 1, hm => by
    obtain ⟨p, h1, h2⟩ := rwv_piv hw hv hn (m := m) (by omega)
    have hlt := redW_lt (rowN_lt hw hv hn) m
    rw [rwv_step]
    by_cases h0 : rwv l m m ≠ 0
    · rw [if_pos h0]
      obtain ⟨hl, hb, _⟩ := low_spec h0 (hlt m).1
      generalize lowN (rwv l m m) = b at hl hb
      have hmj : ∀ j, j < m → rwv l m j ≠ 0 → (rwv l m m).testBit (p j) = false := fun j hj hz => h2 m j (by omega) hj (by omega) hz
      have nz : ∀ j, j < m → (if j < (rowN l).length ∧ j ≠ m ∧ (rwv l m j).testBit b = true then rwv l m j ^^^ rwv l m m else rwv l m j) ≠ 0 → rwv l m j ≠ 0 := by
        intro j hj h e
        rw [e] at h
        simp at h
      refine ⟨fun j => if j = m then b else p j, fun j hj hz => ?_, fun i j hi hj hij hz => ?_⟩
      · dsimp only at hz ⊢
        by_cases e : j = m
        · subst e
          rw [if_pos rfl, if_neg (by simp)]; exact hb
        · rw [if_neg e]
          have hj' : j < m := by omega
          have hz' := nz j hj' hz
          split
          · rw [Nat.testBit_xor, h1 j hj' hz', hmj j hj' hz']; rfl
          · exact h1 j hj' hz'
      · dsimp only at hz ⊢
        have hil : i < (rowN l).length := by rw [rowN_len]; exact hi
        by_cases e : j = m
        · subst e
          rw [if_pos rfl]
          by_cases c : (rwv l j i).testBit b = true
          · rw [if_pos ⟨hil, hij, c⟩, Nat.testBit_xor, c, hb]; rfl
          · rw [if_neg fun q => c q.2.2]; simpa using c
        · rw [if_neg e]
          have hj' : j < m := by omega
          have hz' := nz j hj' hz
          split
          · rw [Nat.testBit_xor, h2 i j hi hj' hij hz', hmj j hj' hz']; rfl
          · exact h2 i j hi hj' hij hz'
    · rw [if_neg h0]
      simp only [ne_eq, Decidable.not_not] at h0
      refine ⟨p, fun j hj hz => ?_, fun i j hi hj hij hz => ?_⟩
      · exact h1 j (by rcases Nat.lt_or_ge j m with q | q; exact q; exact absurd (by rw [show j = m by omega]; exact h0) hz) hz
      · exact h2 i j hi (by rcases Nat.lt_or_ge j m with q | q; exact q; exact absurd (by rw [show j = m by omega]; exact h0) hz) hij hz
theorem rwv_Piv {w : Nat} (hw : w ≤ 12) {l : List Ps} (hv : ∀ q, q ∈ l → Vl w q) (hn : l.length ≤ 24) : ∃ p, Piv l.length (rwv l l.length) p fun i => decide (rwv l l.length i ≠ 0) := by
  obtain ⟨p, h1, h2⟩ := rwv_piv hw hv hn (Nat.le_refl _)
  exact ⟨p, fun i hi ha => h1 i hi (by simpa using ha), fun i j hi hj hij ha => h2 i j hi hj hij (by simpa using ha), fun i _ ha => by simpa using ha⟩
theorem lead_nz {w : Nat} (hw : w ≤ 12) {q : Ps} (h : Vl w q) : 0 ≤ leadI q ↔ vec q ≠ 0 := by
  have hww := vl_w h
  have key : ∀ f k, k + f = 2 * w → (0 ≤ leadF q f k ↔ ∃ d, k ≤ d ∧ d < 2 * w ∧ bitB q d = true) := by
    intro f
    induction f with
    | zero =>
      intro k hk
      constructor
      · intro h; simp [leadF] at h
      · rintro ⟨d, h1, h2, _⟩; omega
    | succ f ih =>
      intro k hk
      simp only [leadF]
      by_cases hb : bitB q k = true
      · rw [if_pos hb]
        exact ⟨fun _ => ⟨k, Nat.le_refl _, by omega, hb⟩, fun _ => by omega⟩
      · rw [if_neg hb, ih (k + 1) (by omega)]
        constructor
        · rintro ⟨d, h1, h2, h3⟩; exact ⟨d, by omega, h2, h3⟩
        · rintro ⟨d, h1, h2, h3⟩
          refine ⟨d, ?_, h2, h3⟩
          rcases Nat.lt_or_ge k d with e | e
          · omega
          · have : d = k := by omega
            subst this; exact absurd h3 hb
  unfold leadI
  rw [hww, Int.toNat_natCast, key _ 0 (by omega)]
  constructor
  · rintro ⟨d, _, h2, h3⟩ e
    rw [bitB_cb hw h2 h, e] at h3
    simp [cb] at h3
  · intro hz
    refine Classical.byContradiction fun hn => hz (cb_zero hw (vec_in hw h) fun d hd => ?_)
    rw [← bitB_cb hw hd h]
    cases e : bitB q d with
    | false => rfl
    | true => exact absurd ⟨d, Nat.zero_le _, hd, e⟩ hn
theorem cnt_countP {act : Nat → Bool} : ∀ n, Ma.cnt act n = (List.range n).countP act
  | 0 => rfl
  | n + 1 => by
    rw [List.range_succ, List.countP_append, ← cnt_countP n]
    simp only [Ma.cnt, List.countP_singleton]
    cases act n <;> rfl
theorem cnt_congr {act act' : Nat → Bool} : ∀ {n : Nat}, (∀ j, j < n → act j = act' j) → Ma.cnt act n = Ma.cnt act' n
  | 0, _ => rfl
  | n + 1, h => by simp only [Ma.cnt]; rw [cnt_congr fun j hj => h j (by omega), h n (by omega)]
theorem rank_rk {w : Nat} (hw : w ≤ 12) {l : List Ps} (hv : ∀ q, q ∈ l → Vl w q) : rankN (redRows l (2 * w)) = rk (revl (rfv l 0) l.length) := by
  obtain ⟨pc, h1, h2⟩ := rfv_piv hw hv
  have hb : ∀ c, ∀ a, a ∈ revl (rfv l c) l.length → a < 2 ^ 24 := by
    intro c a ha
    obtain ⟨j, hj, rfl⟩ := revl_mem.1 ha
    exact vec_lt hw ((red_vl hw hv c).1 j hj)
  have e1 := rk_eq (hb (2 * w)) (hb 0) fun v => rfv_span hw hv v (Nat.le_refl _)
  rw [← e1, rk_piv h2]
  unfold rankN redRows
  rw [List.countP_map, cnt_countP]
  refine List.countP_congr fun j hj => ?_
  have hjn := List.mem_range.1 hj
  have hvl := (red_vl hw hv (2 * w)).1 j hjn
  simp only [Function.comp, decide_eq_true_eq]
  rw [lead_nz hw hvl]
  constructor
  · intro hz
    refine Classical.byContradiction fun hn => hz (h2.zero j hjn (by simpa using hn))
  · intro hlt e
    have := h2.own j hjn (by simpa using hlt)
    rw [show rfv l (2 * w) j = 0 from e] at this
    simp at this
theorem gone_rk {w : Nat} (hw : w ≤ 12) {l : List Ps} (hv : ∀ q, q ∈ l → Vl w q) (hn : l.length ≤ 24) : (gnW (redF l) l.length).length = 0 ↔ rk (revl (rfv l 0) l.length) = l.length := by
  obtain ⟨p, h2⟩ := rwv_Piv hw hv hn
  have hb : ∀ a, a ∈ revl (rfv l 0) l.length → a < 2 ^ 24 := by
    intro a ha
    obtain ⟨j, hj, rfl⟩ := revl_mem.1 ha
    exact vec_lt hw ((red_vl hw hv 0).1 j hj)
  have hb2 : ∀ a, a ∈ revl (rwv l l.length) l.length → a < 2 ^ 24 := by
    intro a ha
    obtain ⟨j, hj, rfl⟩ := revl_mem.1 ha
    exact (redW_lt (rowN_lt hw hv hn) _ j).1
  have e1 := rk_eq hb2 hb fun v => rwv_span hw hv hn v (Nat.le_refl _)
  rw [← e1, rk_piv h2, cnt_all]
  unfold gnW redF
  rw [List.length_eq_zero_iff, List.filter_eq_nil_iff]
  constructor
  · intro h i hi
    have := h _ (List.mem_map.2 ⟨i, List.mem_range.2 hi, rfl⟩)
    exact decide_eq_true (by simpa [rwv] using this)
  · intro h r hr
    obtain ⟨i, hi, rfl⟩ := List.mem_map.1 hr
    have := of_decide_eq_true (h i (List.mem_range.1 hi))
    simpa [rwv] using this
/-- Both ask the same. -/
theorem ind_iff {w : Nat} (hw : w ≤ 12) {l : List Ps} (hv : ∀ q, q ∈ l → Vl w q) (hn : l.length ≤ 24) : (gnW (redF l) l.length).length = 0 ↔ rankN (redRows l (2 * w)) = l.length := by
  rw [gone_rk hw hv hn, rank_rk hw hv]
end Go.Tz


namespace Go.Tz
open Go Go.AL Go.Proofs
def zeroS (w : Nat) : List Ps := (List.range w).map fun i => ⟨w, 0, ((2 ^ i : Nat) : Int), 0⟩
def zD (w : Nat) : D := .tup [stD w (zeroS w) false, iD 0]
noncomputable def zRun (w : Nat) : Bool := match rn 30 [iD w] with
  | some d => dB d (zD w)
  | none => false
theorem zRun_ok {w : Nat} (h : zRun w = true) : PC Pr GG 30 [iD w] (zD w) := by
  unfold zRun at h
  split at h
  · rename_i d hd
    rw [← dB_eq _ _ h]
    exact rn_ok hd
  · cases h
theorem zero30 {w : Nat} (h1 : 1 ≤ w) (h2 : w ≤ 12) : PC Pr GG 30 [iD w] (zD w) := by
  have h : ((List.range 12).all fun i => zRun (i + 1)) = true := by kernel_rfl
  have := List.all_eq_true.1 h (w - 1) (List.mem_range.2 (by omega))
  rw [show w - 1 + 1 = w by omega] at this
  exact zRun_ok this
end Go.Tz


namespace Go.Tz
open Go Go.AL Go.Proofs
variable {G : Nat → Option (List D)}
def badAt (l : List Ps) (i : Nat) : Bool := match l[i]? with
  | some q => decide (q.p.tmod 2 ≠ 0) || (l.take i).any fun r => decide (mulS q r ≠ mulS r q)
  | none => false
def badS (l : List Ps) : Bool := (List.range l.length).any (badAt l)
def chkS (w : Int) (l : List Ps) : Int :=
  if offB w 1 12 then 3 else if (l.length : Int) ≠ w then 2 else match l.find? fun q => decide (pchkI q ≠ 0) with
  | some q => pchkI q
  | none => if l.any fun q => decide (q.w ≠ w) then 7 else if badS l then 14 else if rankN (redRows l (2 * w.toNat)) = l.length then 0 else 14
theorem find_at {l : List Ps} {p : Ps → Bool} {i : Nat} (h : i < l.length) (hz : ∀ q, q ∈ l.take i → p q = false) (hp : p l[i] = true) : l.find? p = some l[i] := by
  have e : (l.take i ++ l[i] :: l.drop (i + 1)).find? p = some l[i] := by
    rw [List.find?_append, List.find?_eq_none.2 (by intro q hq; simp [hz q hq]), List.find?_cons_of_pos hp]; rfl
  have e2 : l.take i ++ l[i] :: l.drop (i + 1) = l := by rw [List.getElem_cons_drop, List.take_append_drop]
  rw [e2] at e
  exact e
theorem badAt_lt {l : List Ps} {i : Nat} (h : i < l.length) : badAt l i = (decide (l[i].p.tmod 2 ≠ 0) || (l.take i).any fun r => decide (mulS l[i] r ≠ mulS r l[i])) := by
  unfold badAt; rw [List.getElem?_eq_getElem h]
theorem badS_of {l : List Ps} {i : Nat} (h : i < l.length) (hb : badAt l i = true) : badS l = true := List.any_eq_true.2 ⟨i, List.mem_range.2 h, hb⟩
theorem chk17 : chkFn Tryz.f17 = true := by kernel_rfl
abbrev sH (w : Int) (l : List Ps) (t : Bool) : AHeap := [(0, some (.arr 2 [[.d (iD w), .d (rowsD l t)]]))]
theorem scheck17 (w : Int) (l : List Ps) (t : Bool) (hn : l.length ≤ 1000) : PC Pr G 17 [stD w l t] (iD (chkS w l)) := by
  refine pc_walk pok Tryz.func17 chk17 ?_
  conv => whnf
  repeat' first
    | (refine LookP.mk _ rfl ?_; conv => whnf)
    | (refine ShlP.mk _ (by first | (simp only [List.set, over, List.take, List.drop, List.append_eq, List.nil_append, List.cons_append, List.length]; rfl) | rfl) ?_; conv => whnf)
    | (refine And.intro (by first | assumption | exact ⟨by kernel_rfl, rfl⟩ | decide | omega | exact ⟨rfl, by decide, by simp only [List.length_map, Nat.zero_add]; omega⟩) ?_; conv => whnf)
    | (refine pc_useB (off88 _ _ _) ?_)
    | (refine pc_headB (off88 _ _ _) ?_)
    | (refine HpP.force ?_; conv => whnf)
    | (intro t ht; cases t <;> conv => whnf)
  · have ho : offB w 1 12 = false := by assumption
    have hw : (l.length : Int) = w := by simp at *; omega
    have how : 1 ≤ w ∧ w ≤ 12 := by simp [offB] at ho; omega
    refine loop_use2 (σ := { i : Nat // i ≤ l.length ∧ ∀ q, q ∈ l.take i → pchkI q = 0 }) (fun s => ⟨[(1, .ptr 0 2 0 0), (3, .d (iD s.1))], sH w l t, 1⟩) (fun s => l.length - s.1) ⟨0, Nat.zero_le _, by simp⟩ ?_ ?_ ?_
    · exact keep_env (Nat.zero_le _) ⟨⟨rfl, rfl⟩, ⟨rfl, rfl⟩, trivial⟩ ⟨⟨ltB rfl, _, rfl, rfl, below1 rfl⟩, trivial⟩ trivial
    · kernel_rfl
    rintro ⟨i, hi, hz⟩ A hA
    dsimp only at hi hz hA ⊢
    have e1 : iadd .i64 (i : Int) 1 = ((i + 1 : Nat) : Int) := by rw [iadd_eq (by omega) (by omega)]; rfl
    rcases Nat.lt_or_ge i l.length with hlt | hge
    · conv => whnf
      repeat' first
        | (refine LookP.mk _ (by first | rfl | exact get_l hlt) ?_; conv => whnf)
        | (refine ShlP.mk _ (by first | (simp only [List.set, over, List.take, List.drop, List.append_eq, List.nil_append, List.cons_append, List.length]; rfl) | rfl) ?_; conv => whnf)
        | (refine And.intro (by first | assumption | exact ⟨by kernel_rfl, rfl⟩ | decide | omega | exact ⟨rfl, by decide, by simp only [List.length_map, Nat.zero_add]; omega⟩) ?_; conv => whnf)
        | (refine pc_use (check43 _) ?_; conv => whnf)
        | (refine pc_head (check43 _) ?_; conv => whnf)
        | (refine HpP.force ?_; conv => whnf)
        | (intro t ht; cases t <;> conv => whnf)
      · exfalso; simp at ht; omega
      · simp at ht
        refine hA _ ⟨i + 1, hlt, ?_⟩ (keep_env (Nat.zero_le _) ⟨⟨rfl, rfl⟩, ⟨congrArg (fun n => AV.d (iD n)) e1, rfl⟩, trivial⟩ ⟨⟨ltB rfl, _, rfl, rfl, below1 rfl⟩, trivial⟩ trivial) (by show l.length - (i + 1) < l.length - i; omega)
        intro q hq
        rw [take_snoc hlt] at hq
        rcases List.mem_append.1 hq with h | h
        · exact hz q h
        · rw [List.mem_singleton.1 h]; exact ht
      · simp at ht
        refine fin ?_
        unfold chkS
        rw [ho, if_neg (by simp), if_neg (by simpa using hw), find_at hlt (fun q hq => by simp [hz q hq]) (by simpa using ht)]
    have hfi : l.find? (fun q => decide (pchkI q ≠ 0)) = none := List.find?_eq_none.2 (by
      intro q hq; rw [List.take_of_length_le hge] at hz; simp [hz q hq])
    rw [List.take_of_length_le hge] at hz
    clear hA e1
    conv => whnf
    repeat' first
      | (refine LookP.mk _ rfl ?_; conv => whnf)
      | (refine ShlP.mk _ (by first | (simp only [List.set, over, List.take, List.drop, List.append_eq, List.nil_append, List.cons_append, List.length]; rfl) | rfl) ?_; conv => whnf)
      | (refine And.intro (by first | assumption | exact ⟨by kernel_rfl, rfl⟩ | decide | omega | exact ⟨rfl, by decide, by simp only [List.length_map, Nat.zero_add]; omega⟩) ?_; conv => whnf)
      | (refine HpP.force ?_; conv => whnf)
      | (intro t ht; cases t <;> conv => whnf)
    rotate_left
    · exfalso; simp at ht; omega
    refine loop_use2 (σ := { i : Nat // i ≤ l.length ∧ ∀ q, q ∈ l.take i → q.w = w }) (fun s => ⟨[(1, .ptr 0 2 0 0), (5, .d (iD s.1))], sH w l t, 1⟩) (fun s => l.length - s.1) ⟨0, Nat.zero_le _, by simp⟩ ?_ ?_ ?_
    · exact keep_env (Nat.zero_le _) ⟨⟨rfl, rfl⟩, ⟨rfl, rfl⟩, trivial⟩ ⟨⟨ltB rfl, _, rfl, rfl, below1 rfl⟩, trivial⟩ trivial
    · kernel_rfl
    rintro ⟨i2, hi2, hz2⟩ A2 hA
    dsimp only at hi2 hz2 hA ⊢
    have e1 : iadd .i64 (i2 : Int) 1 = ((i2 + 1 : Nat) : Int) := by rw [iadd_eq (by omega) (by omega)]; rfl
    rcases Nat.lt_or_ge i2 l.length with hlt | hge2
    · conv => whnf
      repeat' first
        | (refine LookP.mk _ (by first | rfl | exact get_l hlt) ?_; conv => whnf)
        | (refine ShlP.mk _ (by first | (simp only [List.set, over, List.take, List.drop, List.append_eq, List.nil_append, List.cons_append, List.length]; rfl) | rfl) ?_; conv => whnf)
        | (refine And.intro (by first | assumption | exact ⟨by kernel_rfl, rfl⟩ | decide | omega | exact ⟨rfl, by decide, by simp only [List.length_map, Nat.zero_add]; omega⟩) ?_; conv => whnf)
        | (refine HpP.force ?_; conv => whnf)
        | (intro t ht; cases t <;> conv => whnf)
      · exfalso; simp at ht; omega
      · simp at ht
        refine hA _ ⟨i2 + 1, hlt, ?_⟩ (keep_env (Nat.zero_le _) ⟨⟨rfl, rfl⟩, ⟨congrArg (fun n => AV.d (iD n)) e1, rfl⟩, trivial⟩ ⟨⟨ltB rfl, _, rfl, rfl, below1 rfl⟩, trivial⟩ trivial) (by show l.length - (i2 + 1) < l.length - i2; omega)
        intro q hq
        rw [take_snoc hlt] at hq
        rcases List.mem_append.1 hq with h | h
        · exact hz2 q h
        · rw [List.mem_singleton.1 h]; exact ht
      · simp at ht
        refine fin ?_
        unfold chkS
        rw [ho, if_neg (by simp), if_neg (by simpa using hw), hfi]
        dsimp only
        rw [if_pos (List.any_eq_true.2 ⟨_, List.getElem_mem hlt, by simpa using ht⟩)]
    rw [List.take_of_length_le hge2] at hz2
    have hni : l.any (fun q => decide (q.w ≠ w)) = false := List.any_eq_false.2 (by intro q hq; simp [hz2 q hq])
    have hchk : chkS w l = if badS l then 14 else if rankN (redRows l (2 * w.toNat)) = l.length then 0 else 14 := by
      unfold chkS
      rw [ho, if_neg (by simp), if_neg (by simpa using hw), hfi]
      dsimp only
      rw [hni, if_neg (by simp)]
    clear hA e1
    conv => whnf
    repeat' first
      | (refine LookP.mk _ rfl ?_; conv => whnf)
      | (refine ShlP.mk _ (by first | (simp only [List.set, over, List.take, List.drop, List.append_eq, List.nil_append, List.cons_append, List.length]; rfl) | rfl) ?_; conv => whnf)
      | (refine And.intro (by first | assumption | exact ⟨by kernel_rfl, rfl⟩ | decide | omega | exact ⟨rfl, by decide, by simp only [List.length_map, Nat.zero_add]; omega⟩) ?_; conv => whnf)
      | (refine HpP.force ?_; conv => whnf)
      | (intro t ht; cases t <;> conv => whnf)
    rotate_left
    · exfalso; simp at ht; omega
    refine loop_use2 (σ := { i : Nat // i ≤ l.length ∧ ∀ j, j < i → badAt l j = false }) (fun s => ⟨[(1, .ptr 0 2 0 0), (6, .d (iD s.1))], sH w l t, 1⟩) (fun s => l.length - s.1) ⟨0, Nat.zero_le _, by intro j hj; omega⟩ ?_ ?_ ?_
    · exact keep_env (Nat.zero_le _) ⟨⟨rfl, rfl⟩, ⟨rfl, rfl⟩, trivial⟩ ⟨⟨ltB rfl, _, rfl, rfl, below1 rfl⟩, trivial⟩ trivial
    · kernel_rfl
    rintro ⟨i3, hi3, hz3⟩ A3 hA
    dsimp only at hi3 hz3 hA ⊢
    have e1 : iadd .i64 (i3 : Int) 1 = ((i3 + 1 : Nat) : Int) := by rw [iadd_eq (by omega) (by omega)]; rfl
    rcases Nat.lt_or_ge i3 l.length with hlt | hge3
    rotate_left
    · have hb : badS l = false := List.any_eq_false.2 (by intro j hj; rw [hz3 j (by have := List.mem_range.1 hj; omega)]; simp)
      rw [hb, if_neg (by simp)] at hchk
      have hin := indep90 (G := G) l t w hn (by omega) hz2 how.1 how.2
      conv => whnf
      repeat' first
        | (refine LookP.mk _ rfl ?_; conv => whnf)
        | (refine ShlP.mk _ (by first | (simp only [List.set, over, List.take, List.drop, List.append_eq, List.nil_append, List.cons_append, List.length]; rfl) | rfl) ?_; conv => whnf)
        | (refine And.intro (by first | assumption | exact ⟨by kernel_rfl, rfl⟩ | decide | omega | exact ⟨rfl, by decide, by simp only [List.length_map, Nat.zero_add]; omega⟩) ?_; conv => whnf)
        | (refine pc_useB (hin) ?_)
        | (refine pc_headB (hin) ?_)
        | (refine HpP.force ?_; conv => whnf)
        | (intro t ht; cases t <;> conv => whnf)
      · refine fin ?_
        rw [hchk, if_neg (by simpa using ht)]
      · refine fin ?_
        rw [hchk, if_pos (by simpa using ht)]
      · exfalso; simp at ht; omega
    · have hwi : 1 ≤ (l[i3]).w ∧ (l[i3]).w ≤ 24 := by rw [hz2 _ (List.getElem_mem hlt)]; omega
      conv => whnf
      repeat' first
        | (refine LookP.mk _ (by first | rfl | exact get_l hlt) ?_; conv => whnf)
        | (refine ShlP.mk _ (by first | (simp only [List.set, over, List.take, List.drop, List.append_eq, List.nil_append, List.cons_append, List.length]; rfl) | rfl) ?_; conv => whnf)
        | (refine And.intro (by first | assumption | exact ⟨by kernel_rfl, rfl⟩ | decide | omega | exact ⟨rfl, by decide, by simp only [List.length_map, Nat.zero_add]; omega⟩) ?_; conv => whnf)
        | (refine HpP.force ?_; conv => whnf)
        | (intro t ht; cases t <;> conv => whnf)
      · exfalso; simp at ht; omega
      · simp at ht
        have hev := ht
        refine loop_use2 (σ := { j : Nat // j ≤ i3 ∧ ∀ r, r ∈ l.take j → mulS l[i3] r = mulS r l[i3] }) (fun s => ⟨[(1, .ptr 0 2 0 0), (6, .d (iD i3)), (7, .d (iD s.1))], sH w l t, 1⟩) (fun s => i3 - s.1) ⟨0, Nat.zero_le _, by simp⟩ ?_ ?_ ?_
        · exact keep_env (Nat.zero_le _) ⟨⟨rfl, rfl⟩, ⟨rfl, rfl⟩, ⟨rfl, rfl⟩, trivial⟩ ⟨⟨ltB rfl, _, rfl, rfl, below1 rfl⟩, trivial⟩ trivial
        · kernel_rfl
        rintro ⟨j, hj, hz4⟩ A4 hA4
        dsimp only at hj hz4 hA4 ⊢
        have e2 : iadd .i64 (j : Int) 1 = ((j + 1 : Nat) : Int) := by rw [iadd_eq (by omega) (by omega)]; rfl
        rcases Nat.lt_or_ge j i3 with hlt4 | hge4
        · have hj2 : j < l.length := by omega
          have hwj : (l[j]).w = (l[i3]).w := by rw [hz2 _ (List.getElem_mem hlt), hz2 _ (List.getElem_mem hj2)]
          conv => whnf
          repeat' first
            | (refine LookP.mk _ (by first | rfl | exact get_l hlt | exact get_l hj2) ?_; conv => whnf)
            | (refine ShlP.mk _ (by first | (simp only [List.set, over, List.take, List.drop, List.append_eq, List.nil_append, List.cons_append, List.length]; rfl) | rfl) ?_; conv => whnf)
            | (refine And.intro (by first | assumption | exact ⟨by kernel_rfl, rfl⟩ | decide | omega | exact ⟨rfl, by decide, by simp only [List.length_map, Nat.zero_add]; omega⟩) ?_; conv => whnf)
            | (refine pc_useB (commute89 _ _ hwi hwj) ?_)
            | (refine pc_headB (commute89 _ _ hwi hwj) ?_)
            | (refine HpP.force ?_; conv => whnf)
            | (intro t ht; cases t <;> conv => whnf)
          · exfalso; simp at ht; omega
          · simp at ht
            refine fin ?_
            rw [hchk, if_pos (badS_of hlt (by rw [badAt_lt hlt, Bool.or_eq_true]; exact .inr (List.any_eq_true.2 ⟨l[j], List.mem_take_iff_getElem.2 ⟨j, by omega, rfl⟩, by simpa using ht⟩)))]
          · simp at ht
            refine hA4 _ ⟨j + 1, hlt4, ?_⟩ (keep_env (Nat.zero_le _) ⟨⟨rfl, rfl⟩, ⟨rfl, rfl⟩, ⟨congrArg (fun n => AV.d (iD n)) e2, rfl⟩, trivial⟩ ⟨⟨ltB rfl, _, rfl, rfl, below1 rfl⟩, trivial⟩ trivial) (by show i3 - (j + 1) < i3 - j; omega)
            intro q hq
            rw [take_snoc hj2] at hq
            rcases List.mem_append.1 hq with h | h
            · exact hz4 q h
            · rw [List.mem_singleton.1 h]; exact ht
        · have hji : j = i3 := by omega
          subst hji
          conv => whnf
          repeat' first
            | (refine LookP.mk _ rfl ?_; conv => whnf)
            | (refine ShlP.mk _ (by first | (simp only [List.set, over, List.take, List.drop, List.append_eq, List.nil_append, List.cons_append, List.length]; rfl) | rfl) ?_; conv => whnf)
            | (refine And.intro (by first | assumption | exact ⟨by kernel_rfl, rfl⟩ | decide | omega | exact ⟨rfl, by decide, by simp only [List.length_map, Nat.zero_add]; omega⟩) ?_; conv => whnf)
            | (refine HpP.force ?_; conv => whnf)
            | (intro t ht; cases t <;> conv => whnf)
          · refine hA _ ⟨j + 1, hlt, ?_⟩ (keep_env (Nat.zero_le _) ⟨⟨rfl, rfl⟩, ⟨congrArg (fun n => AV.d (iD n)) e1, rfl⟩, trivial⟩ ⟨⟨ltB rfl, _, rfl, rfl, below1 rfl⟩, trivial⟩ trivial) (by show l.length - (j + 1) < l.length - j; omega)
            intro q hq
            rcases Nat.lt_or_ge q j with h | h
            · exact hz3 q h
            · have : q = j := by omega
              subst this
              rw [badAt_lt hlt, decide_eq_false (by simpa using hev), Bool.false_or, List.any_eq_false]
              intro r hr
              simpa using hz4 r hr
          · exfalso; simp at ht
      · simp at ht
        refine fin ?_
        rw [hchk, if_pos (badS_of hlt (by rw [badAt_lt hlt]; simp [ht]))]
  · refine fin ?_
    have ho : offB w 1 12 = false := by assumption
    unfold chkS
    rw [ho, if_neg (by simp), if_pos (by simpa using ht)]
  · refine fin ?_
    have ho : offB w 1 12 = true := by assumption
    unfold chkS
    rw [ho, if_pos rfl]
end Go.Tz


namespace Go.Tz
open Go Go.AL Go.Proofs
variable {G : Nat → Option (List D)}
def prodS (w : Int) (l : List Ps) : Ps := l.foldl mulS ⟨w, 0, 0, 0⟩
theorem foldl_w {w : Int} : ∀ (l : List Ps) (q : Ps), q.w = w → (l.foldl mulS q).w = w
  | [], _, h => h
  | r :: l, q, h => foldl_w l (mulS q r) h
theorem prodS_snoc (w : Int) (l : List Ps) (q : Ps) : prodS w (l ++ [q]) = mulS (prodS w l) q := by simp [prodS]
theorem chk205 : chkFn Tryz.f205 = true := by kernel_rfl
theorem prod205 (w : Int) (l : List Ps) (t : Bool) (hn : l.length ≤ 1000) (hw1 : 1 ≤ w) (hw2 : w ≤ 12) (hww : ∀ q, q ∈ l → q.w = w) : PC Pr G 205 [iD w, rowsD l t] (prodS w l).d := by
  refine pc_walk pok Tryz.func205 chk205 ?_
  conv => whnf
  repeat' first
    | (refine LookP.mk _ rfl ?_; conv => whnf)
    | (refine ShlP.mk _ (by first | (simp only [List.set, over, List.take, List.drop, List.append_eq, List.nil_append, List.cons_append, List.length]; rfl) | rfl) ?_; conv => whnf)
    | (refine And.intro (by first | assumption | exact ⟨by kernel_rfl, rfl⟩ | decide | omega | exact ⟨rfl, by decide, by simp only [List.length_map, Nat.zero_add]; omega⟩) ?_; conv => whnf)
    | (refine HpP.force ?_; conv => whnf)
    | (intro t ht; cases t <;> conv => whnf)
  refine loop_use2 (σ := { i : Nat // i ≤ l.length }) (fun s => ⟨[(1, .d (rowsD l t)), (4, .ptr 0 4 0 0), (5, .ptr 1 4 0 0), (6, .d (iD s.1))], [(0, some (.arr 4 [(Ps.l ⟨0, 0, 0, 0⟩).map AV.d])), (1, some (.arr 4 [(prodS w (l.take s.1)).l.map AV.d]))], 2⟩) (fun s => l.length - s.1) ⟨0, Nat.zero_le _⟩ ?_ ?_ ?_
  · exact keep_env (Nat.zero_le _) ⟨⟨rfl, rfl⟩, ⟨rfl, rfl⟩, ⟨rfl, rfl⟩, ⟨rfl, rfl⟩, trivial⟩ ⟨⟨ltB rfl, _, rfl, rfl, below1 rfl⟩, ⟨ltB rfl, _, rfl, rfl, below1 rfl⟩, trivial⟩ trivial
  · kernel_rfl
  rintro ⟨i, hi⟩ A hA
  dsimp only at hi hA ⊢
  have e1 : iadd .i64 (i : Int) 1 = ((i + 1 : Nat) : Int) := by rw [iadd_eq (by omega) (by omega)]; rfl
  have hpw : (prodS w (l.take i)).w = w := foldl_w _ _ rfl
  rcases Nat.lt_or_ge i l.length with hlt | hge
  · have hwi : (l[i]).w = (prodS w (l.take i)).w := by rw [hpw]; exact hww _ (List.getElem_mem hlt)
    have hsn : prodS w (l.take (i + 1)) = mulS (prodS w (l.take i)) l[i] := by rw [take_snoc hlt, prodS_snoc]
    have hgw : 1 ≤ (prodS w (l.take i)).w ∧ (prodS w (l.take i)).w ≤ 24 := by omega
    generalize prodS w (l.take i) = g at hwi hsn hgw hpw ⊢
    conv => whnf
    repeat' first
      | (refine LookP.mk _ (by first | rfl | exact get_l hlt) ?_; conv => whnf)
      | (refine ShlP.mk _ (by first | (simp only [List.set, over, List.take, List.drop, List.append_eq, List.nil_append, List.cons_append, List.length]; rfl) | rfl) ?_; conv => whnf)
      | (refine And.intro (by first | assumption | exact ⟨by kernel_rfl, rfl⟩ | decide | omega | exact ⟨rfl, by decide, by simp only [List.length_map, Nat.zero_add]; omega⟩) ?_; conv => whnf)
      | (refine pc_use (mulS_c _ _ hgw hwi) ?_; conv => whnf)
      | (refine pc_head (mulS_c _ _ hgw hwi) ?_; conv => whnf)
      | (refine HpP.force ?_; conv => whnf)
      | (intro t ht; cases t <;> conv => whnf)
    · exfalso; simp at ht; omega
    · refine hA _ ⟨i + 1, hlt⟩ (keep_env (Nat.zero_le _) ⟨⟨rfl, rfl⟩, ⟨rfl, rfl⟩, ⟨rfl, rfl⟩, ⟨congrArg (fun n => AV.d (iD n)) e1, rfl⟩, trivial⟩ ⟨⟨ltB rfl, _, rfl, rfl, below1 rfl⟩, ⟨ltB rfl, _, rfl, by rw [hsn]; rfl, below1 rfl⟩, trivial⟩ trivial) (by show l.length - (i + 1) < l.length - i; omega)
  · conv => whnf
    repeat' first
      | (refine LookP.mk _ rfl ?_; conv => whnf)
      | (refine ShlP.mk _ (by first | (simp only [List.set, over, List.take, List.drop, List.append_eq, List.nil_append, List.cons_append, List.length]; rfl) | rfl) ?_; conv => whnf)
      | (refine And.intro (by first | assumption | exact ⟨by kernel_rfl, rfl⟩ | decide | omega | exact ⟨rfl, by decide, by simp only [List.length_map, Nat.zero_add]; omega⟩) ?_; conv => whnf)
      | (refine HpP.force ?_; conv => whnf)
      | (intro t ht; cases t <;> conv => whnf)
    · refine fin ?_
      rw [List.take_of_length_le hge]; rfl
    · exfalso; simp at ht; omega
end Go.Tz


/-! stab.Check. -/
namespace Go.Tz
open Go Go.AL Go.Proofs Go.Ma
variable {G : Nat → Option (List D)}
theorem pck_pchk (q : Ps) : pckI q = pchkI q := by
  unfold pckI pchkI offB
  have d0 : (decide (q.w < 1) || decide (q.w > 12)) = decide (q.w < 1 ∨ q.w > 12) := by
    rw [Bool.eq_iff_iff]; simp
  rw [d0]
  simp only [decide_eq_true_eq]
  by_cases h1 : q.w < 1 ∨ q.w > 12
  · rw [if_pos h1, if_pos h1]
  · rw [if_neg h1, if_neg h1]
    obtain ⟨w, hw⟩ : ∃ w : Nat, q.w = w := ⟨q.w.toNat, by omega⟩
    have hw12 : 1 ≤ w ∧ w ≤ 12 := by omega
    rw [hw, pow_nat (by omega)]
    have hp : (2 : Nat) ^ w ≤ 2 ^ 12 := Nat.pow_le_pow_right (by decide) hw12.2
    have hp0 : 0 < (2 : Nat) ^ w := Nat.two_pow_pos w
    have e : isub .i64 ((2 ^ w : Nat) : Int) 1 = ((2 ^ w - 1 : Nat) : Int) := isub_nat (b := 1) (by omega) (by omega)
    rw [e]
    generalize 2 ^ w = p at hp hp0
    have e1 : (decide (q.x < 0) || decide (q.x > ((p - 1 : Nat) : Int)) || (decide (q.z < 0) || decide (q.z > ((p - 1 : Nat) : Int)))) = decide (q.x < 0 ∨ q.z < 0 ∨ q.x ≥ (p : Int) ∨ q.z ≥ (p : Int)) := by
      rw [Bool.eq_iff_iff]; simp; omega
    have e2 : (decide (q.p < 0) || decide (q.p > 3)) = decide (q.p < 0 ∨ q.p > 3) := by
      rw [Bool.eq_iff_iff]; simp
    rw [e1, e2]
    simp only [decide_eq_true_eq]
theorem vl_of {w : Nat} {q : Ps} (h : pchkI q = 0) (hw : q.w = w) : Vl w q := by
  rw [← pck_pchk] at h
  unfold pckI at h
  split at h
  · cases h
  rename_i h1
  split at h
  · cases h
  rename_i h2
  split at h
  · cases h
  rename_i h3
  rw [hw] at h1 h2
  rw [pow_nat (by omega)] at h2
  refine ⟨q.x.toNat, q.z.toNat, q.p.toNat, ?_, by omega, by omega, by omega⟩
  obtain ⟨a, b, c, d⟩ := q
  simp only at hw h2 h3
  subst hw
  unfold mk
  simp only [Ps.mk.injEq, true_and]
  omega
theorem any_congr {α : Type} {p q : α → Bool} : ∀ {l : List α}, (∀ a, a ∈ l → p a = q a) → l.any p = l.any q
  | [], _ => rfl
  | a :: l, h => by
    rw [List.any_cons, List.any_cons, h a (by simp), any_congr fun b hb => h b (List.mem_cons_of_mem _ hb)]
theorem chk114 : chkFn Tryz.f114 = true := by kernel_rfl
theorem with114 {w : Nat} (hw : 1 ≤ w ∧ w ≤ 12) {q r : Ps} (hq : Vl w q) (hr : Vl w r) : PC Pr G 114 [.agg q.l, r.d] (.bool (comV q r)) := by
  have hc := commute68v (G := G) hw hq hr
  refine pc_walk pok Tryz.func114 chk114 ?_
  conv => whnf
  repeat' first
    | (refine LookP.mk _ rfl ?_; conv => whnf)
    | (refine ShlP.mk _ (by first | (simp only [List.set, over, List.take, List.drop, List.append_eq, List.nil_append, List.cons_append, List.length]; rfl) | rfl) ?_; conv => whnf)
    | (refine And.intro (by first | assumption | exact ⟨by kernel_rfl, rfl⟩ | decide | omega | exact ⟨rfl, by decide, by simp only [List.length_map, Nat.zero_add]; omega⟩) ?_; conv => whnf)
    | (refine pc_use (hc) ?_; conv => whnf)
    | (refine pc_head (hc) ?_; conv => whnf)
    | (refine HpP.force ?_; conv => whnf)
    | (intro t ht; cases t <;> conv => whnf)
  exact fin rfl
theorem chk113 : chkFn Tryz.f113 = true := by kernel_rfl
theorem wire113 (q : Ps) (w : Int) (l : List Ps) (t : Bool) : PC Pr G 113 [q.d, .rop [iD w, rowsD l t] 0] (.bool (decide (q.w = w))) := by
  refine pc_walk pok Tryz.func113 chk113 ?_
  conv => whnf
  repeat' first
    | (refine LookP.mk _ rfl ?_; conv => whnf)
    | (refine ShlP.mk _ (by first | (simp only [List.set, over, List.take, List.drop, List.append_eq, List.nil_append, List.cons_append, List.length]; rfl) | rfl) ?_; conv => whnf)
    | (refine And.intro (by first | assumption | exact ⟨by kernel_rfl, rfl⟩ | decide | omega | exact ⟨rfl, by decide, by simp only [List.length_map, Nat.zero_add]; omega⟩) ?_; conv => whnf)
    | (refine HpP.force ?_; conv => whnf)
    | (intro t ht; cases t <;> conv => whnf)
  all_goals
    refine fin ?_
    have e : (q.w == w) = decide (q.w = w) := by rw [Bool.eq_iff_iff]; simp
    rw [← e, ht]
theorem use_rows {f : FuncId} {m : List Ps} {x : List (List D)} {t0 : Bool} {d2 : D} {b : Bool} {H : AHeap} {nx : Nat} {k : AV → AHeap → Nat → Prop} (h : ∀ t', PC Pr G f [rowsD m t', d2] (.bool b)) (e : x = m.map Ps.l) (hk : ∀ t, b = t → k (.d (.bool t)) H nx) : CallVC Pr G f [.d (.sl x t0), .d d2] H nx k := by
  subst e; exact pc_useB (h t0) hk
theorem take_rows (l : List Ps) (i : Nat) : List.take ((i : Int).toNat - 0) (List.drop 0 (List.map Ps.l l)) = (l.take i).map Ps.l := by
  rw [Int.toNat_natCast, Nat.sub_zero, List.drop_zero, List.map_take]
theorem chk36 : chkFn Tryz.f36 = true := by kernel_rfl
theorem check36 (w : Int) (l : List Ps) (t : Bool) (hn : l.length ≤ 1000) : PC Pr GG 36 [stD w l t] (iD (chkS w l)) := by
  have hev := every112 (G := GG) l t 113 [] [.rop [iD w, rowsD l t] 0] (fun q => decide (q.w = w)) hn fun q _ => wire113 q w l t
  refine pc_walk pok Tryz.func36 chk36 ?_
  conv => whnf
  repeat' first
    | (refine LookP.mk _ rfl ?_; conv => whnf)
    | (refine ShlP.mk _ (by first | (simp only [List.set, over, List.take, List.drop, List.append_eq, List.nil_append, List.cons_append, List.length]; rfl) | rfl) ?_; conv => whnf)
    | (refine And.intro (by first | assumption | exact ⟨by kernel_rfl, rfl⟩ | decide | omega | exact ⟨rfl, by decide, by simp only [List.length_map, Nat.zero_add]; omega⟩) ?_; conv => whnf)
    | (refine HpP.force ?_; conv => whnf)
    | (intro t ht; cases t <;> conv => whnf)
  · have ho : offB w 1 12 = false := by simp at *; unfold offB; simp; omega
    have hw : (l.length : Int) = w := by simp at *; omega
    have how : 1 ≤ w ∧ w ≤ 12 := by simp [offB] at ho; omega
    refine for_use pok (fun i => ⟨[(1, .ptr 0 2 0 0), (28, .d (rowsD l t)), (29, .d (iD (l.map Ps.l).length)), (30, .d (iD i))], [(0, some (.arr 2 [[.d (iD w), .d (rowsD l t)]]))], 1⟩) (l.length) (fun i => ∀ q, q ∈ l.take i → pchkI q = 0) (by simp) ?_ (by kernel_rfl) ?_ ?_
    · refine keep_env (by first | exact Nat.zero_le _ | exact Nat.le_of_ble_eq_true rfl) ?_ ?_ trivial
      · repeat' first
          | exact trivial
          | refine ⟨⟨by first | rfl | assumption, rfl⟩, ?_⟩
      · repeat' first
          | exact trivial
          | refine ⟨⟨ltB rfl, _, rfl, by first | rfl | assumption, by first | exact below1 rfl | exact below_dblk _ _ _ | exact below_arr rfl⟩, ?_⟩
    · intro i A_i h_i I_i N_i
      have e_i : iadd .i64 (i : Int) 1 = ((i + 1 : Nat) : Int) := iadd_nat (by first | omega | (simp at *; omega))
      have hc := check111 (G := GG) l[i]
      rw [pck_pchk] at hc
      have hfa := find_at (p := fun q => decide (pchkI q ≠ 0)) h_i (fun q hq => by simp [I_i q hq])
      have hst : ∀ {e}, pchkI l[i] = e → e = 0 → ∀ q, q ∈ l.take (i + 1) → pchkI q = 0 := by
        intro e h1 h2 q hq
        rw [take_snoc h_i] at hq
        rcases List.mem_append.1 hq with h | h
        · exact I_i q h
        · rw [List.mem_singleton.1 h, h1, h2]
      have hch : pchkI l[i] ≠ 0 → chkS w l = pchkI l[i] := by
        intro h
        unfold chkS
        rw [ho, if_neg (by simp), if_neg (by simpa using hw), hfa (by simpa using h)]
      generalize hpe : pchkI l[i] = e at hc hch
      conv => whnf
      repeat (refine LookP.mk _ rfl ?_; conv => whnf)
      intro t ht
      cases t
      · exfalso; first | (simp at ht; done) | (simp at ht; omega)
      conv => whnf
      repeat' first
        | (refine LookP.mk _ (by first | rfl | exact get_l h_i) ?_; conv => whnf)
        | (refine ShlP.mk _ (by first | (simp only [List.set, over, List.take, List.drop, List.append_eq, List.nil_append, List.cons_append, List.length]; rfl) | rfl) ?_; conv => whnf)
        | (refine And.intro (by first | assumption | exact ⟨by kernel_rfl, rfl⟩ | decide | omega | exact ⟨rfl, by decide, by simp only [List.length_map, Nat.zero_add]; omega⟩) ?_; conv => whnf)
        | (refine pc_use (hc) ?_; conv => whnf)
        | (refine pc_head (hc) ?_; conv => whnf)
        | (refine HpP.force ?_; conv => whnf)
        | (intro t ht; cases t <;> conv => whnf)
      · refine N_i _ ?_ ?_
        · exact hst hpe (by simpa using ht)
        · refine keep_env (by first | exact Nat.zero_le _ | exact Nat.le_of_ble_eq_true rfl) ?_ ?_ trivial
          · repeat' first
              | exact trivial
              | refine ⟨⟨by first | rfl | assumption | exact congrArg (fun n => AV.d (iD n)) e_i, rfl⟩, ?_⟩
          · repeat' first
              | exact trivial
              | refine ⟨⟨ltB rfl, _, rfl, by first | rfl | assumption, by first | exact below1 rfl | exact below_dblk _ _ _ | exact below_arr rfl⟩, ?_⟩
      · refine fin ?_
        rw [hch (by simpa using ht)]
    · intro A_last I_last
      rw [List.take_length] at I_last
      conv => whnf
      repeat (refine LookP.mk _ rfl ?_; conv => whnf)
      intro t ht
      cases t
      rotate_left
      · exfalso; first | (simp at ht; done) | (simp at ht; omega)
      conv => whnf
      have hfi : l.find? (fun q => decide (pchkI q ≠ 0)) = none := List.find?_eq_none.2 (by
        intro q hq; simp [I_last q hq])
      repeat' first
        | (refine LookP.mk _ rfl ?_; conv => whnf)
        | (refine ShlP.mk _ (by first | (simp only [List.set, over, List.take, List.drop, List.append_eq, List.nil_append, List.cons_append, List.length]; rfl) | rfl) ?_; conv => whnf)
        | (refine And.intro (by first | assumption | exact ⟨by kernel_rfl, rfl⟩ | decide | omega | exact ⟨rfl, by decide, by simp only [List.length_map, Nat.zero_add]; omega⟩) ?_; conv => whnf)
        | (refine pc_lendcB (hev) rfl ?_)
        | (refine HpP.force ?_; conv => whnf)
        | (intro t ht; cases t <;> conv => whnf)
      · refine fin ?_
        have hni : l.any (fun q => decide (q.w ≠ w)) = true := by
          obtain ⟨q, hq, h⟩ := List.all_eq_false.1 ht
          exact List.any_eq_true.2 ⟨q, hq, by simpa using h⟩
        unfold chkS
        rw [ho, if_neg (by simp), if_neg (by simpa using hw), hfi]
        dsimp only
        rw [hni, if_pos rfl]
      · have hal := ht
        have hws : ∀ q, q ∈ l → q.w = w := fun q hq => by have := List.all_eq_true.1 hal q hq; simpa using this
        obtain ⟨W, rfl⟩ : ∃ W : Nat, w = W := ⟨w.toNat, by omega⟩
        have hW : 1 ≤ W ∧ W ≤ 12 := by omega
        have hv : ∀ q, q ∈ l → Vl W q := fun q hq => vl_of (I_last q hq) (hws q hq)
        have hni : l.any (fun q => decide (q.w ≠ W)) = false := List.any_eq_false.2 (by intro q hq; simp [hws q hq])
        have hchk : chkS W l = if badS l then 14 else if rankN (redRows l (2 * W)) = l.length then 0 else 14 := by
          unfold chkS
          rw [ho, if_neg (by simp), if_neg (by simpa using hw), hfi]
          dsimp only
          rw [hni, if_neg (by simp), Int.toNat_natCast]
        refine for_use pok (fun i => ⟨[(1, .ptr 0 2 0 0), (46, .d (rowsD l t)), (47, .d (iD (l.map Ps.l).length)), (48, .d (iD i))], [(0, some (.arr 2 [[.d (iD W), .d (rowsD l t)]]))], 1⟩) (l.length) (fun i => ∀ j, j < i → badAt l j = false) (by omega) ?_ (by kernel_rfl) ?_ ?_
        · refine keep_env (by first | exact Nat.zero_le _ | exact Nat.le_of_ble_eq_true rfl) ?_ ?_ trivial
          · repeat' first
              | exact trivial
              | refine ⟨⟨by first | rfl | assumption, rfl⟩, ?_⟩
          · repeat' first
              | exact trivial
              | refine ⟨⟨ltB rfl, _, rfl, by first | rfl | assumption, by first | exact below1 rfl | exact below_dblk _ _ _ | exact below_arr rfl⟩, ?_⟩
        · intro i A_i h_i I_i N_i
          have e_i : iadd .i64 (i : Int) 1 = ((i + 1 : Nat) : Int) := iadd_nat (by first | omega | (simp at *; omega))
          have hvi := hv _ (List.getElem_mem h_i)
          have hev2 : ∀ t', PC Pr GG 112 [rowsD (l.take i) t', .fn 114 [.agg l[i].l] []] (.bool ((l.take i).all (comV l[i]))) := fun t' =>
            every112 (l.take i) t' 114 [.agg l[i].l] [] (comV l[i]) (by rw [List.length_take]; omega) fun q hq => with114 hW hvi (hv q (List.mem_of_mem_take hq))
          have hba : badAt l i = (decide (l[i].p.tmod 2 ≠ 0) || !(l.take i).all (comV l[i])) := by
            rw [badAt_lt h_i]
            congr 1
            rw [List.not_all_eq_any_not]
            refine any_congr fun q hq => ?_
            have := com_mul hW.2 hvi (hv q (List.mem_of_mem_take hq))
            rw [← this]; simp
          have hp2 : l[i].p.tmod 2 = 0 ∨ l[i].p.tmod 2 = 1 := by
            obtain ⟨X, Z, P, he, g1, g2, g3⟩ := hvi
            rw [he]
            show (P : Int).tmod 2 = 0 ∨ (P : Int).tmod 2 = 1
            rw [Int.tmod_eq_emod_of_nonneg (by omega)]; omega
          conv => whnf
          repeat (refine LookP.mk _ rfl ?_; conv => whnf)
          intro t ht
          cases t
          · exfalso; first | (simp at ht; done) | (simp at ht; omega)
          conv => whnf
          repeat' first
            | (refine LookP.mk _ (by first | rfl | exact get_l h_i) ?_; conv => whnf)
            | (refine ShlP.mk _ (by first | (simp only [List.set, over, List.take, List.drop, List.append_eq, List.nil_append, List.cons_append, List.length]; rfl) | rfl) ?_; conv => whnf)
            | (refine And.intro (by first | exact ⟨Nat.zero_le _, by rw [Int.toNat_natCast, List.length_map]; omega, rows_len _⟩ | assumption | exact ⟨by kernel_rfl, rfl⟩ | decide | omega | exact ⟨rfl, by decide, by simp only [List.length_map, Nat.zero_add]; omega⟩) ?_; conv => whnf)
            | (refine use_rows hev2 (take_rows l i) ?_; conv => whnf)
            | (refine HpP.force ?_; conv => whnf)
            | (intro t ht; cases t <;> conv => whnf)
          · refine fin ?_
            rw [hchk, if_pos (badS_of h_i (by rw [hba, ht]; simp))]
          · have hz : l[i].p.tmod 2 = 0 := by
              rcases hp2 with h | h
              · exact h
              · exfalso; simp_all
            have hbz : badAt l i = false := by rw [hba, ht, hz]; rfl
            refine N_i _ ?_ ?_
            · (intro j hj; rcases Nat.lt_or_ge j i with h | h; exact I_i j h; rw [show j = i by omega]; exact hbz)
            · refine keep_env (by first | exact Nat.zero_le _ | exact Nat.le_of_ble_eq_true rfl) ?_ ?_ trivial
              · repeat' first
                  | exact trivial
                  | refine ⟨⟨by first | rfl | assumption | exact congrArg (fun n => AV.d (iD n)) e_i, rfl⟩, ?_⟩
              · repeat' first
                  | exact trivial
                  | refine ⟨⟨ltB rfl, _, rfl, by first | rfl | assumption, by first | exact below1 rfl | exact below_dblk _ _ _ | exact below_arr rfl⟩, ?_⟩
          · refine fin ?_
            rw [hchk, if_pos (badS_of h_i (by rw [hba]; have : l[i].p.tmod 2 = 1 := by simpa using ht
                                              simp [this]))]
        · intro A_last I_last
          have hb : badS l = false := List.any_eq_false.2 (by intro j hj; rw [I_last j (List.mem_range.1 hj)]; simp)
          rw [hb, if_neg (by simp)] at hchk
          have hin := ind115 hW l t (by omega) (by omega) hv
          have hie := ind_iff hW.2 hv (by omega)
          generalize (gnW (redF l) l.length).length = gl at hin hie
          conv => whnf
          repeat (refine LookP.mk _ rfl ?_; conv => whnf)
          intro t ht
          cases t
          rotate_left
          · exfalso; first | (simp at ht; done) | (simp at ht; omega)
          conv => whnf
          repeat' first
            | (refine LookP.mk _ rfl ?_; conv => whnf)
            | (refine ShlP.mk _ (by first | (simp only [List.set, over, List.take, List.drop, List.append_eq, List.nil_append, List.cons_append, List.length]; rfl) | rfl) ?_; conv => whnf)
            | (refine And.intro (by first | assumption | exact ⟨by kernel_rfl, rfl⟩ | decide | omega | exact ⟨rfl, by decide, by simp only [List.length_map, Nat.zero_add]; omega⟩) ?_; conv => whnf)
            | (refine pc_useB2 (hin) ?_)
            | (refine pc_headB2 (hin) ?_)
            | (refine HpP.force ?_; conv => whnf)
            | (intro t ht; cases t <;> conv => whnf)
          · refine fin ?_
            rw [hchk, if_neg fun h => by simp at ht; exact ht (hie.2 h)]
          · refine fin ?_
            rw [hchk, if_pos (hie.1 (by simpa using ht))]
  · refine fin ?_
    have ho : offB w 1 12 = false := by simp at *; unfold offB; simp; omega
    unfold chkS
    rw [ho, if_neg (by simp), if_pos (by simpa using ht)]
  · refine fin ?_
    have ho : offB w 1 12 = true := by unfold offB; rw [ht]; simp
    unfold chkS
    rw [ho, if_pos rfl]
  · refine fin ?_
    have ho : offB w 1 12 = true := by unfold offB; rw [ht]; simp
    unfold chkS
    rw [ho, if_pos rfl]
end Go.Tz


/-! The layer stab: Canon, Same, Zero, expected. -/
namespace Go.Tz
open Go Go.AL Go.Proofs Go.Ma
variable {G : Nat → Option (List D)}
/-- A right state. -/
structure SOk (w : Nat) (l : List Ps) : Prop where
  lo : 1 ≤ w
  hi : w ≤ 12
  len : l.length = w
  vl : ∀ q, q ∈ l → Vl w q
  good : badS l = false
  rank : rankN (redRows l (2 * w)) = l.length
theorem chk_ok {w : Int} {l : List Ps} (h : chkS w l = 0) : ∃ W : Nat, w = W ∧ SOk W l := by
  unfold chkS at h
  split at h
  · cases h
  rename_i ho
  split at h
  · cases h
  rename_i hl
  split at h
  · rename_i q hf
    have := List.find?_some hf
    simp at this
    exact absurd h this
  rename_i hf
  split at h
  · cases h
  rename_i hw
  split at h
  · cases h
  rename_i hb
  split at h
  · rename_i hr
    have ho' : 1 ≤ w ∧ w ≤ 12 := by simp [offB] at ho; omega
    obtain ⟨W, rfl⟩ : ∃ W : Nat, w = W := ⟨w.toNat, by omega⟩
    rw [Int.toNat_natCast] at hr
    refine ⟨W, rfl, by omega, by omega, by simp at hl; omega, fun q hq => ?_, by simpa using hb, hr⟩
    have h1 := List.find?_eq_none.1 hf q hq
    have h2 : q.w = W := by
      have := hw
      simp only [List.any_eq_true, not_exists] at this
      have := this q
      simp [hq] at this
      exact this
    exact vl_of (by simpa using h1) h2
  · cases h
theorem ok_chk {w : Nat} {l : List Ps} (h : SOk w l) : chkS w l = 0 := by
  have hlo := h.lo
  have hhi := h.hi
  have e1 : offB (w : Int) 1 12 = false := by unfold offB; simp; omega
  have e2 : l.find? (fun q => decide (pchkI q ≠ 0)) = none := List.find?_eq_none.2 fun q hq => by
    rw [← pck_pchk, pck_vl ⟨hlo, hhi⟩ (h.vl q hq)]; simp
  have e3 : l.any (fun q => decide (q.w ≠ w)) = false := List.any_eq_false.2 fun q hq => by simp [vl_w (h.vl q hq)]
  unfold chkS
  rw [e1, if_neg (by simp), if_neg (by simp [h.len]), e2]
  dsimp only
  rw [e3, if_neg (by simp), h.good, if_neg (by simp), Int.toNat_natCast, if_pos h.rank]
theorem chk31 : chkFn Tryz.f31 = true := by kernel_rfl
def canonD (w : Int) (l : List Ps) : D := if chkS w l = 0 then .tup [stD w (redRows l (2 * w.toNat)) true, iD 0] else .tup [stD 0 [] true, iD (chkS w l)]
theorem canon31 (w : Int) (l : List Ps) (t : Bool) (hn : l.length ≤ 1000) : PC Pr GG 31 [stD w l t] (canonD w l) := by
  have hc := check36 w l t hn
  have hok := chk_ok (w := w) (l := l)
  unfold canonD
  by_cases h : chkS w l = 0
  · obtain ⟨W, rfl, hs⟩ := hok h
    have h1 := canon105 (G := GG) ⟨hs.lo, hs.hi⟩ l t hn hs.vl
    rw [h] at hc
    rw [if_pos h, Int.toNat_natCast]
    refine pc_walk pok Tryz.func31 chk31 ?_
    conv => whnf
    repeat' first
      | (refine LookP.mk _ rfl ?_; conv => whnf)
      | (refine ShlP.mk _ (by first | (simp only [List.set, over, List.take, List.drop, List.append_eq, List.nil_append, List.cons_append, List.length]; rfl) | rfl) ?_; conv => whnf)
      | (refine And.intro (by first | assumption | exact ⟨by kernel_rfl, rfl⟩ | decide | omega | exact ⟨rfl, by decide, by simp only [List.length_map, Nat.zero_add]; omega⟩) ?_; conv => whnf)
      | (refine pc_use (hc) ?_; conv => whnf)
      | (refine pc_head (hc) ?_; conv => whnf)
      | (refine pc_use (h1) ?_; conv => whnf)
      | (refine pc_head (h1) ?_; conv => whnf)
      | (refine HpP.force ?_; conv => whnf)
      | (intro t ht; cases t <;> conv => whnf)
    · exact fin rfl
    · exact absurd ht (by decide)
  · rw [if_neg h]
    generalize chkS w l = e at hc h
    refine pc_walk pok Tryz.func31 chk31 ?_
    conv => whnf
    repeat' first
      | (refine LookP.mk _ rfl ?_; conv => whnf)
      | (refine ShlP.mk _ (by first | (simp only [List.set, over, List.take, List.drop, List.append_eq, List.nil_append, List.cons_append, List.length]; rfl) | rfl) ?_; conv => whnf)
      | (refine And.intro (by first | assumption | exact ⟨by kernel_rfl, rfl⟩ | decide | omega | exact ⟨rfl, by decide, by simp only [List.length_map, Nat.zero_add]; omega⟩) ?_; conv => whnf)
      | (refine pc_use (hc) ?_; conv => whnf)
      | (refine pc_head (hc) ?_; conv => whnf)
      | (refine HpP.force ?_; conv => whnf)
      | (intro t ht; cases t <;> conv => whnf)
    · exact absurd (by simpa using ht) h
    · exact fin rfl
theorem chk106 : chkFn Tryz.f106 = true := by kernel_rfl
def bothS (w : Int) (l : List Ps) (w' : Int) (l' : List Ps) : Int := if chkS w l ≠ 0 then chkS w l else if chkS w' l' ≠ 0 then chkS w' l' else if w ≠ w' then 7 else 0
theorem both106 (w : Int) (l : List Ps) (t : Bool) (w' : Int) (l' : List Ps) (t' : Bool) (hn : l.length ≤ 1000) (hn' : l'.length ≤ 1000) : PC Pr GG 106 [stD w l t, stD w' l' t'] (iD (bothS w l w' l')) := by
  have h1 := check36 w l t hn
  have h2 := check36 w' l' t' hn'
  unfold bothS
  generalize chkS w l = a at h1 ⊢
  generalize chkS w' l' = b at h2 ⊢
  refine pc_walk pok Tryz.func106 chk106 ?_
  conv => whnf
  repeat' first
    | (refine LookP.mk _ rfl ?_; conv => whnf)
    | (refine ShlP.mk _ (by first | (simp only [List.set, over, List.take, List.drop, List.append_eq, List.nil_append, List.cons_append, List.length]; rfl) | rfl) ?_; conv => whnf)
    | (refine And.intro (by first | assumption | exact ⟨by kernel_rfl, rfl⟩ | decide | omega | exact ⟨rfl, by decide, by simp only [List.length_map, Nat.zero_add]; omega⟩) ?_; conv => whnf)
    | (refine pc_use (h1) ?_; conv => whnf)
    | (refine pc_head (h1) ?_; conv => whnf)
    | (refine pc_use (h2) ?_; conv => whnf)
    | (refine pc_head (h2) ?_; conv => whnf)
    | (refine HpP.force ?_; conv => whnf)
    | (intro t ht; cases t <;> conv => whnf)
  all_goals refine fin ?_
  all_goals refine congrArg (fun n => AV.d (iD n)) ?_
  all_goals (try simp only [bne_iff_ne, ne_eq, bne_eq_false_iff_eq, Decidable.not_not] at *)
  all_goals repeat' split
  all_goals first | rfl | (exfalso; omega) | (exfalso; simp at *; omega)
theorem chk32 : chkFn Tryz.f32 = true := by kernel_rfl
def sameD (w : Int) (l : List Ps) (w' : Int) (l' : List Ps) : D := if bothS w l w' l' = 0 then .tup [.bool (decide (redRows l (2 * w.toNat) = redRows l' (2 * w.toNat))), iD 0] else .tup [.bool false, iD (bothS w l w' l')]
theorem both_ok {w : Int} {l : List Ps} {w' : Int} {l' : List Ps} (h : bothS w l w' l' = 0) : ∃ W : Nat, w = W ∧ w' = W ∧ SOk W l ∧ SOk W l' := by
  unfold bothS at h
  split at h
  · contradiction
  rename_i h1
  split at h
  · contradiction
  rename_i h2
  split at h
  · cases h
  rename_i h3
  simp only [ne_eq, Decidable.not_not] at h1 h2 h3
  obtain ⟨W, e, hs⟩ := chk_ok h1
  obtain ⟨W', e', hs'⟩ := chk_ok h2
  have : W' = W := by omega
  subst this
  exact ⟨W', e, e', hs, hs'⟩
theorem same32 (w : Int) (l : List Ps) (t : Bool) (w' : Int) (l' : List Ps) (t' : Bool) (hn : l.length ≤ 1000) (hn' : l'.length ≤ 1000) : PC Pr GG 32 [stD w l t, stD w' l' t'] (sameD w l w' l') := by
  have hb := both106 w l t w' l' t' hn hn'
  have hok := both_ok (w := w) (l := l) (w' := w') (l' := l')
  unfold sameD
  by_cases h : bothS w l w' l' = 0
  · obtain ⟨W, rfl, rfl, hs, hs'⟩ := hok h
    have h1 := canon105 (G := GG) ⟨hs.lo, hs.hi⟩ l t hn hs.vl
    have h2 := canon105 (G := GG) ⟨hs'.lo, hs'.hi⟩ l' t' hn' hs'.vl
    rw [h] at hb
    rw [if_pos h, Int.toNat_natCast]
    have h3 := equal72 (G := GG) (redRows l (2 * W)) (redRows l' (2 * W)) true true (by rw [redRows_len]; omega)
    generalize decide (redRows l (2 * W) = redRows l' (2 * W)) = d at h3 ⊢
    generalize redRows l (2 * W) = m at h1 h3
    generalize redRows l' (2 * W) = m' at h2 h3
    refine pc_walk pok Tryz.func32 chk32 ?_
    conv => whnf
    repeat' first
      | (refine LookP.mk _ rfl ?_; conv => whnf)
      | (refine ShlP.mk _ (by first | (simp only [List.set, over, List.take, List.drop, List.append_eq, List.nil_append, List.cons_append, List.length]; rfl) | rfl) ?_; conv => whnf)
      | (refine And.intro (by first | assumption | exact ⟨by kernel_rfl, rfl⟩ | decide | omega | exact ⟨rfl, by decide, by simp only [List.length_map, Nat.zero_add]; omega⟩) ?_; conv => whnf)
      | (refine pc_use (hb) ?_; conv => whnf)
      | (refine pc_head (hb) ?_; conv => whnf)
      | (refine pc_use (h1) ?_; conv => whnf)
      | (refine pc_head (h1) ?_; conv => whnf)
      | (refine pc_use (h2) ?_; conv => whnf)
      | (refine pc_head (h2) ?_; conv => whnf)
      | (refine pc_use (h3) ?_; conv => whnf)
      | (refine pc_head (h3) ?_; conv => whnf)
      | (refine HpP.force ?_; conv => whnf)
      | (intro t ht; cases t <;> conv => whnf)
    · exact fin rfl
    · exact absurd ht (by decide)
  · rw [if_neg h]
    generalize bothS w l w' l' = e at hb h
    refine pc_walk pok Tryz.func32 chk32 ?_
    conv => whnf
    repeat' first
      | (refine LookP.mk _ rfl ?_; conv => whnf)
      | (refine ShlP.mk _ (by first | (simp only [List.set, over, List.take, List.drop, List.append_eq, List.nil_append, List.cons_append, List.length]; rfl) | rfl) ?_; conv => whnf)
      | (refine And.intro (by first | assumption | exact ⟨by kernel_rfl, rfl⟩ | decide | omega | exact ⟨rfl, by decide, by simp only [List.length_map, Nat.zero_add]; omega⟩) ?_; conv => whnf)
      | (refine pc_use (hb) ?_; conv => whnf)
      | (refine pc_head (hb) ?_; conv => whnf)
      | (refine HpP.force ?_; conv => whnf)
      | (intro t ht; cases t <;> conv => whnf)
    · exact absurd (by simpa using ht) h
    · exact fin rfl
def z110D (w : Nat) : D := stD w (zeroS w) false
noncomputable def z110Run (w : Nat) : Bool := match rn 110 [iD w] with
  | some d => dB d (z110D w)
  | none => false
theorem zero110 {w : Nat} (h1 : 1 ≤ w) (h2 : w ≤ 12) : PC Pr GG 110 [iD w] (z110D w) := by
  have h : ((List.range 12).all fun i => z110Run (i + 1)) = true := by kernel_rfl
  have := List.all_eq_true.1 h (w - 1) (List.mem_range.2 (by omega))
  rw [show w - 1 + 1 = w by omega] at this
  unfold z110Run at this
  split at this
  · rename_i d hd
    rw [← dB_eq _ _ this]
    exact rn_ok hd
  · cases this
theorem chk35 : chkFn Tryz.f35 = true := by kernel_rfl
theorem zero35 {w : Nat} (h1 : 1 ≤ w) (h2 : w ≤ 12) : PC Pr GG 35 [iD w] (zD w) := by
  have hz := zero110 h1 h2
  unfold z110D at hz
  unfold zD
  generalize zeroS w = m at hz ⊢
  refine pc_walk pok Tryz.func35 chk35 ?_
  conv => whnf
  repeat' first
    | (refine LookP.mk _ rfl ?_; conv => whnf)
    | (refine ShlP.mk _ (by first | (simp only [List.set, over, List.take, List.drop, List.append_eq, List.nil_append, List.cons_append, List.length]; rfl) | rfl) ?_; conv => whnf)
    | (refine And.intro (by first | assumption | exact ⟨by kernel_rfl, rfl⟩ | decide | omega | exact ⟨rfl, by decide, by simp only [List.length_map, Nat.zero_add]; omega⟩) ?_; conv => whnf)
    | (refine pc_use (hz) ?_; conv => whnf)
    | (refine pc_head (hz) ?_; conv => whnf)
    | (refine HpP.force ?_; conv => whnf)
    | (intro t ht; cases t <;> conv => whnf)
  · exact fin rfl
  · exfalso; simp at ht; omega
  · exfalso; simp at ht; omega
theorem zero35o {n : Int} (h : n < 1 ∨ n > 12) : PC Pr GG 35 [iD n] (.tup [stD 0 [] true, iD 3]) := by
  refine pc_walk pok Tryz.func35 chk35 ?_
  conv => whnf
  repeat' first
    | (refine LookP.mk _ rfl ?_; conv => whnf)
    | (refine ShlP.mk _ (by first | (simp only [List.set, over, List.take, List.drop, List.append_eq, List.nil_append, List.cons_append, List.length]; rfl) | rfl) ?_; conv => whnf)
    | (refine And.intro (by first | assumption | exact ⟨by kernel_rfl, rfl⟩ | decide | omega | exact ⟨rfl, by decide, by simp only [List.length_map, Nat.zero_add]; omega⟩) ?_; conv => whnf)
    | (refine HpP.force ?_; conv => whnf)
    | (intro t ht; cases t <;> conv => whnf)
  · exfalso; simp at *; omega
  · exact fin rfl
  · exact fin rfl
theorem chk30 : chkFn Tryz.f30 = true := by kernel_rfl
theorem zero30o {n : Int} (h : n < 1 ∨ n > 12) : PC Pr GG 30 [iD n] (.tup [stD 0 [] true, iD 3]) := by
  have ho := off88 (G := GG) n 1 12
  have e : offB n 1 12 = true := by unfold offB; simp; omega
  rw [e] at ho
  refine pc_walk pok Tryz.func30 chk30 ?_
  conv => whnf
  repeat' first
    | (refine LookP.mk _ rfl ?_; conv => whnf)
    | (refine ShlP.mk _ (by first | (simp only [List.set, over, List.take, List.drop, List.append_eq, List.nil_append, List.cons_append, List.length]; rfl) | rfl) ?_; conv => whnf)
    | (refine And.intro (by first | assumption | exact ⟨by kernel_rfl, rfl⟩ | decide | omega | exact ⟨rfl, by decide, by simp only [List.length_map, Nat.zero_add]; omega⟩) ?_; conv => whnf)
    | (refine pc_use (ho) ?_; conv => whnf)
    | (refine pc_head (ho) ?_; conv => whnf)
    | (refine HpP.force ?_; conv => whnf)
    | (intro t ht; cases t <;> conv => whnf)
  exact fin rfl
theorem chk107 : chkFn Tryz.f107 = true := by kernel_rfl
/-- What is expected of a string, as the program tells it. -/
def expP (l : List Ps) (p : Ps) : Int := if (fndS (lfW (redF l) l.length) (nf p).2 (lfW (redF l) l.length).length).1 = 0 then isub .i64 1 ((iadd .i64 (isub .i64 p.p (allS p.w l (fndS (lfW (redF l) l.length) (nf p).2 (lfW (redF l) l.length).length).2 l.length).p) 4).tmod 4) else 0
theorem expected107 {w : Nat} {l : List Ps} (hs : SOk w l) (t : Bool) {p : Ps} (hp : Vl w p) : PC Pr GG 107 [stD w l t, p.d] (iD (expP l p)) := by
  have hlo := hs.lo
  have hhi := hs.hi
  have hlen := hs.len
  have hg : gnW (redF l) l.length = [] := by
    have := (ind_iff hhi hs.vl (by omega)).2 hs.rank
    exact List.length_eq_zero_iff.1 this
  have hf := find194 ⟨hlo, hhi⟩ l t p (by omega) (by omega) hs.vl hp hg
  unfold fndD at hf
  unfold expP
  generalize fndS (lfW (redF l) l.length) (nf p).2 (lfW (redF l) l.length).length = a at hf ⊢
  generalize (iadd .i64 (isub .i64 p.p (allS p.w l a.2 l.length).p) 4).tmod 4 = n at hf ⊢
  by_cases h : a.1 = 0
  · rw [if_pos h] at hf ⊢
    refine pc_walk pok Tryz.func107 chk107 ?_
    conv => whnf
    repeat' first
      | (refine LookP.mk _ rfl ?_; conv => whnf)
      | (refine ShlP.mk _ (by first | (simp only [List.set, over, List.take, List.drop, List.append_eq, List.nil_append, List.cons_append, List.length]; rfl) | rfl) ?_; conv => whnf)
      | (refine And.intro (by first | assumption | exact ⟨by kernel_rfl, rfl⟩ | decide | omega | exact ⟨rfl, by decide, by simp only [List.length_map, Nat.zero_add]; omega⟩) ?_; conv => whnf)
      | (refine pc_use (hf) ?_; conv => whnf)
      | (refine pc_head (hf) ?_; conv => whnf)
      | (refine HpP.force ?_; conv => whnf)
      | (intro t ht; cases t <;> conv => whnf)
    · exact fin rfl
    · exact absurd ht (by decide)
  · rw [if_neg h] at hf ⊢
    refine pc_walk pok Tryz.func107 chk107 ?_
    conv => whnf
    repeat' first
      | (refine LookP.mk _ rfl ?_; conv => whnf)
      | (refine ShlP.mk _ (by first | (simp only [List.set, over, List.take, List.drop, List.append_eq, List.nil_append, List.cons_append, List.length]; rfl) | rfl) ?_; conv => whnf)
      | (refine And.intro (by first | assumption | exact ⟨by kernel_rfl, rfl⟩ | decide | omega | exact ⟨rfl, by decide, by simp only [List.length_map, Nat.zero_add]; omega⟩) ?_; conv => whnf)
      | (refine pc_use (hf) ?_; conv => whnf)
      | (refine pc_head (hf) ?_; conv => whnf)
      | (refine HpP.force ?_; conv => whnf)
      | (intro t ht; cases t <;> conv => whnf)
    · exact absurd ht (by decide)
    · exact fin rfl
end Go.Tz


/-! The layer stab: a state at work. -/
namespace Go.Tz
open Go Go.AL Go.Proofs Go.Ma
variable {G : Nat → Option (List D)}
theorem chk95 : chkFn Tryz.f95 = true := by kernel_rfl
abbrev wkB (w N : Nat) : Blk := .arr 3 [[.d (iD w), .sl 1 4 0 N N true, .fn 136 [.ptr 0 3 0 0] []]]
theorem opened95 {w : Nat} (hw : 1 ≤ w ∧ w ≤ 12) (l : List Ps) (t : Bool) (hn : l.length ≤ 1000) (hv : ∀ q, q ∈ l → Vl w q) : PO Pr G 95 [stD w l t] (.ptr 0 3 0 0) [(0, some (wkB w l.length)), (1, some (dblk 4 ((redRows l (2 * w)).map Ps.l)))] 2 := by
  have hc := canon105o (G := G) hw l t hn hv
  generalize redRows l (2 * w) = m at hc ⊢
  refine ⟨isFn_of Tryz.func95 chk95, acall_sub (K := fun v H _ => v = .ptr 2 3 0 0 ∧ H.get 2 = some (.arr 3 [[.d (iD w), .sl 1 4 0 l.length l.length true, .fn 136 [.ptr 2 3 0 0] []]]) ∧ H.get 1 = some (dblk 4 (m.map Ps.l))) (fn_walk pok Tryz.func95 chk95 ?_) ?_⟩
  · conv => whnf
    repeat' first
      | (refine LookP.mk _ rfl ?_; conv => whnf)
      | (refine ShlP.mk _ (by first | (simp only [List.set, over, List.take, List.drop, List.append_eq, List.nil_append, List.cons_append, List.length]; rfl) | rfl) ?_; conv => whnf)
      | (refine And.intro (by first | assumption | exact ⟨by kernel_rfl, rfl⟩ | decide | omega | exact ⟨rfl, by decide, by simp only [List.length_map, Nat.zero_add]; omega⟩) ?_; conv => whnf)
      | (refine po_use hc ?_; conv => whnf)
      | (refine HpP.force ?_; conv => whnf)
      | (intro t ht; cases t <;> conv => whnf)
    refine fin ⟨rfl, rfl, ?_⟩
    show some (Blk.ren _ (dblk 4 (m.map Ps.l))) = _
    rw [ren_dblk]
  · rintro v H n ⟨rfl, h1, h2⟩
    refine ⟨_, _, 2, ?_, rfl, rfl, rfl⟩
    first | refine ren_env [(0, 2), (1, 1)] ?_ ?_ ?_ trivial | refine ren_envB [(0, 2), (1, 1)] rfl rfl ?_ ?_ ?_ trivial
    · repeat' first
        | exact trivial
        | refine ⟨⟨by first | rfl | assumption, rfl⟩, ?_⟩
    · repeat' first
        | exact trivial
        | refine ⟨⟨ltB rfl, _, rfl, by first | rfl | assumption | exact get_ren rfl (by first | rfl | assumption | exact h1 | exact get_ren rfl h2) | exact h1 | exact get_ren rfl h2, by first | exact below1 rfl | exact below_dblk _ _ _ | exact below_arr rfl⟩, ?_⟩
    · repeat' first
        | exact trivial
        | (refine And.intro ?_ ?_)
        | exact fun _ => rfl
        | exact fun h => absurd h (Nat.ne_of_beq_eq_false rfl)
theorem chk108 : chkFn Tryz.f108 = true := by kernel_rfl
theorem chk195 : chkFn Tryz.f195 = true := by kernel_rfl
theorem chk247 : chkFn Tryz.f247 = true := by kernel_rfl
theorem chk185 : chkFn Tryz.f185 = true := by kernel_rfl
theorem chk242 : chkFn Tryz.f242 = true := by kernel_rfl
/-- The round of a range over a function. -/
def rangeAt : Code → Option (Code × Code)
  | .seq c d => match rangeAt c with
    | some p => some p
    | none => rangeAt d
  | .block _ c => rangeAt c
  | .rangeFunc _ _ a b => some (a, b)
  | _ => none
noncomputable def rgA (f : Func) : Code := match f.body with
  | some c => (match rangeAt c with
    | some p => p.1
    | none => .skip)
  | none => .skip
noncomputable def rgB (f : Func) : Code := match f.body with
  | some c => (match rangeAt c with
    | some p => p.2
    | none => .skip)
  | none => .skip
/-- The numbers of the strings that anticommute with one. -/
def antL (p : Ps) (rf : Nat → Ps) (i : Nat) : List Nat := (List.range i).filter fun j => !comV p (rf j)
def numD (l : List Nat) : List (List D) := l.map fun n : Nat => [iD (n : Int)]
theorem antL_snoc (p : Ps) (rf : Nat → Ps) (i : Nat) : antL p rf (i + 1) = if comV p (rf i) = true then antL p rf i else antL p rf i ++ [i] := by
  unfold antL
  rw [List.range_succ, List.filter_append]
  by_cases h : comV p (rf i) = true
  · rw [if_pos h]; simp [h]
  · rw [if_neg h]; simp [h]
theorem antL_le (p : Ps) (rf : Nat → Ps) (i : Nat) : (antL p rf i).length ≤ i := by
  have := List.length_filter_le (fun j => !comV p (rf j)) (List.range i)
  simpa [antL] using this
/-- The strings that do not commute with a new one, multiplied with the first of them. -/
def prjR (rf : Nat → Ps) (a0 : Nat) (R : List Nat) : Nat → Ps := fun j => if j ∈ R then mulS (rf j) (rf a0) else rf j
def prjF (rf : Nat → Ps) (p : Ps) (a0 : Nat) (R : List Nat) : Nat → Ps := fun j => if j = a0 then p else prjR rf a0 R j
theorem project108 {w N : Nat} (hw : 1 ≤ w ∧ w ≤ 12) {rf : Nat → Ps} {p : Ps} (hN : N ≤ 1000) (hv : ∀ j, j < N → Vl w (rf j)) (hp : Vl w p) {a0 : Nat} {R : List Nat} (hA : antL p rf N = a0 :: R) :
    ACall Pr G 108 [.ptr 0 3 0 0, .d p.d] [(0, some (wkB w N)), (1, some (dblk 4 ((List.range N).map fun j => (rf j).l)))] 3 fun v H _ => v = .d (.tup []) ∧ H.get 0 = some (wkB w N) ∧ H.get 1 = some (dblk 4 ((List.range N).map fun j => (prjF rf p a0 R j).l)) := by
  refine fn_walk pok Tryz.func108 chk108 ?_
  conv => whnf
  repeat' first
    | (refine LookP.mk _ rfl ?_; conv => whnf)
    | (refine ShlP.mk _ (by first | (simp only [List.set, over, List.take, List.drop, List.append_eq, List.nil_append, List.cons_append, List.length]; rfl) | rfl) ?_; conv => whnf)
    | (refine And.intro (by first | assumption | exact ⟨by kernel_rfl, rfl⟩ | decide | omega | exact ⟨rfl, by decide, by simp only [List.length_map, Nat.zero_add]; omega⟩) ?_; conv => whnf)
    | (refine HpP.force ?_; conv => whnf)
    | (intro t ht; cases t <;> conv => whnf)
  refine call_walk pok Tryz.func195 chk195 ?_
  conv => whnf
  repeat' first
    | (refine LookP.mk _ rfl ?_; conv => whnf)
    | (refine ShlP.mk _ (by first | (simp only [List.set, over, List.take, List.drop, List.append_eq, List.nil_append, List.cons_append, List.length]; rfl) | rfl) ?_; conv => whnf)
    | (refine And.intro (by first | assumption | exact ⟨by kernel_rfl, rfl⟩ | decide | omega | exact ⟨rfl, by decide, by simp only [List.length_map, Nat.zero_add]; omega⟩) ?_; conv => whnf)
    | (refine HpP.force ?_; conv => whnf)
    | (intro t ht; cases t <;> conv => whnf)
  refine call_walk pok Tryz.func185 chk185 ?_
  conv => whnf
  repeat' first
    | (refine LookP.mk _ rfl ?_; conv => whnf)
    | (refine ShlP.mk _ (by first | (simp only [List.set, over, List.take, List.drop, List.append_eq, List.nil_append, List.cons_append, List.length]; rfl) | rfl) ?_; conv => whnf)
    | (refine And.intro (by first | assumption | exact ⟨by kernel_rfl, rfl⟩ | decide | omega | exact ⟨rfl, by decide, by simp only [List.length_map, Nat.zero_add]; omega⟩) ?_; conv => whnf)
    | (refine HpP.force ?_; conv => whnf)
    | (intro t ht; cases t <;> conv => whnf)
  refine call_walk pok Tryz.func242 chk242 ?_
  conv => whnf
  repeat' first
    | (refine LookP.mk _ rfl ?_; conv => whnf)
    | (refine ShlP.mk _ (by first | (simp only [List.set, over, List.take, List.drop, List.append_eq, List.nil_append, List.cons_append, List.length]; rfl) | rfl) ?_; conv => whnf)
    | (refine And.intro (by first | assumption | exact ⟨by kernel_rfl, rfl⟩ | decide | omega | exact ⟨rfl, by decide, by simp only [List.length_map, Nat.zero_add]; omega⟩) ?_; conv => whnf)
    | (refine HpP.force ?_; conv => whnf)
    | (intro t ht; cases t <;> conv => whnf)
  refine call_walk pok Tryz.func247 chk247 ?_
  conv => whnf
  repeat' first
    | (refine LookP.mk _ rfl ?_; conv => whnf)
    | (refine ShlP.mk _ (by first | (simp only [List.set, over, List.take, List.drop, List.append_eq, List.nil_append, List.cons_append, List.length]; rfl) | rfl) ?_; conv => whnf)
    | (refine And.intro (by first | assumption | exact ⟨by kernel_rfl, rfl⟩ | decide | omega | exact ⟨rfl, by decide, by simp only [List.length_map, Nat.zero_add]; omega⟩) ?_; conv => whnf)
    | (refine HpP.force ?_; conv => whnf)
    | (intro t ht; cases t <;> conv => whnf)
  refine for_use pok (fun i => ⟨[(0, .yld 8), (4, .d (.fn 114 [.agg p.l] [])), (14, .sl 1 4 0 N N true), (15, .d (iD N)), (16, .d (iD i))], [(0, some (wkB w N)), (1, some (dblk 4 ((List.range N).map fun j => (rf j).l))), (3, some (.arr 4 [p.l.map AV.d])), (6, some (.arr 1 [[.sl 9 1 0 (antL p rf i).length (antL p rf i).length false]])), (7, some (.raw (.deferred (some [])))), (8, some (.lp [(6, .fn 247 [] [.ptr 5 4 0 0, .ptr 4 1 0 0]), (4, .d (.sl [] true)), (2, .ptr 6 1 0 0), (0, .d (.sl [] true)), (1, .fn 247 [] [.ptr 5 4 0 0, .ptr 4 1 0 0])] Tryz.f242.ntmps #[7] (rgA Tryz.f242) (rgB Tryz.f242) .ready none 7)), (9, some (dblk 1 (numD (antL p rf i))))], 10⟩) (N) (fun _ => True) (trivial) ?_ (by kernel_rfl) ?_ ?_
  · refine Sub.trans (sub_nilH (nm := 6) (S := 1) (Nat.le_of_ble_eq_true rfl) rfl) ?_
    refine keep_env (by first | exact Nat.zero_le _ | exact Nat.le_of_ble_eq_true rfl) ?_ ?_ trivial
    · repeat' first
        | exact trivial
        | refine ⟨⟨by first | rfl | assumption, rfl⟩, ?_⟩
    · repeat' first
        | exact trivial
        | refine ⟨⟨ltB rfl, _, rfl, by first | rfl | assumption, by first | exact below1 rfl | exact below_dblk _ _ _ | exact below_arr rfl | exact trivial | exact ⟨rfl, Nat.le_of_ble_eq_true rfl⟩⟩, ?_⟩
  · intro i A_i h_i I_i N_i
    have e_i : iadd .i64 (i : Int) 1 = ((i + 1 : Nat) : Int) := iadd_nat (by first | omega | (simp at *; omega))
    have hs := antL_snoc p rf i
    have hle := antL_le p rf i
    generalize antL p rf i = A at hs hle
    have hc := with114 (G := G) hw hp (hv i h_i)
    generalize comV p (rf i) = b at hs hc
    conv => whnf
    repeat (refine LookP.mk _ rfl ?_; conv => whnf)
    intro t ht
    cases t
    · exfalso; first | (simp at ht; done) | (simp at ht; omega)
    conv => whnf
    repeat' first
      | (refine LookP.mk _ (by first | rfl | exact get_rw h_i) ?_; conv => whnf)
      | (refine ShlP.mk _ (by first | (simp only [List.set, over, List.take, List.drop, List.append_eq, List.nil_append, List.cons_append, List.length]; rfl) | rfl) ?_; conv => whnf)
      | (refine And.intro (by first | assumption | exact ⟨by kernel_rfl, rfl⟩ | decide | omega | exact ⟨rfl, by decide, by simp only [List.length_map, Nat.zero_add]; omega⟩) ?_; conv => whnf)
      | (refine pc_useB (hc) ?_)
      | (refine pc_headB (hc) ?_)
      | (refine HpP.force ?_; conv => whnf)
      | (intro t ht; cases t <;> conv => whnf)
    · rw [ht, if_neg (by simp)] at hs
      have hsn : numD (antL p rf (i + 1)) = numD A ++ [[iD i]] := by rw [hs]; simp [numD]
      have hnl : (numD A).length = A.length := by simp [numD]
      generalize numD A = m at hsn hnl
      refine round_walk pok ?_
      conv => whnf
      repeat' first
        | (refine LookP.mk _ rfl ?_; conv => whnf)
        | (refine ShlP.mk _ (by first | (simp only [List.set, over, List.take, List.drop, List.append_eq, List.nil_append, List.cons_append, List.length]; rfl) | rfl) ?_; conv => whnf)
        | (refine And.intro (by first | exact Nat.le_refl _ | exact ⟨by rw [List.length_map]; exact hnl, by decide, by show (2 * (A.length + 1) + 192) * 8 ≤ 281474976710656; omega⟩ | assumption | exact ⟨by kernel_rfl, rfl⟩ | decide | omega | exact ⟨rfl, by decide, by simp only [List.length_map, Nat.zero_add]; omega⟩) ?_; conv => whnf)
        | (rw [nbeq]; conv => whnf)
        | (refine HpP.force ?_; conv => whnf)
        | (intro t ht; cases t <;> conv => whnf)
      refine N_i _ ?_ ?_
      · first | trivial | assumption | omega
      · first | refine ren_env [(9, 12)] ?_ ?_ ?_ trivial | refine ren_envB [(9, 12)] rfl rfl ?_ ?_ ?_ trivial
        · repeat' first
            | exact trivial
            | refine ⟨⟨by first | rfl | assumption | exact congrArg (fun n => AV.d (iD n)) e_i, rfl⟩, ?_⟩
        · repeat' first
            | exact trivial
            | refine ⟨⟨ltB rfl, _, rfl, by first | rfl | assumption | exact get_ren rfl (by first | rfl | assumption | exact get_ren rfl (by rw [hsn]; exact congrArg some (dblk_snoc rfl)) | (rw [hs, List.length_append]; rfl)) | exact get_ren rfl (by rw [hsn]; exact congrArg some (dblk_snoc rfl)) | (rw [hs, List.length_append]; rfl), by first | exact below1 rfl | exact below_dblk _ _ _ | exact below_arr rfl | exact trivial | exact ⟨rfl, Nat.le_of_ble_eq_true rfl⟩⟩, ?_⟩
        · repeat' first
            | exact trivial
            | (refine And.intro ?_ ?_)
            | exact fun _ => rfl
            | exact fun h => absurd h (Nat.ne_of_beq_eq_false rfl)
    · rw [ht, if_pos rfl] at hs
      refine N_i _ ?_ ?_
      · first | trivial | assumption | omega
      · refine keep_env (by first | exact Nat.zero_le _ | exact Nat.le_of_ble_eq_true rfl) ?_ ?_ trivial
        · repeat' first
            | exact trivial
            | refine ⟨⟨by first | rfl | assumption | exact congrArg (fun n => AV.d (iD n)) e_i, rfl⟩, ?_⟩
        · repeat' first
            | exact trivial
            | refine ⟨⟨ltB rfl, _, rfl, by first | rfl | assumption | (rw [hs]; rfl), by first | exact below1 rfl | exact below_dblk _ _ _ | exact below_arr rfl | exact trivial | exact ⟨rfl, Nat.le_of_ble_eq_true rfl⟩⟩, ?_⟩
  · intro A_last I_last
    conv => whnf
    repeat (refine LookP.mk _ rfl ?_; conv => whnf)
    intro t ht
    cases t
    rotate_left
    · exfalso; first | (simp at ht; done) | (simp at ht; omega)
    conv => whnf
    have hlt : ∀ j, j ∈ a0 :: R → j < N := fun j hj => by
      rw [← hA] at hj
      exact List.mem_range.1 (List.mem_filter.1 hj).1
    have hnd : (a0 :: R).Nodup := by rw [← hA]; exact (List.nodup_range).filter _
    rw [hA]
    have ha0 := hlt a0 (by simp)
    have hRN : R.length + 1 ≤ N := by
      have := antL_le p rf N
      rw [hA] at this; simpa using this
    clear hA
    repeat' first
      | (refine LookP.mk _ rfl ?_; conv => whnf)
      | (refine ShlP.mk _ (by first | (simp only [List.set, over, List.take, List.drop, List.append_eq, List.nil_append, List.cons_append, List.length]; rfl) | rfl) ?_; conv => whnf)
      | (refine And.intro (by first | exact ⟨by simp, by simp, by simp⟩ | assumption | exact ⟨by kernel_rfl, rfl⟩ | decide | omega | exact ⟨rfl, by decide, by simp only [List.length_map, Nat.zero_add]; omega⟩) ?_; conv => whnf)
      | (refine HpP.force ?_; conv => whnf)
      | (intro t ht; cases t <;> conv => whnf)
    refine for_use pok (fun k => ⟨[(0, .ptr 0 3 0 0), (3, .ptr 3 4 0 0), (4, .sl 9 1 0 (R.length + 1) (R.length + 1) false), (12, .sl 9 1 1 R.length R.length false), (13, .d (iD R.length)), (14, .d (iD k))], [(0, some (wkB w N)), (1, some (dblk 4 ((List.range N).map fun j => (prjR rf a0 (R.take k) j).l))), (3, some (.arr 4 [p.l.map AV.d])), (9, some (dblk 1 (numD (a0 :: R))))], 10⟩) (R.length) (fun _ => True) (trivial) ?_ (by kernel_rfl) ?_ ?_
    · refine keep_env (by first | exact Nat.zero_le _ | exact Nat.le_of_ble_eq_true rfl) ?_ ?_ trivial
      · repeat' first
          | exact trivial
          | refine ⟨⟨by first | rfl | assumption, rfl⟩, ?_⟩
      · repeat' first
          | exact trivial
          | refine ⟨⟨ltB rfl, _, rfl, by first | rfl | assumption | (rw [List.take_zero]; rfl), by first | exact below1 rfl | exact below_dblk _ _ _ | exact below_arr rfl⟩, ?_⟩
    · intro k A_k h_k I_k N_k
      have e_k : iadd .i64 (k : Int) 1 = ((k + 1 : Nat) : Int) := iadd_nat (by first | omega | (simp at *; omega))
      have hr := hlt R[k] (List.mem_cons_of_mem _ (List.getElem_mem h_k))
      have hnR : R.Nodup := (List.nodup_cons.1 hnd).2
      have haR : a0 ∉ R := (List.nodup_cons.1 hnd).1
      have hrk : prjR rf a0 (R.take k) R[k] = rf R[k] := by
        unfold prjR
        rw [if_neg fun h => ?_]
        obtain ⟨i, hi, he⟩ := List.mem_take_iff_getElem.1 h
        exact List.pairwise_iff_getElem.1 hnR i k (by omega) h_k (by omega) he
      have hra : prjR rf a0 (R.take k) a0 = rf a0 := by
        unfold prjR
        rw [if_neg fun h => haR (List.mem_of_mem_take h)]
      have hst : ∀ j, (if j = R[k] then Ps.l (mulS (rf R[k]) (rf a0)) else Ps.l (prjR rf a0 (R.take k) j)) = Ps.l (prjR rf a0 (R.take (k + 1)) j) := by
        intro j
        unfold prjR
        rw [take_snoc h_k]
        by_cases e : j = R[k]
        · rw [if_pos e, if_pos (List.mem_append.2 (.inr (List.mem_singleton.2 e))), e]
        · rw [if_neg e]
          by_cases e2 : j ∈ R.take k
          · rw [if_pos e2, if_pos (List.mem_append.2 (.inl e2))]
          · rw [if_neg e2, if_neg fun h => (List.mem_append.1 h).elim e2 fun h => e (List.mem_singleton.1 h)]
      have hnum : ((numD (a0 :: R)).map fun el => el.map AV.d)[1 + (k : Int).toNat]? = some ([iD (R[k] : Nat)].map AV.d) := by
        simp [numD, Nat.add_comm 1, List.getElem?_eq_getElem h_k]
      have hm := times183v (G := G) hw (rf R[k]) [rf a0] true (by simp) (hv _ hr) (by intro r hr; rw [List.mem_singleton.1 hr]; exact hv _ ha0)
      have hme : ([rf a0].foldl mulS (rf R[k])) = mulS (rf R[k]) (rf a0) := rfl
      rw [hme] at hm
      generalize mulS (rf R[k]) (rf a0) = m at hm hst
      have hst2 : ∀ j, (if j = R[k] then [iD m.w, iD m.x, iD m.z, iD m.p] else Ps.l (prjR rf a0 (R.take k) j)) = Ps.l (prjR rf a0 (R.take (k + 1)) j) := hst
      generalize prjR rf a0 (R.take k) = g at hrk hra hst2
      clear hst
      generalize R[k] = r at hr hrk hst2 hnum hm
      have hgr : (fun j => Ps.l (g j)) r = Ps.l (rf r) := by dsimp only; rw [hrk]
      have hga : (fun j => Ps.l (g j)) a0 = Ps.l (rf a0) := by dsimp only; rw [hra]
      conv => whnf
      repeat (refine LookP.mk _ rfl ?_; conv => whnf)
      intro t ht
      cases t
      · exfalso; first | (simp at ht; done) | (simp at ht; omega)
      conv => whnf
      repeat' first
        | (refine LookP.mk _ (by first | rfl | exact hnum | exact get_rwE hr hgr | exact get_rwE ha0 hga) ?_; conv => whnf)
        | (refine ShlP.mk _ (by first | exact set_rw (x := [_, _, _, _]) hr | (simp only [List.set, over, List.take, List.drop, List.append_eq, List.nil_append, List.cons_append, List.length]; rfl) | rfl) ?_; conv => whnf)
        | (refine And.intro (by first | exact ⟨Int.natCast_nonneg _, by omega⟩ | assumption | exact ⟨by kernel_rfl, rfl⟩ | decide | omega | exact ⟨rfl, by decide, by simp only [List.length_map, Nat.zero_add]; omega⟩) ?_; conv => whnf)
        | (refine pc_use (hm) ?_; conv => whnf)
        | (refine pc_head (hm) ?_; conv => whnf)
        | (refine HpP.force ?_; conv => whnf)
        | (intro t ht; cases t <;> conv => whnf)
      refine N_k _ ?_ ?_
      · first | trivial | assumption | omega
      · refine keep_env (by first | exact Nat.zero_le _ | exact Nat.le_of_ble_eq_true rfl) ?_ ?_ trivial
        · repeat' first
            | exact trivial
            | refine ⟨⟨by first | rfl | assumption | exact congrArg (fun n => AV.d (iD n)) e_k, rfl⟩, ?_⟩
        · repeat' first
            | exact trivial
            | refine ⟨⟨ltB rfl, _, rfl, by first | rfl | assumption | exact congrArg some (psB_congr hst2), by first | exact below1 rfl | exact below_dblk _ _ _ | exact below_arr rfl⟩, ?_⟩
    · intro A_last I_last
      conv => whnf
      repeat (refine LookP.mk _ rfl ?_; conv => whnf)
      intro t ht
      cases t
      rotate_left
      · exfalso; first | (simp at ht; done) | (simp at ht; omega)
      conv => whnf
      have hra : prjR rf a0 (R.take R.length) a0 = rf a0 := by
        unfold prjR
        rw [if_neg fun h => (List.nodup_cons.1 hnd).1 (List.mem_of_mem_take h)]
      rw [List.take_length] at hra ⊢
      have hga : (fun j => Ps.l (prjR rf a0 R j)) a0 = Ps.l (rf a0) := by dsimp only; rw [hra]
      have hst : ∀ j, (if j = a0 then [iD p.w, iD p.x, iD p.z, iD p.p] else Ps.l (prjR rf a0 R j)) = Ps.l (prjF rf p a0 R j) := by
        intro j
        unfold prjF
        split <;> rfl
      generalize prjR rf a0 R = g at hga hst
      generalize prjF rf p a0 R = g' at hst ⊢
      repeat' first
        | (refine LookP.mk _ (by first | rfl | exact get_rwE ha0 hga) ?_; conv => whnf)
        | (refine ShlP.mk _ (by first | exact set_rw (x := [_, _, _, _]) ha0 | (simp only [List.set, over, List.take, List.drop, List.append_eq, List.nil_append, List.cons_append, List.length]; rfl) | rfl) ?_; conv => whnf)
        | (refine And.intro (by first | exact ⟨Int.natCast_nonneg _, by omega⟩ | assumption | exact ⟨by kernel_rfl, rfl⟩ | decide | omega | exact ⟨rfl, by decide, by simp only [List.length_map, Nat.zero_add]; omega⟩) ?_; conv => whnf)
        | (refine HpP.force ?_; conv => whnf)
        | (intro t ht; cases t <;> conv => whnf)
      refine fin ⟨rfl, rfl, ?_⟩
      exact congrArg some (psB_congr hst)
theorem project_use {w N : Nat} (hw : 1 ≤ w ∧ w ≤ 12) {rf : Nat → Ps} {p : Ps} (hN : N ≤ 1000) (hv : ∀ j, j < N → Vl w (rf j)) (hp : Vl w p) {a0 : Nat} {R : List Nat} (hA : antL p rf N = a0 :: R) {H : AHeap} {k : AV → AHeap → Nat → Prop}
    (h0 : H.get 0 = some (wkB w N)) (h1 : H.get 1 = some (dblk 4 ((List.range N).map fun j => (rf j).l))) (hk : k (.d (.tup [])) [(0, some (wkB w N)), (1, some (dblk 4 ((List.range N).map fun j => (prjF rf p a0 R j).l)))] 3) : CallVC Pr G 108 [.ptr 0 3 0 0, .d p.d] H 3 k := by
  refine ⟨isFn_of Tryz.func108 chk108, acall_drop (acall_sub (project108 (G := G) hw hN hv hp hA) ?_) ?_⟩
  · rintro v H' n ⟨rfl, g0, g1⟩
    refine ⟨.d (.tup []), _, 3, ?_, hk⟩
    refine keep_env (Nat.le_refl _) ⟨⟨rfl, rfl⟩, trivial⟩ ⟨⟨ltB rfl, _, rfl, g0, below_arr rfl⟩, ⟨ltB rfl, _, rfl, g1, below_dblk _ _ _⟩, trivial⟩ trivial
  · intro nm b hg
    simp only [AHeap.get] at hg
    split at hg
    · rename_i e
      have := Nat.eq_of_beq_eq_true e
      subst this
      rw [h0, ← hg]
    · split at hg
      · rename_i e
        have := Nat.eq_of_beq_eq_true e
        subst this
        rw [h1, ← hg]
      · cases hg
end Go.Tz


/-! stab.Overlap. -/
namespace Go.Tz
open Go Go.AL Go.Proofs Go.Ma
variable {G : Nat → Option (List D)}
theorem mapO_d (H : AHeap) (q : Nat) (vis : List Nat) : ∀ l : List D, mapO (asDX H (q + 1) vis) (l.map AV.d) = some l
  | [] => rfl
  | d :: l => by
    have e : asDX H (q + 1) vis (.d d) = some d := rfl
    simp only [List.map_cons, mapO, e, mapO_d H q vis l]
theorem mapO_dd (H : AHeap) (q : Nat) (vis : List Nat) : ∀ l : List (List D), mapO (mapO (asDX H (q + 1) vis)) (l.map fun el : List D => el.map AV.d) = some l
  | [] => rfl
  | d :: l => by
    simp only [List.map_cons, mapO, mapO_d H q vis d, mapO_dd H q vis l]
theorem asDX_sl {H : AHeap} {q : Nat} {vis : List Nat} {nm sz N : Nat} {t : Bool} {es : List (List D)} (hg : H.get nm = some (dblk sz es)) (hN : N = es.length) : asDX H (q + 2) vis (.sl nm sz 0 N N t) = some (.sl es t) := by
  subst hN
  have e1 : Nat.ble (0 + es.length) (es.map fun el : List D => el.map AV.d).length = true := by
    rw [Nat.ble_eq, List.length_map]; omega
  have e2 : Nat.beq sz sz = true := nbeq sz
  unfold asDX
  dsimp only
  rw [hg]
  unfold dblk
  simp only [mapO_dd, e1, e2]
  simp
theorem lendW {V : AHeap} {nm sz N : Nat} {t : Bool} {es : List (List D)} {a p : D} (hg : V.get nm = some (dblk sz es)) (hN : N = es.length) : mapO (asDX V 9 []) [.agg [.d a, .sl nm sz 0 N N t], .d p] = some [.agg [a, .sl es t], p] := by
  have h := asDX_sl (q := 6) (vis := []) (t := t) hg hN
  have e1 : asDX V 8 [] (.d a) = some a := rfl
  have e2 : asDX V 9 [] (.d p) = some p := rfl
  have e3 : asDX V 9 [] (.agg [.d a, .sl nm sz 0 N N t]) = some (.agg [a, .sl es t]) := by
    unfold asDX
    simp only [mapO, e1, h]
  simp only [mapO, e2, e3]
theorem nmSs_d : ∀ (l : List D) (t : List Nat), nmSs (l.map AV.d) t = t
  | [], _ => rfl
  | d :: l, t => by
    show AV.nmS (.d d) (nmSs (l.map AV.d) t) = t
    rw [nmSs_d l t]; rfl
theorem fold_dd (t : List Nat) : ∀ es : List (List D), (es.map fun el : List D => el.map AV.d).foldr nmSs t = t
  | [] => rfl
  | d :: es => by rw [List.map_cons, List.foldr_cons, fold_dd t es, nmSs_d]
theorem mark1 {g : Nat → Option Blk} {n sz : Nat} {es : List (List D)} (hg : g n = some (dblk sz es)) : markG g 300 [n] [] = [n] := by
  show markG g (299 + 1) [n] [] = [n]
  unfold markG
  have e : elemN n [] = false := rfl
  simp only [e, hg]
  unfold dblk
  simp only [fold_dd]
  rfl
theorem rd_call {G : Nat → Option (List D)} {env : List (Nat × AV)} {g : Nat → Option Blk} {o : Oper} {f : Operand} {args : Array Operand} {tys : Array TypeId} {n sz : Nat} {es : List (List D)} (ho : o.op = .call ⟨.value f, args, tys⟩) (hn : (evE G env f).nmS (nmSs (args.toList.map (evE G env)) []) = [n]) (hg : g n = some (dblk sz es)) : rdOf G env g o = [n] := by
  unfold rdOf
  rw [ho]
  dsimp only
  rw [hn]
  exact mark1 hg
theorem spine_rd {G : Nat → Option (List D)} {env : List (Nat × AV)} {g : Nat → Option Blk} {o : Oper} {l : List Nat} {k : List Nat → Prop} (h : rdOf G env g o = l) (hk : spine l k) : spine (rdOf G env g o) k := by
  rw [h]; exact hk
theorem chk33 : chkFn Tryz.f33 = true := by kernel_rfl
abbrev rowsL (N : Nat) (rf : Nat → Ps) : List Ps := (List.range N).map rf
/-- What one string does with a state. -/
def ovStep (N : Nat) (s : (Nat → Ps) × Nat) (p : Ps) : (Nat → Ps) × Nat := if expP (rowsL N s.1) p = 0 then (match antL p s.1 N with
  | a0 :: R => prjF s.1 p a0 R
  | [] => s.1, s.2 + 1) else s
def ovSt (N : Nat) (rf0 : Nat → Ps) (P : List Ps) : Nat → (Nat → Ps) × Nat
  | 0 => (rf0, 0)
  | k + 1 => ovStep N (ovSt N rf0 P k) (P.getD k Ps.z0)
def ovEx (N : Nat) (rf0 : Nat → Ps) (P : List Ps) (k : Nat) : Int := expP (rowsL N (ovSt N rf0 P k).1) (P.getD k Ps.z0)
/-- The overlap, as the program tells it. -/
def ovP (N : Nat) (rf0 : Nat → Ps) (P : List Ps) : Int := if (List.range P.length).any (fun k => decide (ovEx N rf0 P k = -1)) then -1 else ((ovSt N rf0 P P.length).2 : Nat)
def overD (w : Int) (l : List Ps) (w' : Int) (l' : List Ps) : D := if bothS w l w' l' = 0 then .tup [iD (ovP l'.length (fun j => (redRows l' (2 * w.toNat)).getD j Ps.z0) (redRows l (2 * w.toNat))), iD 0] else .tup [iD 0, iD (bothS w l w' l')]
structure OvOk (w : Nat) (l l' : List Ps) : Prop where
  st : ∀ k, k ≤ l.length → (∀ j, j < k → ovEx l'.length (fun j => (redRows l' (2 * w)).getD j Ps.z0) (redRows l (2 * w)) j ≠ -1) → SOk w (rowsL l'.length (ovSt l'.length (fun j => (redRows l' (2 * w)).getD j Ps.z0) (redRows l (2 * w)) k).1)
  an : ∀ k, k < l.length → (∀ j, j < k → ovEx l'.length (fun j => (redRows l' (2 * w)).getD j Ps.z0) (redRows l (2 * w)) j ≠ -1) → ovEx l'.length (fun j => (redRows l' (2 * w)).getD j Ps.z0) (redRows l (2 * w)) k = 0 → antL ((redRows l (2 * w)).getD k Ps.z0) (ovSt l'.length (fun j => (redRows l' (2 * w)).getD j Ps.z0) (redRows l (2 * w)) k).1 l'.length ≠ []
theorem over33 (w : Int) (l : List Ps) (t : Bool) (w' : Int) (l' : List Ps) (t' : Bool) (hn : l.length ≤ 1000) (hn' : l'.length ≤ 1000) (hov : ∀ W : Nat, w = W → SOk W l → SOk W l' → OvOk W l l') : PC Pr GG 33 [stD w l t, stD w' l' t'] (overD w l w' l') := by
  have hb := both106 w l t w' l' t' hn hn'
  have hok := both_ok (w := w) (l := l) (w' := w') (l' := l')
  unfold overD
  by_cases h : bothS w l w' l' = 0
  · obtain ⟨W, rfl, rfl, hs, hs'⟩ := hok h
    obtain ⟨hst, han⟩ := hov W rfl hs hs'
    have hW : 1 ≤ W ∧ W ≤ 12 := ⟨hs.lo, hs.hi⟩
    have h1 := canon105 (G := GG) hW l t hn hs.vl
    have h2 := opened95 (G := GG) hW l' t' hn' hs'.vl
    rw [h] at hb
    rw [if_pos h, Int.toNat_natCast]
    have hPl := redRows_len l (2 * W)
    have hTl := redRows_len l' (2 * W)
    have hPv : ∀ q, q ∈ redRows l (2 * W) → Vl W q := by
      intro q hq
      obtain ⟨j, hj, rfl⟩ := List.mem_map.1 hq
      exact (red_vl hW.2 hs.vl _).1 j (List.mem_range.1 hj)
    rw [← hPl] at hst han
    generalize redRows l (2 * W) = P at h1 hst han hPl hPv ⊢
    have hTB := psB_list (redRows l' (2 * W))
    rw [hTl] at hTB
    generalize redRows l' (2 * W) = Q at h2 hst han hTB hTl ⊢
    generalize hN : l'.length = N at h2 hst han hTB hTl ⊢
    have hTB' : Blk.arr 4 ((Q.map Ps.l).map fun x => x.map AV.d) = dblk 4 ((List.range N).map fun j => Ps.l ((fun j => Q.getD j Ps.z0) j)) := hTB
    clear hTB
    generalize (fun j => Q.getD j Ps.z0) = rf0 at hst han hTB' ⊢
    have hN1000 : N ≤ 1000 := by omega
    refine pc_walk pok Tryz.func33 chk33 ?_
    conv => whnf
    repeat' first
      | (refine LookP.mk _ rfl ?_; conv => whnf)
      | (refine ShlP.mk _ (by first | (simp only [List.set, over, List.take, List.drop, List.append_eq, List.nil_append, List.cons_append, List.length]; rfl) | rfl) ?_; conv => whnf)
      | (refine And.intro (by first | assumption | exact ⟨by kernel_rfl, rfl⟩ | decide | omega | exact ⟨rfl, by decide, by simp only [List.length_map, Nat.zero_add]; omega⟩) ?_; conv => whnf)
      | (refine pc_use (hb) ?_; conv => whnf)
      | (refine pc_head (hb) ?_; conv => whnf)
      | (refine pc_use (h1) ?_; conv => whnf)
      | (refine pc_head (h1) ?_; conv => whnf)
      | (refine po_use h2 ?_; conv => whnf)
      | (refine HpP.force ?_; conv => whnf)
      | (intro t ht; cases t <;> conv => whnf)
    · refine for_use pok (fun k => ⟨[(7, .ptr 0 3 0 0), (8, .d (iD ((ovSt N rf0 P k).2 : Nat))), (21, .d (rowsD P true)), (22, .d (iD (P.map Ps.l).length)), (23, .d (iD k))], [(0, some (wkB W N)), (1, some (dblk 4 ((List.range N).map fun j => ((ovSt N rf0 P k).1 j).l)))], 2⟩) (P.length) (fun k => ∀ j, j < k → ovEx N rf0 P j ≠ -1) (by omega) ?_ (by kernel_rfl) ?_ ?_
      · first | refine ren_env [(0, 2), (1, 3)] ?_ ?_ ?_ trivial | refine ren_envB [(0, 2), (1, 3)] rfl rfl ?_ ?_ ?_ trivial
        · repeat' first
            | exact trivial
            | refine ⟨⟨by first | rfl | assumption, rfl⟩, ?_⟩
        · repeat' first
            | exact trivial
            | refine ⟨⟨ltB rfl, _, rfl, by first | rfl | assumption | exact get_ren rfl (by first | rfl | assumption | (show some (Blk.ren _ (dblk 4 (Q.map Ps.l))) = _; rw [ren_dblk, ren_dblk]; exact congrArg some hTB')) | (show some (Blk.ren _ (dblk 4 (Q.map Ps.l))) = _; rw [ren_dblk, ren_dblk]; exact congrArg some hTB'), by first | exact below1 rfl | exact below_dblk _ _ _ | exact below_arr rfl⟩, ?_⟩
        · repeat' first
            | exact trivial
            | (refine And.intro ?_ ?_)
            | exact fun _ => rfl
            | exact fun h => absurd h (Nat.ne_of_beq_eq_false rfl)
      · intro k A_k h_k I_k N_k
        have e_k : iadd .i64 (k : Int) 1 = ((k + 1 : Nat) : Int) := iadd_nat (by first | omega | (simp at *; omega))
        have hS := hst k (by omega) I_k
        have hgd : P.getD k Ps.z0 = P[k] := by rw [List.getD_eq_getElem?_getD, List.getElem?_eq_getElem h_k]; rfl
        have hpv := hPv P[k] (List.getElem_mem h_k)
        have hx := expected107 hS true hpv
        have hE : ovEx N rf0 P k = expP (rowsL N (ovSt N rf0 P k).1) P[k] := by unfold ovEx; rw [hgd]
        have hA := han k h_k I_k
        have hnx : ovSt N rf0 P (k + 1) = ovStep N (ovSt N rf0 P k) P[k] := by rw [← hgd]; rfl
        have hvl : ∀ j, j < N → Vl W ((ovSt N rf0 P k).1 j) := fun j hj => hS.vl _ (List.mem_map.2 ⟨j, List.mem_range.2 hj, rfl⟩)
        have hcnt : (ovSt N rf0 P k).2 ≤ k := by
          have key : ∀ k, (ovSt N rf0 P k).2 ≤ k := by
            intro k
            induction k with
            | zero => exact Nat.le_refl _
            | succ k ih =>
              show (ovStep N (ovSt N rf0 P k) _).2 ≤ k + 1
              unfold ovStep
              split
              · exact Nat.succ_le_succ ih
              · omega
          exact key k
        unfold ovStep at hnx
        rw [hgd] at hA
        rw [hE] at hA
        have hout : expP (rowsL N (ovSt N rf0 P k).1) P[k] = -1 → ovP N rf0 P = -1 := by
          intro h
          unfold ovP
          rw [if_pos (List.any_eq_true.2 ⟨k, List.mem_range.2 h_k, by rw [hE, h]; rfl⟩)]
        generalize ovSt N rf0 P k = s at hx hE hA hnx hvl hcnt hout hS ⊢
        have er : rowsD (rowsL N s.1) true = .sl ((List.range N).map fun j => Ps.l (s.1 j)) true := by
          unfold rowsD rowsL; rw [List.map_map]; rfl
        have hx2 : PC Pr GG 107 [.agg [iD W, .sl ((List.range N).map fun j => Ps.l (s.1 j)) true], P[k].d] (iD (expP (rowsL N s.1) P[k])) := by rw [← er]; exact hx
        clear hx
        have hnn : ovEx N rf0 P k ≠ -1 → ∀ j, j < k + 1 → ovEx N rf0 P j ≠ -1 := by
          intro h j hj
          rcases Nat.lt_or_ge j k with q | q
          · exact I_k j q
          · rw [show j = k by omega]; exact h
        rw [hE] at hnn
        generalize expP (rowsL N s.1) P[k] = e at hx2 hA hnx hout hnn
        conv => whnf
        repeat (refine LookP.mk _ rfl ?_; conv => whnf)
        intro t ht
        cases t
        · exfalso; first | (simp at ht; done) | (simp at ht; omega)
        conv => whnf
        repeat' first
          | (refine LookP.mk _ (by first | rfl | exact get_l h_k | exact lendW rfl (by simp)) ?_; conv => whnf)
          | (refine ShlP.mk _ (by first | (simp only [List.set, over, List.take, List.drop, List.append_eq, List.nil_append, List.cons_append, List.length]; rfl) | rfl) ?_; conv => whnf)
          | (refine And.intro (by first | assumption | exact ⟨by kernel_rfl, rfl⟩ | decide | omega | exact ⟨rfl, by decide, by simp only [List.length_map, Nat.zero_add]; omega⟩) ?_; conv => whnf)
          | (refine spine_rd (l := [1]) (rd_call rfl rfl (show _ = some (dblk 4 ((List.range N).map fun j => Ps.l (s.1 j))) from rfl)) ?_; conv => whnf)
          | (refine pc_use (hx2) ?_; conv => whnf)
          | (refine pc_head (hx2) ?_; conv => whnf)
          | (refine HpP.force ?_; conv => whnf)
          | (intro t ht; cases t <;> conv => whnf)
        · have e1 : e ≠ 0 := by simpa using ht
          have e2 : e ≠ -1 := by intro h; subst h; simp_all
          rw [if_neg e1] at hnx
          refine N_k _ ?_ ?_
          · exact hnn e2
          · refine keep_env (by first | exact Nat.zero_le _ | exact Nat.le_of_ble_eq_true rfl) ?_ ?_ trivial
            · repeat' first
                | exact trivial
                | refine ⟨⟨by first | rfl | assumption | exact congrArg (fun n => AV.d (iD n)) e_k | (rw [hnx]; rfl), rfl⟩, ?_⟩
            · repeat' first
                | exact trivial
                | refine ⟨⟨ltB rfl, _, rfl, by first | rfl | assumption | (rw [hnx]; rfl), by first | exact below1 rfl | exact below_dblk _ _ _ | exact below_arr rfl⟩, ?_⟩
        · have e1 : e = 0 := by simpa using ht
          subst e1
          rw [if_pos rfl] at hnx
          cases hR : antL P[k] s.1 N with
          | nil => exact absurd hR (hA rfl)
          | cons a0 R =>
            rw [hR] at hnx
            dsimp only at hnx
            have hi : iadd .i64 (s.2 : Int) 1 = ((s.2 + 1 : Nat) : Int) := iadd_nat (b := 1) (by omega)
            refine project_use hW hN1000 hvl hpv hR rfl rfl ?_
            conv => whnf
            repeat' first
              | (refine LookP.mk _ rfl ?_; conv => whnf)
              | (refine ShlP.mk _ (by first | (simp only [List.set, over, List.take, List.drop, List.append_eq, List.nil_append, List.cons_append, List.length]; rfl) | rfl) ?_; conv => whnf)
              | (refine And.intro (by first | assumption | exact ⟨by kernel_rfl, rfl⟩ | decide | omega | exact ⟨rfl, by decide, by simp only [List.length_map, Nat.zero_add]; omega⟩) ?_; conv => whnf)
              | (refine HpP.force ?_; conv => whnf)
              | (intro t ht; cases t <;> conv => whnf)
            refine N_k _ ?_ ?_
            · exact hnn (by decide)
            · refine keep_env (by first | exact Nat.zero_le _ | exact Nat.le_of_ble_eq_true rfl) ?_ ?_ trivial
              · repeat' first
                  | exact trivial
                  | refine ⟨⟨by first | rfl | assumption | exact congrArg (fun n => AV.d (iD n)) e_k | (rw [hnx]; exact congrArg (fun n => AV.d (iD n)) hi), rfl⟩, ?_⟩
              · repeat' first
                  | exact trivial
                  | refine ⟨⟨ltB rfl, _, rfl, by first | rfl | assumption | (rw [hnx]; rfl), by first | exact below1 rfl | exact below_dblk _ _ _ | exact below_arr rfl⟩, ?_⟩
        · have e1 : e = -1 := by simpa using ht
          rw [hout e1]
          exact fin rfl
      · intro A_last I_last
        conv => whnf
        repeat (refine LookP.mk _ rfl ?_; conv => whnf)
        intro t ht
        cases t
        rotate_left
        · exfalso; first | (simp at ht; done) | (simp at ht; omega)
        conv => whnf
        repeat' first
          | (refine LookP.mk _ rfl ?_; conv => whnf)
          | (refine ShlP.mk _ (by first | (simp only [List.set, over, List.take, List.drop, List.append_eq, List.nil_append, List.cons_append, List.length]; rfl) | rfl) ?_; conv => whnf)
          | (refine And.intro (by first | assumption | exact ⟨by kernel_rfl, rfl⟩ | decide | omega | exact ⟨rfl, by decide, by simp only [List.length_map, Nat.zero_add]; omega⟩) ?_; conv => whnf)
          | (refine HpP.force ?_; conv => whnf)
          | (intro t ht; cases t <;> conv => whnf)
        have e : ovP N rf0 P = ((ovSt N rf0 P P.length).2 : Nat) := by
          unfold ovP
          rw [if_neg fun h => ?_]
          obtain ⟨k, hk, he⟩ := List.any_eq_true.1 h
          exact I_last k (List.mem_range.1 hk) (by simpa using he)
        rw [e]
        exact fin rfl
    · exact absurd ht (by decide)
  · rw [if_neg h]
    generalize bothS w l w' l' = e at hb h
    refine pc_walk pok Tryz.func33 chk33 ?_
    conv => whnf
    repeat' first
      | (refine LookP.mk _ rfl ?_; conv => whnf)
      | (refine ShlP.mk _ (by first | (simp only [List.set, over, List.take, List.drop, List.append_eq, List.nil_append, List.cons_append, List.length]; rfl) | rfl) ?_; conv => whnf)
      | (refine And.intro (by first | assumption | exact ⟨by kernel_rfl, rfl⟩ | decide | omega | exact ⟨rfl, by decide, by simp only [List.length_map, Nat.zero_add]; omega⟩) ?_; conv => whnf)
      | (refine pc_use (hb) ?_; conv => whnf)
      | (refine pc_head (hb) ?_; conv => whnf)
      | (refine HpP.force ?_; conv => whnf)
      | (intro t ht; cases t <;> conv => whnf)
    · exact absurd (by simpa using ht) h
    · exact fin rfl
end Go.Tz


/-! stab.rank. -/
namespace Go.Tz
open Go Go.AL Go.Proofs Go.Ma
variable {G : Nat → Option (List D)}
theorem chk109 : chkFn Tryz.f109 = true := by kernel_rfl
/-- One number less the others, as far as it gets less. -/
def minB (rows : List Nat) (b : Nat) : Nat := rows.foldl (fun b r => min b (b ^^^ r)) b
def rkStep (s : List Rn × List Nat) (p : Rn) : List Rn × List Nat := if p ∈ s.1 then s else (s.1 ++ [p], if minB s.2 (p.1 + 4096 * p.2) = 0 then s.2 else s.2 ++ [minB s.2 (p.1 + 4096 * p.2)])
def rkSt (l : List Rn) (i : Nat) : List Rn × List Nat := (l.take i).foldl rkStep ([], [])
theorem rkSt_snoc {l : List Rn} {i : Nat} (h : i < l.length) : rkSt l (i + 1) = rkStep (rkSt l i) l[i] := by
  unfold rkSt
  rw [take_snoc h, List.foldl_append]; rfl
theorem min_lt {a b k : Nat} (h : a < k) : min a b < k := by omega
theorem minB_lt : ∀ (rows : List Nat) {b : Nat}, b < 2 ^ 24 → minB rows b < 2 ^ 24
  | [], _, h => h
  | r :: rows, b, h => minB_lt rows (b := min b (b ^^^ r)) (Nat.lt_of_le_of_lt (Nat.min_le_left _ _) h)
theorem rk_inv {l : List Rn} (hb : ∀ r, r ∈ l → r.1 < 4096 ∧ r.2 < 4096) : ∀ {i : Nat}, i ≤ l.length → (rkSt l i).2.length ≤ i ∧ ∀ r, r ∈ (rkSt l i).2 → r < 2 ^ 24
  | 0, _ => ⟨Nat.le_refl _, fun r h => by cases h⟩
  | i + 1, hi => by
    obtain ⟨h1, h2⟩ := rk_inv hb (i := i) (by omega)
    rw [rkSt_snoc (by omega)]
    have hp := hb l[i] (List.getElem_mem (by omega))
    unfold rkStep
    split
    · exact ⟨by omega, h2⟩
    · dsimp only
      split
      · exact ⟨by omega, h2⟩
      · refine ⟨by rw [List.length_append]; simp; omega, fun r hr => ?_⟩
        rcases List.mem_append.1 hr with h | h
        · exact h2 r h
        · rw [List.mem_singleton.1 h]; exact minB_lt _ (by omega)
def metD (m : List Rn) : List (D × D) := m.map fun q => (.agg (Rn.l q), .bool true)
def metK (m : List Rn) : List (List Int) := m.map fun q => [(q.1 : Int), (q.2 : Int)]
theorem keys_met : ∀ m : List Rn, keysD true (metD m) = some (metK m)
  | [] => rfl
  | q :: m => by
    have e : keyD true (.agg (Rn.l q)) = some [(q.1 : Int), (q.2 : Int)] := rfl
    have ih := keys_met m
    unfold metD metK at ih ⊢
    simp only [List.map_cons, keysD, e, ih]
theorem allLen_met : ∀ m : List Rn, allLen 2 (metK m) = true
  | [] => rfl
  | q :: m => by
    have ih := allLen_met m
    unfold metK at ih ⊢
    simp only [List.map_cons, allLen, ih]; rfl
theorem idx_met_some {p : Rn} : ∀ {m : List Rn} (i : Nat), p ∈ m → ∃ j, idxOf [(p.1 : Int), (p.2 : Int)] (metK m) i = some (i + j) ∧ (metD m)[j]? = some (.agg (Rn.l p), .bool true)
  | [], _, h => by cases h
  | q :: m, i, h => by
    unfold metK metD
    simp only [List.map_cons, idxOf, rn_beq]
    by_cases e : p = q
    · subst e
      exact ⟨0, by simp, rfl⟩
    · have : p ∈ m := by
        rcases List.mem_cons.1 h with h | h
        · exact absurd h e
        · exact h
      obtain ⟨j, h1, h2⟩ := idx_met_some (i + 1) this
      refine ⟨j + 1, ?_, by simpa [metD] using h2⟩
      rw [decide_eq_false e]
      show idxOf _ (metK m) (i + 1) = _
      rw [h1]; congr 1; omega
theorem idx_met_none {p : Rn} : ∀ {m : List Rn} (i : Nat), p ∉ m → idxOf [(p.1 : Int), (p.2 : Int)] (metK m) i = none
  | [], _, _ => rfl
  | q :: m, i, h => by
    unfold metK
    simp only [List.map_cons, idxOf, rn_beq]
    have e : p ≠ q := fun e => h (by rw [e]; simp)
    rw [decide_eq_false e]
    exact idx_met_none (i + 1) fun hm => h (List.mem_cons_of_mem _ hm)
theorem rank109 (l : List Rn) (t : Bool) (hn : l.length ≤ 1000) (hb : ∀ r, r ∈ l → r.1 < 4096 ∧ r.2 < 4096) : PC Pr G 109 [rnD l t] (iD ((rkSt l l.length).2.length : Nat)) := by
  refine pc_walk pok Tryz.func109 chk109 ?_
  conv => whnf
  repeat' first
    | (refine LookP.mk _ rfl ?_; conv => whnf)
    | (refine ShlP.mk _ (by first | (simp only [List.set, over, List.take, List.drop, List.append_eq, List.nil_append, List.cons_append, List.length]; rfl) | rfl) ?_; conv => whnf)
    | (refine And.intro (by first | assumption | exact ⟨by kernel_rfl, rfl⟩ | decide | omega | exact ⟨rfl, by decide, by simp only [List.length_map, Nat.zero_add]; omega⟩) ?_; conv => whnf)
    | (refine HpP.force ?_; conv => whnf)
    | (intro t ht; cases t <;> conv => whnf)
  refine for_use pok (fun i => ⟨[(3, .map 0), (4, .sl 1 1 0 (rkSt l i).2.length (rkSt l i).2.length false), (11, .d (rnD l t)), (12, .d (iD (l.map Rn.l).length)), (13, .d (iD i))], [(0, some (.map (metD (rkSt l i).1))), (1, some (dblk 1 (numD (rkSt l i).2)))], 2⟩) (l.length) (fun _ => True) (trivial) ?_ (by kernel_rfl) ?_ ?_
  · refine Sub.trans (sub_nil (t := 4) (S := 1) (Nat.zero_le _) rfl) ?_
    refine keep_env (by first | exact Nat.zero_le _ | exact Nat.le_of_ble_eq_true rfl) ?_ ?_ trivial
    · repeat' first
        | exact trivial
        | refine ⟨⟨by first | rfl | assumption, rfl⟩, ?_⟩
    · repeat' first
        | exact trivial
        | refine ⟨⟨ltB rfl, _, rfl, by first | rfl | assumption, by first | exact below1 rfl | exact below_dblk _ _ _ | exact below_arr rfl | exact trivial⟩, ?_⟩
  · intro i A_i h_i I_i N_i
    have e_i : iadd .i64 (i : Int) 1 = ((i + 1 : Nat) : Int) := iadd_nat (by first | omega | (simp at *; omega))
    have hs := rkSt_snoc h_i
    have hp := hb _ (List.getElem_mem h_i)
    have hinv : (rkSt l i).2.length ≤ i ∧ ∀ r, r ∈ (rkSt l i).2 → r < 2 ^ 24 := rk_inv hb (by omega)
    unfold rkStep at hs
    generalize rkSt l i = s at hs hinv
    by_cases hm : l[i] ∈ s.1
    · obtain ⟨j, hj1, hj2⟩ := idx_met_some 0 hm
      rw [Nat.zero_add] at hj1
      rw [if_pos hm] at hs
      conv => whnf
      repeat (refine LookP.mk _ rfl ?_; conv => whnf)
      intro t ht
      cases t
      · exfalso; first | (simp at ht; done) | (simp at ht; omega)
      conv => whnf
      repeat' first
        | (refine LookP.mk _ (by first | rfl | exact get_rn h_i) ?_; conv => whnf)
        | (refine ShlP.mk _ (by first | (simp only [List.set, over, List.take, List.drop, List.append_eq, List.nil_append, List.cons_append, List.length]; rfl) | rfl) ?_; conv => whnf)
        | (refine And.intro (by first | assumption | exact ⟨by kernel_rfl, rfl⟩ | decide | omega | exact ⟨rfl, by decide, by simp only [List.length_map, Nat.zero_add]; omega⟩) ?_; conv => whnf)
        | (rw [keys_met]; conv => whnf)
        | (rw [allLen_met]; conv => whnf)
        | (rw [hj1]; conv => whnf)
        | (rw [hj2]; conv => whnf)
        | (refine HpP.force ?_; conv => whnf)
        | (intro t ht; cases t <;> conv => whnf)
      refine N_i _ ?_ ?_
      · first | trivial | assumption | omega
      · refine keep_env (by first | exact Nat.zero_le _ | exact Nat.le_of_ble_eq_true rfl) ?_ ?_ trivial
        · repeat' first
            | exact trivial
            | refine ⟨⟨by first | rfl | assumption | exact congrArg (fun n => AV.d (iD n)) e_i | (rw [hs]; rfl), rfl⟩, ?_⟩
        · repeat' first
            | exact trivial
            | refine ⟨⟨ltB rfl, _, rfl, by first | rfl | assumption | (rw [hs]; rfl), by first | exact below1 rfl | exact below_dblk _ _ _ | exact below_arr rfl | exact trivial⟩, ?_⟩
    · have hj := idx_met_none 0 hm
      have hb0 : ior .i64 (l[i].1 : Int) (ishl .i64 (l[i].2 : Int) 12) = ((l[i].1 + 4096 * l[i].2 : Nat) : Int) := by
        have h1 := ishl_nat (a := l[i].2) (n := 12) (by decide) (by omega)
        rw [show ((12 : Nat) : Int) = 12 from rfl] at h1
        rw [h1, Nat.shiftLeft_eq, ior_nat (by omega) (by omega)]
        have e : l[i].1 ||| l[i].2 * 2 ^ 12 = l[i].1 + 4096 * l[i].2 := by
          have := Nat.two_pow_add_eq_or_of_lt (show l[i].1 < 2 ^ 12 by omega) l[i].2
          rw [Nat.or_comm, Nat.mul_comm l[i].2, ← this]; omega
        rw [e]
      rw [if_neg hm] at hs
      conv => whnf
      repeat (refine LookP.mk _ rfl ?_; conv => whnf)
      intro t ht
      cases t
      · exfalso; first | (simp at ht; done) | (simp at ht; omega)
      conv => whnf
      repeat' first
        | (refine LookP.mk _ (by first | rfl | exact get_rn h_i) ?_; conv => whnf)
        | (refine ShlP.mk _ (by first | (simp only [List.set, over, List.take, List.drop, List.append_eq, List.nil_append, List.cons_append, List.length]; rfl) | rfl) ?_; conv => whnf)
        | (refine And.intro (by first | assumption | exact ⟨by kernel_rfl, rfl⟩ | decide | omega | exact ⟨rfl, by decide, by simp only [List.length_map, Nat.zero_add]; omega⟩) ?_; conv => whnf)
        | (rw [keys_met]; conv => whnf)
        | (rw [allLen_met]; conv => whnf)
        | (rw [hj]; conv => whnf)
        | (rw [spine_eq]; conv => whnf)
        | (refine HpP.force ?_; conv => whnf)
        | (intro t ht; cases t <;> conv => whnf)
      refine for_use pok (fun k => ⟨[(3, .map 0), (4, .sl 1 1 0 s.2.length s.2.length false), (7, .d (iD (minB (s.2.take k) (l[i].1 + 4096 * l[i].2) : Nat))), (11, .d (rnD l t)), (12, .d (iD (l.map Rn.l).length)), (13, .d (iD i)), (28, .sl 1 1 0 s.2.length s.2.length false), (29, .d (iD s.2.length)), (30, .d (iD k))], [(0, some (.map (metD (s.1 ++ [l[i]])))), (1, some (dblk 1 (numD s.2)))], 2⟩) (s.2.length) (fun _ => True) (trivial) ?_ (by kernel_rfl) ?_ ?_
      · refine keep_env (by first | exact Nat.zero_le _ | exact Nat.le_of_ble_eq_true rfl) ?_ ?_ trivial
        · repeat' first
            | exact trivial
            | refine ⟨⟨by first | rfl | assumption | exact congrArg (fun n => AV.d (iD n)) hb0, rfl⟩, ?_⟩
        · repeat' first
            | exact trivial
            | refine ⟨⟨ltB rfl, _, rfl, by first | rfl | assumption | (show some (Blk.map (metD s.1 ++ _)) = _; unfold metD; rw [List.map_append]; rfl), by first | exact below1 rfl | exact below_dblk _ _ _ | exact below_arr rfl | exact trivial⟩, ?_⟩
      · intro k A_k h_k I_k N_k
        have e_k : iadd .i64 (k : Int) 1 = ((k + 1 : Nat) : Int) := iadd_nat (by first | omega | (simp at *; omega))
        have hms : minB (s.2.take (k + 1)) (l[i].1 + 4096 * l[i].2) = min (minB (s.2.take k) (l[i].1 + 4096 * l[i].2)) (minB (s.2.take k) (l[i].1 + 4096 * l[i].2) ^^^ s.2[k]) := by
          unfold minB; rw [take_snoc h_k, List.foldl_append]; rfl
        have hml : minB (s.2.take k) (l[i].1 + 4096 * l[i].2) < 2 ^ 24 := minB_lt _ (by omega)
        have hrl := hinv.2 _ (List.getElem_mem h_k)
        have hnum : ((numD s.2).map fun el => el.map AV.d)[0 + (k : Int).toNat]? = some ([iD (s.2[k] : Nat)].map AV.d) := by
          simp [numD, List.getElem?_eq_getElem h_k]
        generalize minB (s.2.take k) (l[i].1 + 4096 * l[i].2) = b at hms hml ⊢
        generalize s.2[k] = r at hms hrl hnum
        conv => whnf
        repeat (refine LookP.mk _ rfl ?_; conv => whnf)
        intro t ht
        cases t
        · exfalso; first | (simp at ht; done) | (simp at ht; omega)
        conv => whnf
        repeat' first
          | (refine LookP.mk _ (by first | rfl | exact hnum) ?_; conv => whnf)
          | (refine ShlP.mk _ (by first | (simp only [List.set, over, List.take, List.drop, List.append_eq, List.nil_append, List.cons_append, List.length]; rfl) | rfl) ?_; conv => whnf)
          | (refine And.intro (by first | exact ⟨Int.natCast_nonneg _, by omega⟩ | assumption | exact ⟨by kernel_rfl, rfl⟩ | decide | omega | exact ⟨rfl, by decide, by simp only [List.length_map, Nat.zero_add]; omega⟩) ?_; conv => whnf)
          | (refine HpP.force ?_; conv => whnf)
          | (intro t ht; cases t <;> conv => whnf)
        have hmin : (if ixor .i64 (b : Int) (r : Int) < (b : Int) then ixor .i64 (b : Int) (r : Int) else (b : Int)) = ((minB (s.2.take (k + 1)) (l[i].1 + 4096 * l[i].2) : Nat) : Int) := by
          rw [hms, ixor_nat (by omega) (by omega)]
          split <;> omega
        refine N_k _ ?_ ?_
        · first | trivial | assumption | omega
        · refine keep_env (by first | exact Nat.zero_le _ | exact Nat.le_of_ble_eq_true rfl) ?_ ?_ trivial
          · repeat' first
              | exact trivial
              | refine ⟨⟨by first | rfl | assumption | exact congrArg (fun n => AV.d (iD n)) e_k | exact congrArg (fun n => AV.d (iD n)) hmin, rfl⟩, ?_⟩
          · repeat' first
              | exact trivial
              | refine ⟨⟨ltB rfl, _, rfl, by first | rfl | assumption, by first | exact below1 rfl | exact below_dblk _ _ _ | exact below_arr rfl | exact trivial⟩, ?_⟩
      · intro A_last I_last
        have hml : minB (s.2.take s.2.length) (l[i].1 + 4096 * l[i].2) < 2 ^ 24 := minB_lt _ (by omega)
        rw [List.take_length] at hml ⊢
        generalize minB s.2 (l[i].1 + 4096 * l[i].2) = b at hs hml ⊢
        conv => whnf
        repeat (refine LookP.mk _ rfl ?_; conv => whnf)
        intro t ht
        cases t
        rotate_left
        · exfalso; first | (simp at ht; done) | (simp at ht; omega)
        conv => whnf
        repeat' first
          | (refine LookP.mk _ rfl ?_; conv => whnf)
          | (refine ShlP.mk _ (by first | (simp only [List.set, over, List.take, List.drop, List.append_eq, List.nil_append, List.cons_append, List.length]; rfl) | rfl) ?_; conv => whnf)
          | (refine And.intro (by first | exact Nat.le_refl _ | exact ⟨by simp [numD], by decide, by show (2 * (s.2.length + 1) + 192) * 8 ≤ 281474976710656; omega⟩ | assumption | exact ⟨by kernel_rfl, rfl⟩ | decide | omega | exact ⟨rfl, by decide, by simp only [List.length_map, Nat.zero_add]; omega⟩) ?_; conv => whnf)
          | (rw [nbeq]; conv => whnf)
          | (refine HpP.force ?_; conv => whnf)
          | (intro t ht; cases t <;> conv => whnf)
        · have hz : b = 0 := by simp at ht; omega
          rw [if_pos hz] at hs
          refine N_i _ ?_ ?_
          · first | trivial | assumption | omega
          · refine keep_env (by first | exact Nat.zero_le _ | exact Nat.le_of_ble_eq_true rfl) ?_ ?_ trivial
            · repeat' first
                | exact trivial
                | refine ⟨⟨by first | rfl | assumption | exact congrArg (fun n => AV.d (iD n)) e_i | (rw [hs]; rfl), rfl⟩, ?_⟩
            · repeat' first
                | exact trivial
                | refine ⟨⟨ltB rfl, _, rfl, by first | rfl | assumption | (rw [hs]; rfl), by first | exact below1 rfl | exact below_dblk _ _ _ | exact below_arr rfl | exact trivial⟩, ?_⟩
        · have hz : b ≠ 0 := by simp at ht; omega
          rw [if_neg hz] at hs
          refine N_i _ ?_ ?_
          · first | trivial | assumption | omega
          · first | refine ren_env [(1, 3)] ?_ ?_ ?_ trivial | refine ren_envB [(1, 3)] rfl rfl ?_ ?_ ?_ trivial
            · repeat' first
                | exact trivial
                | refine ⟨⟨by first | rfl | assumption | exact congrArg (fun n => AV.d (iD n)) e_i | (rw [hs, List.length_append]; rfl), rfl⟩, ?_⟩
            · repeat' first
                | exact trivial
                | refine ⟨⟨ltB rfl, _, rfl, by first | rfl | assumption | exact get_ren rfl (by first | rfl | assumption | exact get_ren rfl (by rw [hs]; show _ = some (dblk 1 (numD (s.2 ++ [b]))); unfold numD; rw [List.map_append]; exact congrArg some (dblk_snoc rfl)) | (rw [hs]; rfl)) | exact get_ren rfl (by rw [hs]; show _ = some (dblk 1 (numD (s.2 ++ [b]))); unfold numD; rw [List.map_append]; exact congrArg some (dblk_snoc rfl)) | (rw [hs]; rfl), by first | exact below1 rfl | exact below_dblk _ _ _ | exact below_arr rfl | exact trivial⟩, ?_⟩
            · repeat' first
                | exact trivial
                | (refine And.intro ?_ ?_)
                | exact fun _ => rfl
                | exact fun h => absurd h (Nat.ne_of_beq_eq_false rfl)
  · intro A_last I_last
    conv => whnf
    repeat (refine LookP.mk _ rfl ?_; conv => whnf)
    intro t ht
    cases t
    rotate_left
    · exfalso; first | (simp at ht; done) | (simp at ht; omega)
    conv => whnf
    repeat' first
      | (refine LookP.mk _ rfl ?_; conv => whnf)
      | (refine ShlP.mk _ (by first | (simp only [List.set, over, List.take, List.drop, List.append_eq, List.nil_append, List.cons_append, List.length]; rfl) | rfl) ?_; conv => whnf)
      | (refine And.intro (by first | assumption | exact ⟨by kernel_rfl, rfl⟩ | decide | omega | exact ⟨rfl, by decide, by simp only [List.length_map, Nat.zero_add]; omega⟩) ?_; conv => whnf)
      | (refine HpP.force ?_; conv => whnf)
      | (intro t ht; cases t <;> conv => whnf)
    exact fin rfl
end Go.Tz


/-! stab.Entropy. -/
namespace Go.Tz
open Go Go.AL Go.Proofs Go.Ma
variable {G : Nat → Option (List D)}
abbrev intsD (ks : List Int) (u : Bool) : D := .sl (ks.map fun k => [iD k]) u
theorem get_i {ks : List Int} {i : Nat} (h : i < ks.length) : (ks.map fun k => [iD k])[(i : Int).toNat]? = some [iD ks[i]] := by
  rw [Int.toNat_natCast, List.getElem?_map, List.getElem?_eq_getElem h]; rfl
/-- The error of a number in a list of wires. -/
def entA (w : Int) (ks : List Int) (i : Nat) : Int := match ks[i]? with
  | some k => if k < 0 ∨ k ≥ w then 1 else if k ∈ ks.take i then 5 else 0
  | none => 0
def entE (w : Int) (ks : List Int) : Int := match (List.range ks.length).find? (fun i => decide (entA w ks i ≠ 0)) with
  | some i => entA w ks i
  | none => 0
theorem entE_at {w : Int} {ks : List Int} {i : Nat} (h : i < ks.length) (h1 : ∀ j, j < i → entA w ks j = 0) (h2 : entA w ks i ≠ 0) : entE w ks = entA w ks i := by
  have : (List.range ks.length).find? (fun i => decide (entA w ks i ≠ 0)) = some i := by
    rw [List.find?_range_eq_some]
    exact ⟨by simpa using h2, List.mem_range.2 h, fun j hj => by simp [h1 j hj]⟩
  unfold entE; rw [this]
theorem entE_none {w : Int} {ks : List Int} (h1 : ∀ j, j < ks.length → entA w ks j = 0) : entE w ks = 0 := by
  have : (List.range ks.length).find? (fun i => decide (entA w ks i ≠ 0)) = none := List.find?_eq_none.2 fun j hj => by simp [h1 j (List.mem_range.1 hj)]
  unfold entE; rw [this]
def maskN (ks : List Int) : Nat := ks.foldl (fun m k => m ||| 2 ^ k.toNat) 0
theorem mask_snoc {ks : List Int} {i : Nat} (h : i < ks.length) : maskN (ks.take (i + 1)) = maskN (ks.take i) ||| 2 ^ (ks[i]).toNat := by
  unfold maskN
  rw [take_snoc h, List.foldl_append]; rfl
theorem mask_bit (j : Nat) : ∀ ks : List Int, (maskN ks).testBit j = ks.any fun k => decide (k.toNat = j) := by
  have key : ∀ (ks : List Int) (m : Nat), (ks.foldl (fun m k => m ||| 2 ^ k.toNat) m).testBit j = (m.testBit j || ks.any fun k => decide (k.toNat = j)) := by
    intro ks
    induction ks with
    | nil => intro m; simp
    | cons k ks ih =>
      intro m
      rw [List.foldl_cons, ih, Nat.testBit_or, Nat.testBit_two_pow, List.any_cons]
      cases m.testBit j <;> cases decide (k.toNat = j) <;> simp
  intro ks
  unfold maskN
  rw [key, Nat.zero_testBit, Bool.false_or]
theorem mask_lt {w : Nat} {ks : List Int} (h : ∀ k, k ∈ ks → 0 ≤ k ∧ k < w) : maskN ks < 2 ^ w := by
  refine Nat.lt_pow_two_of_testBit _ fun j hj => ?_
  rw [mask_bit]
  refine List.any_eq_false.2 fun k hk => ?_
  have := h k hk
  simp; omega
theorem entA_ok {w : Int} {ks : List Int} {i : Nat} (h : i < ks.length) (h0 : entA w ks i = 0) : 0 ≤ ks[i] ∧ ks[i] < w ∧ ks[i] ∉ ks.take i := by
  unfold entA at h0
  rw [List.getElem?_eq_getElem h] at h0
  dsimp only at h0
  split at h0
  · cases h0
  · split at h0
    · cases h0
    · rename_i h1 h2
      exact ⟨by omega, by omega, h2⟩
/-- What strings have on some wires. -/
def maskL (l : List Ps) (m : Nat) : List Rn := l.map fun q => (q.x.toNat &&& m, q.z.toNat &&& m)
theorem pc_lend1 {f : FuncId} {v1 : AV} {d1 d : D} {H : AHeap} {nx : Nat} {k : AV → AHeap → Nat → Prop} (h : PC Pr G f [d1] d) (h1 : AsD H v1 d1) (hf : d.flat = true) (hk : k (.d d) H nx) : CallVC Pr G f [v1] H nx k := by
  refine pc_lend h rfl (fun i v d a1 a2 => ?_) hf hk
  match i, a1, a2 with
  | 0, a1, a2 => simp at a1 a2; subst a1 a2; exact h1
  | i + 1, a1, _ => simp at a1
theorem chk34 : chkFn Tryz.f34 = true := by kernel_rfl
def entD (w : Int) (l : List Ps) (ks : List Int) : D := if chkS w l ≠ 0 then .tup [iD 0, iD (chkS w l)] else if entE w ks ≠ 0 then .tup [iD 0, iD (entE w ks)] else .tup [iD (isub .i64 (rkSt (maskL l (maskN ks)) l.length).2.length ks.length), iD 0]
theorem entropy34 (w : Int) (l : List Ps) (t : Bool) (ks : List Int) (u : Bool) (hn : l.length ≤ 1000) (hk : ks.length ≤ 1000) : PC Pr GG 34 [stD w l t, intsD ks u] (entD w l ks) := by
  have hc := check36 w l t hn
  have hok := chk_ok (w := w) (l := l)
  unfold entD
  by_cases h : chkS w l = 0
  · obtain ⟨W, rfl, hs⟩ := hok h
    rw [h] at hc
    rw [if_neg (by rw [h]; simp)]
    have hlo := hs.lo
    have hhi := hs.hi
    refine pc_walk pok Tryz.func34 chk34 ?_
    conv => whnf
    repeat' first
      | (refine LookP.mk _ rfl ?_; conv => whnf)
      | (refine ShlP.mk _ (by first | (simp only [List.set, over, List.take, List.drop, List.append_eq, List.nil_append, List.cons_append, List.length]; rfl) | rfl) ?_; conv => whnf)
      | (refine And.intro (by first | assumption | exact ⟨by kernel_rfl, rfl⟩ | decide | omega | exact ⟨rfl, by decide, by simp only [List.length_map, Nat.zero_add]; omega⟩) ?_; conv => whnf)
      | (refine pc_use (hc) ?_; conv => whnf)
      | (refine pc_head (hc) ?_; conv => whnf)
      | (refine HpP.force ?_; conv => whnf)
      | (intro t ht; cases t <;> conv => whnf)
    rotate_left
    · exact absurd ht (by decide)
    refine for_use pok (fun i => ⟨[(1, .d (intsD ks u)), (2, .ptr 0 2 0 0), (7, .d (iD (maskN (ks.take i) : Nat))), (18, .d (intsD ks u)), (19, .d (iD (ks.map fun k => [iD k]).length)), (20, .d (iD i))], [(0, some (.arr 2 [[.d (iD W), .d (rowsD l t)]]))], 1⟩) (ks.length) (fun i => ∀ j, j < i → entA W ks j = 0) (by omega) ?_ (by kernel_rfl) ?_ ?_
    · refine keep_env (by first | exact Nat.zero_le _ | exact Nat.le_of_ble_eq_true rfl) ?_ ?_ trivial
      · repeat' first
          | exact trivial
          | refine ⟨⟨by first | rfl | assumption, rfl⟩, ?_⟩
      · repeat' first
          | exact trivial
          | refine ⟨⟨ltB rfl, _, rfl, by first | rfl | assumption, by first | exact below1 rfl | exact below_dblk _ _ _ | exact below_arr rfl⟩, ?_⟩
    · intro i A_i h_i I_i N_i
      have e_i : iadd .i64 (i : Int) 1 = ((i + 1 : Nat) : Int) := iadd_nat (by first | omega | (simp at *; omega))
      have hml : maskN (ks.take i) < 2 ^ W := mask_lt fun k hk => by
        obtain ⟨j, hj, rfl⟩ := List.mem_take_iff_getElem.1 hk
        have := entA_ok (by omega) (I_i j (by omega))
        exact ⟨this.1, this.2.1⟩
      have hp : (2 : Nat) ^ W ≤ 2 ^ 12 := Nat.pow_le_pow_right (by decide) hhi
      have hms := mask_snoc h_i
      have hEA : entA W ks i = if ks[i] < 0 ∨ ks[i] ≥ W then 1 else if ks[i] ∈ ks.take i then 5 else 0 := by
        unfold entA; rw [List.getElem?_eq_getElem h_i]
      have hat := entE_at h_i I_i
      have hmem : 0 ≤ ks[i] → (maskN (ks.take i)).testBit (ks[i]).toNat = decide (ks[i] ∈ ks.take i) := by
        intro h0
        rw [mask_bit, Bool.eq_iff_iff, List.any_eq_true, decide_eq_true_eq]
        constructor
        · rintro ⟨k, hk, he⟩
          have he := of_decide_eq_true he
          obtain ⟨j, hj, rfl⟩ := List.mem_take_iff_getElem.1 hk
          have := (entA_ok (by omega) (I_i j (by omega))).1
          rw [show ks[i] = ks[j] by omega]; exact hk
        · intro hk; exact ⟨_, hk, by simp⟩
      have hnn : entA W ks i = 0 → ∀ j, j < i + 1 → entA W ks j = 0 := by
        intro h j hj
        rcases Nat.lt_or_ge j i with q | q
        · exact I_i j q
        · rw [show j = i by omega]; exact h
      generalize maskN (ks.take i) = m at hml hms hmem ⊢
      have hgi := get_i h_i
      generalize ks[i] = v at hms hEA hat hmem hgi
      conv => whnf
      repeat (refine LookP.mk _ rfl ?_; conv => whnf)
      intro t ht
      cases t
      · exfalso; first | (simp at ht; done) | (simp at ht; omega)
      conv => whnf
      repeat' first
        | (refine LookP.mk _ (by first | rfl | exact hgi) ?_; conv => whnf)
        | (refine ShlP.mk _ (by first | (simp only [List.set, over, List.take, List.drop, List.append_eq, List.nil_append, List.cons_append, List.length]; rfl) | rfl) ?_; conv => whnf)
        | (refine And.intro (by first | (simp at *; omega) | assumption | exact ⟨by kernel_rfl, rfl⟩ | decide | omega | exact ⟨rfl, by decide, by simp only [List.length_map, Nat.zero_add]; omega⟩) ?_; conv => whnf)
        | (refine HpP.force ?_; conv => whnf)
        | (intro t ht; cases t <;> conv => whnf)
      · have hv0 : 0 ≤ v ∧ v < W := by simp at *; omega
        obtain ⟨V, rfl⟩ : ∃ V : Nat, v = V := ⟨v.toNat, by omega⟩
        have hm2 := hmem hv0.1
        rw [Int.toNat_natCast] at hm2 hms
        rw [bit_nat (by omega) (by omega), hm2] at ht
        have hni : ¬ ((V : Int) ∈ ks.take i) := by
          intro hc
          rw [decide_eq_true hc] at ht; simp at ht
        have hz : entA W ks i = 0 := by rw [hEA, if_neg (by omega), if_neg hni]
        have hp2 : (2 : Nat) ^ V < 2 ^ 13 := Nat.pow_lt_pow_right (by decide) (by omega)
        have hor : ior .i64 (m : Int) (ishl .i64 1 (V : Int)) = ((maskN (ks.take (i + 1)) : Nat) : Int) := by
          rw [hms, pow_nat (by omega), ior_nat (by omega) (by omega)]
        refine N_i _ ?_ ?_
        · exact hnn hz
        · refine keep_env (by first | exact Nat.zero_le _ | exact Nat.le_of_ble_eq_true rfl) ?_ ?_ trivial
          · repeat' first
              | exact trivial
              | refine ⟨⟨by first | rfl | assumption | exact congrArg (fun n => AV.d (iD n)) e_i | exact congrArg (fun n => AV.d (iD n)) hor, rfl⟩, ?_⟩
          · repeat' first
              | exact trivial
              | refine ⟨⟨ltB rfl, _, rfl, by first | rfl | assumption, by first | exact below1 rfl | exact below_dblk _ _ _ | exact below_arr rfl⟩, ?_⟩
      · have hv0 : 0 ≤ v ∧ v < W := by simp at *; omega
        obtain ⟨V, rfl⟩ : ∃ V : Nat, v = V := ⟨v.toNat, by omega⟩
        have hm2 := hmem hv0.1
        rw [Int.toNat_natCast] at hm2
        rw [bit_nat (by omega) (by omega), hm2] at ht
        have hni : (V : Int) ∈ ks.take i := by
          refine Classical.byContradiction fun hc => ?_
          rw [decide_eq_false hc] at ht; simp at ht
        have hz : entA W ks i = 5 := by rw [hEA, if_neg (by omega), if_pos hni]
        rw [if_pos (by rw [hat (by rw [hz]; decide), hz]; decide), hat (by rw [hz]; decide), hz]
        exact fin rfl
      · have hz : entA W ks i = 1 := by rw [hEA, if_pos (by simp at ht; omega)]
        rw [if_pos (by rw [hat (by rw [hz]; decide), hz]; decide), hat (by rw [hz]; decide), hz]
        exact fin rfl
      · have hz : entA W ks i = 1 := by rw [hEA, if_pos (by simp at ht; omega)]
        rw [if_pos (by rw [hat (by rw [hz]; decide), hz]; decide), hat (by rw [hz]; decide), hz]
        exact fin rfl
    · intro A_last I_last
      have hml : maskN ks < 2 ^ W := mask_lt fun k hk => by
        obtain ⟨j, hj, rfl⟩ := List.getElem_of_mem hk
        have := entA_ok hj (I_last j hj)
        exact ⟨this.1, this.2.1⟩
      have hp : (2 : Nat) ^ W ≤ 2 ^ 12 := Nat.pow_le_pow_right (by decide) hhi
      rw [if_neg (by rw [entE_none I_last]; simp)]
      rw [List.take_length]
      generalize maskN ks = m at hml ⊢
      have hrk := rank109 (G := GG) (maskL l m) false (by rw [maskL, List.length_map]; omega) (by
        intro r hr
        obtain ⟨q, _, rfl⟩ := List.mem_map.1 hr
        exact ⟨Nat.lt_of_le_of_lt Nat.and_le_right (by omega), Nat.lt_of_le_of_lt Nat.and_le_right (by omega)⟩)
      have hmll : (maskL l m).length = l.length := by rw [maskL, List.length_map]
      rw [hmll] at hrk
      conv => whnf
      repeat (refine LookP.mk _ rfl ?_; conv => whnf)
      intro t ht
      cases t
      rotate_left
      · exfalso; first | (simp at ht; done) | (simp at ht; omega)
      conv => whnf
      repeat' first
        | (refine LookP.mk _ rfl ?_; conv => whnf)
        | (refine ShlP.mk _ (by first | (simp only [List.set, over, List.take, List.drop, List.append_eq, List.nil_append, List.cons_append, List.length]; rfl) | rfl) ?_; conv => whnf)
        | (refine And.intro (by first | assumption | exact ⟨by kernel_rfl, rfl⟩ | decide | omega | exact ⟨rfl, by decide, by simp only [List.length_map, Nat.zero_add]; omega⟩) ?_; conv => whnf)
        | (refine HpP.force ?_; conv => whnf)
        | (intro t ht; cases t <;> conv => whnf)
      refine for_use pok (fun i => ⟨[(1, .d (intsD ks u)), (7, .d (iD m)), (10, .sl 1 2 0 i i false), (45, .d (rowsD l t)), (46, .d (iD (l.map Ps.l).length)), (47, .d (iD i))], [(1, some (dblk 2 (((maskL l m).take i).map Rn.l)))], 2⟩) (l.length) (fun _ => True) (trivial) ?_ (by kernel_rfl) ?_ ?_
      · refine Sub.trans (sub_nil (t := 10) (S := 2) (Nat.zero_le _) rfl) ?_
        refine keep_env (by first | exact Nat.zero_le _ | exact Nat.le_of_ble_eq_true rfl) ?_ ?_ trivial
        · repeat' first
            | exact trivial
            | refine ⟨⟨by first | rfl | assumption, rfl⟩, ?_⟩
        · repeat' first
            | exact trivial
            | refine ⟨⟨ltB rfl, _, rfl, by first | rfl | assumption, by first | exact below1 rfl | exact below_dblk _ _ _ | exact below_arr rfl⟩, ?_⟩
      · intro i A_i h_i I_i N_i
        have e_i : iadd .i64 (i : Int) 1 = ((i + 1 : Nat) : Int) := iadd_nat (by first | omega | (simp at *; omega))
        have hi2 : i < (maskL l m).length := by omega
        have hsn : ((maskL l m).take (i + 1)).map Rn.l = ((maskL l m).take i).map Rn.l ++ [[iD ((l[i].x.toNat &&& m : Nat)), iD ((l[i].z.toNat &&& m : Nat))]] := by
          rw [take_snoc hi2, List.map_append]
          simp [maskL, Rn.l]
        have hlen : (((maskL l m).take i).map Rn.l).length = i := by rw [List.length_map, List.length_take]; omega
        obtain ⟨X, Z, P, he, g1, g2, g3⟩ := hs.vl _ (List.getElem_mem h_i)
        have hx : iand .i64 l[i].x (m : Int) = ((l[i].x.toNat &&& m : Nat) : Int) := by
          rw [he]; show iand .i64 (X : Int) (m : Int) = (((X : Int).toNat &&& m : Nat) : Int)
          rw [iand_nat (by omega) (by omega), Int.toNat_natCast]
        have hz : iand .i64 l[i].z (m : Int) = ((l[i].z.toNat &&& m : Nat) : Int) := by
          rw [he]; show iand .i64 (Z : Int) (m : Int) = (((Z : Int).toNat &&& m : Nat) : Int)
          rw [iand_nat (by omega) (by omega), Int.toNat_natCast]
        generalize ((maskL l m).take i).map Rn.l = M at hsn hlen
        conv => whnf
        repeat (refine LookP.mk _ rfl ?_; conv => whnf)
        intro t ht
        cases t
        · exfalso; first | (simp at ht; done) | (simp at ht; omega)
        conv => whnf
        repeat' first
          | (refine LookP.mk _ (by first | rfl | exact get_l h_i) ?_; conv => whnf)
          | (refine ShlP.mk _ (by first | (simp only [List.set, over, List.take, List.drop, List.append_eq, List.nil_append, List.cons_append, List.length]; rfl) | rfl) ?_; conv => whnf)
          | (refine And.intro (by first | exact Nat.le_refl _ | exact ⟨by rw [List.length_map]; exact hlen, by decide, by show (2 * (i + 1) + 192) * 16 ≤ 281474976710656; omega⟩ | assumption | exact ⟨by kernel_rfl, rfl⟩ | decide | omega | exact ⟨rfl, by decide, by simp only [List.length_map, Nat.zero_add]; omega⟩) ?_; conv => whnf)
          | (rw [nbeq]; conv => whnf)
          | (rw [hx, hz]; conv => whnf)
          | (refine HpP.force ?_; conv => whnf)
          | (intro t ht; cases t <;> conv => whnf)
        refine N_i _ ?_ ?_
        · first | trivial | assumption | omega
        · first | refine ren_env [(1, 4)] ?_ ?_ ?_ trivial | refine ren_envB [(1, 4)] rfl rfl ?_ ?_ ?_ trivial
          · repeat' first
              | exact trivial
              | refine ⟨⟨by first | rfl | assumption | exact congrArg (fun n => AV.d (iD n)) e_i, rfl⟩, ?_⟩
          · repeat' first
              | exact trivial
              | refine ⟨⟨ltB rfl, _, rfl, by first | rfl | assumption | exact get_ren rfl (by first | rfl | assumption | exact get_ren rfl (by rw [hsn]; exact congrArg some (dblk_snoc rfl))) | exact get_ren rfl (by rw [hsn]; exact congrArg some (dblk_snoc rfl)), by first | exact below1 rfl | exact below_dblk _ _ _ | exact below_arr rfl⟩, ?_⟩
          · repeat' first
              | exact trivial
              | (refine And.intro ?_ ?_)
              | exact fun _ => rfl
              | exact fun h => absurd h (Nat.ne_of_beq_eq_false rfl)
      · intro A_last I_last
        rw [← hmll, List.take_length, hmll]
        conv => whnf
        repeat (refine LookP.mk _ rfl ?_; conv => whnf)
        intro t ht
        cases t
        rotate_left
        · exfalso; first | (simp at ht; done) | (simp at ht; omega)
        conv => whnf
        repeat' first
          | (refine LookP.mk _ rfl ?_; conv => whnf)
          | (refine ShlP.mk _ (by first | (simp only [List.set, over, List.take, List.drop, List.append_eq, List.nil_append, List.cons_append, List.length]; rfl) | rfl) ?_; conv => whnf)
          | (refine And.intro (by first | assumption | exact ⟨by kernel_rfl, rfl⟩ | decide | omega | exact ⟨rfl, by decide, by simp only [List.length_map, Nat.zero_add]; omega⟩) ?_; conv => whnf)
          | (refine pc_lend1 hrk (asD_dblk rfl (by simp [hmll])) rfl ?_; conv => whnf)
          | (refine HpP.force ?_; conv => whnf)
          | (intro t ht; cases t <;> conv => whnf)
        refine fin ?_
        rw [List.length_map]
  · rw [if_pos h]
    generalize chkS w l = e at hc h
    refine pc_walk pok Tryz.func34 chk34 ?_
    conv => whnf
    repeat' first
      | (refine LookP.mk _ rfl ?_; conv => whnf)
      | (refine ShlP.mk _ (by first | (simp only [List.set, over, List.take, List.drop, List.append_eq, List.nil_append, List.cons_append, List.length]; rfl) | rfl) ?_; conv => whnf)
      | (refine And.intro (by first | assumption | exact ⟨by kernel_rfl, rfl⟩ | decide | omega | exact ⟨rfl, by decide, by simp only [List.length_map, Nat.zero_add]; omega⟩) ?_; conv => whnf)
      | (refine pc_use (hc) ?_; conv => whnf)
      | (refine pc_head (hc) ?_; conv => whnf)
      | (refine HpP.force ?_; conv => whnf)
      | (intro t ht; cases t <;> conv => whnf)
    · exact absurd (by simpa using ht) h
    · exact fin rfl
end Go.Tz


/-! ref12.subset. -/
namespace Go.Tz
open Go Go.AL Go.Proofs Go.Ma
variable {G : Nat → Option (List D)}
/-- A string taken apart by reduced rows: what is left, and which strings are taken. -/
def sbStep (wb : Nat → Nat → Bool) (i : Nat) (q : Ps) (s : Ps × (Nat → Bool)) : Ps × (Nat → Bool) := if 0 ≤ leadI q ∧ bitB s.1 (leadI q) = true then (mulS s.1 q, fun j => s.2 j != wb i j) else s
def sbSt (m : List Ps) (wb : Nat → Nat → Bool) (p : Ps) : Nat → Ps × (Nat → Bool)
  | 0 => (p, fun _ => false)
  | i + 1 => sbStep wb i (m.getD i Ps.z0) (sbSt m wb p i)
def boolB (n : Nat) (f : Nat → Bool) : Blk := dblk 1 ((List.range n).map fun j => [.bool (f j)])
def tkL (f : Nat → Bool) (n : Nat) : List Nat := (List.range n).filter f
theorem tkL_snoc (f : Nat → Bool) (i : Nat) : tkL f (i + 1) = if f i = true then tkL f i ++ [i] else tkL f i := by
  unfold tkL
  rw [List.range_succ, List.filter_append]
  by_cases h : f i = true
  · rw [if_pos h]; simp [h]
  · rw [if_neg h]; simp [h]
theorem tkL_le (f : Nat → Bool) (i : Nat) : (tkL f i).length ≤ i := by
  have := List.length_filter_le f (List.range i)
  simpa [tkL] using this
def wdD (n : Nat) (wb : Nat → Nat → Bool) : List (List D) := (List.range n).map fun j => [.sl ((List.range n).map fun q => [.bool (wb j q)]) true]
theorem get_range1 {n i : Nat} {f : Nat → List D} (h : i < n) : ((List.range n).map f)[(i : Int).toNat]? = some (f i) := by simp [h]
theorem sb_vl {w : Nat} (hw : w ≤ 12) {m : List Ps} {wb : Nat → Nat → Bool} {p : Ps} (hm : ∀ q, q ∈ m → Vl w q) (hp : Vl w p) : ∀ {i : Nat}, i ≤ m.length → Vl w (sbSt m wb p i).1
  | 0, _ => hp
  | i + 1, hi => by
    have ih := sb_vl hw (wb := wb) hm hp (i := i) (by omega)
    simp only [sbSt, sbStep]
    split
    · refine mul_vl hw ih ?_
      rw [List.getD_eq_getElem?_getD, List.getElem?_eq_getElem (show i < m.length by omega)]
      exact hm _ (List.getElem_mem _)
    · exact ih
theorem rep_false (n : Nat) : List.replicate n [AV.d (.bool false)] = ((List.range n).map fun _ : Nat => [D.bool false]).map fun el => el.map AV.d := by
  apply List.ext_getElem
  · simp
  · intro i h1 h2; simp
theorem boolB_congr {n : Nat} {f g : Nat → List D} (h : ∀ j, f j = g j) : Blk.arr 1 (((List.range n).map f).map fun el => el.map AV.d) = dblk 1 ((List.range n).map g) := by rw [funext h]; rfl
theorem boolB_eq {n : Nat} {f g : Nat → Bool} (h : ∀ r, r < n → f r = g r) : boolB n f = boolB n g := by
  unfold boolB
  congr 1
  exact List.map_congr_left fun r hr => by rw [h r (List.mem_range.1 hr)]
theorem lead_lt (q : Ps) : leadI q < 2 * q.w.toNat ∨ leadI q = -1 := by
  have key : ∀ f k, leadF q f k < ((k + f : Nat) : Int) ∨ leadF q f k = -1 := by
    intro f
    induction f with
    | zero => intro k; exact .inr rfl
    | succ f ih =>
      intro k
      simp only [leadF]
      split
      · left; omega
      · have := ih (k + 1)
        rw [show k + 1 + f = k + (f + 1) by omega] at this
        exact this
  have := key (2 * q.w.toNat) 0
  unfold leadI
  rw [Nat.zero_add] at this
  push_cast at this
  exact this
theorem chk204 : chkFn Tryz.f204 = true := by kernel_rfl
def subD (n : Nat) (s : Ps × (Nat → Bool)) : D := if s.1.x ≠ 0 ∨ s.1.z ≠ 0 then .tup [.sl [] true, .bool false] else .tup [.sl (numD (tkL s.2 n)) false, .bool true]
theorem subset204 {w : Nat} (hw : 1 ≤ w ∧ w ≤ 12) (l : List Ps) (t : Bool) (p : Ps) (m : List Ps) (wb : Nat → Nat → Bool) (hn : l.length ≤ 1000) (hml : m.length = l.length) (hm : ∀ q, q ∈ m → Vl w q) (hp : Vl w p)
    (hred : PC Pr G 100 [rowsD l t] (.tup [rowsD m false, .sl (wdD l.length wb) false])) : PC Pr G 204 [rowsD l t, p.d] (subD l.length (sbSt m wb p l.length)) := by
  refine pc_freeze (isFn_of Tryz.func204 chk204) (fn_walk pok Tryz.func204 chk204 ?_)
  conv => whnf
  repeat' first
    | (refine LookP.mk _ rfl ?_; conv => whnf)
    | (refine ShlP.mk _ (by first | exact rep_false _ | (simp only [List.set, over, List.take, List.drop, List.append_eq, List.nil_append, List.cons_append, List.length]; rfl) | rfl) ?_; conv => whnf)
    | (refine And.intro (by first | exact ⟨Int.natCast_nonneg _, rfl, by show 1 * (((l.map Ps.l).length : Nat) : Int).toNat ≤ 281474976710656; rw [Int.toNat_natCast, List.length_map]; omega, by decide, by decide⟩ | assumption | exact ⟨by kernel_rfl, rfl⟩ | decide | omega | exact ⟨rfl, by decide, by simp only [List.length_map, Nat.zero_add]; omega⟩) ?_; conv => whnf)
    | (refine pc_use (hred) ?_; conv => whnf)
    | (refine pc_head (hred) ?_; conv => whnf)
    | (refine HpP.force ?_; conv => whnf)
    | (intro t ht; cases t <;> conv => whnf)
  have eN : (((l.map Ps.l).length : Nat) : Int).toNat = l.length := by simp
  refine for_use pok (fun i => ⟨[(0, .d (rowsD l t)), (6, .d (rowsD m false)), (7, .d (.sl (wdD l.length wb) false)), (8, .ptr 1 4 0 0), (9, .sl 2 1 0 l.length l.length true), (10, .d (iD i))], [(1, some (.arr 4 [(sbSt m wb p i).1.l.map AV.d])), (2, some (boolB l.length (sbSt m wb p i).2))], 3⟩) (l.length) (fun _ => True) (trivial) ?_ (by kernel_rfl) ?_ ?_
  · refine keep_env (by first | exact Nat.zero_le _ | exact Nat.le_of_ble_eq_true rfl) ?_ ?_ trivial
    · repeat' first
        | exact trivial
        | refine ⟨⟨by first | rfl | assumption | (show AV.sl 2 1 0 (((l.map Ps.l).length : Nat) : Int).toNat (((l.map Ps.l).length : Nat) : Int).toNat true = _; rw [eN]), rfl⟩, ?_⟩
    · repeat' first
        | exact trivial
        | refine ⟨⟨ltB rfl, _, rfl, by first | rfl | assumption | (show some (Blk.arr 1 (((List.range (((l.map Ps.l).length : Nat) : Int).toNat).map fun _ => [D.bool false]).map fun el => el.map AV.d)) = _; rw [eN]; rfl), by first | exact below1 rfl | exact below_dblk _ _ _ | exact below_arr rfl | exact below_dblk _ _ _⟩, ?_⟩
  · intro i A_i h_i I_i N_i
    have e_i : iadd .i64 (i : Int) 1 = ((i + 1 : Nat) : Int) := iadd_nat (by first | omega | (simp at *; omega))
    have him : i < m.length := by omega
    have hs : sbSt m wb p (i + 1) = sbStep wb i m[i] (sbSt m wb p i) := by
      simp only [sbSt, List.getD_eq_getElem?_getD, List.getElem?_eq_getElem him, Option.getD_some]
    have hqv := hm _ (List.getElem_mem him)
    have hsv := sb_vl hw.2 (wb := wb) hm hp (i := i) (by omega)
    have hqw := vl_w hqv
    have hsw := vl_w hsv
    have hlead := lead190 (G := G) m[i] (by omega)
    have hll := lead_lt m[i]
    have hmul := mulS_c (G := G) (sbSt m wb p i).1 m[i] (by omega) (by omega)
    unfold sbStep at hs
    generalize sbSt m wb p i = s at hs hsv hsw hmul ⊢
    have hgm : (m.map Ps.l)[(i : Int).toNat]? = some (m[i]).l := get_l him
    generalize m[i] = q at hs hqv hqw hlead hll hmul hgm
    by_cases h0 : 0 ≤ leadI q
    · have hbit := bit188 (G := G) s.1 (leadI q) h0 (by omega)
      cases hb : bitB s.1 (leadI q) with
      | false =>
        rw [hb] at hs hbit
        rw [if_neg (by simp)] at hs
        generalize leadI q = k at hlead h0 hbit
        conv => whnf
        repeat (refine LookP.mk _ rfl ?_; conv => whnf)
        intro t ht
        cases t
        · exfalso; first | (simp at ht; done) | (simp at ht; omega)
        conv => whnf
        repeat' first
          | (refine LookP.mk _ (by first | rfl | exact hgm) ?_; conv => whnf)
          | (refine ShlP.mk _ (by first | (simp only [List.set, over, List.take, List.drop, List.append_eq, List.nil_append, List.cons_append, List.length]; rfl) | rfl) ?_; conv => whnf)
          | (refine And.intro (by first | assumption | exact ⟨by kernel_rfl, rfl⟩ | decide | omega | exact ⟨rfl, by decide, by simp only [List.length_map, Nat.zero_add]; omega⟩) ?_; conv => whnf)
          | (refine pc_use (hlead) ?_; conv => whnf)
          | (refine pc_head (hlead) ?_; conv => whnf)
          | (refine pc_use (hbit) ?_; conv => whnf)
          | (refine pc_head (hbit) ?_; conv => whnf)
          | (refine HpP.force ?_; conv => whnf)
          | (intro t ht; cases t <;> conv => whnf)
        · exfalso; simp at ht; omega
        · refine N_i _ ?_ ?_
          · first | trivial | assumption | omega
          · refine keep_env (by first | exact Nat.zero_le _ | exact Nat.le_of_ble_eq_true rfl) ?_ ?_ trivial
            · repeat' first
                | exact trivial
                | refine ⟨⟨by first | rfl | assumption | exact congrArg (fun n => AV.d (iD n)) e_i, rfl⟩, ?_⟩
            · repeat' first
                | exact trivial
                | refine ⟨⟨ltB rfl, _, rfl, by first | rfl | assumption | (rw [hs]; rfl), by first | exact below1 rfl | exact below_dblk _ _ _ | exact below_arr rfl | exact below_dblk _ _ _⟩, ?_⟩
      | true =>
        rw [hb] at hs hbit
        rw [if_pos ⟨h0, rfl⟩] at hs
        generalize leadI q = k at hlead h0 hbit
        generalize mulS s.1 q = g at hs hmul
        conv => whnf
        repeat (refine LookP.mk _ rfl ?_; conv => whnf)
        intro t ht
        cases t
        · exfalso; first | (simp at ht; done) | (simp at ht; omega)
        conv => whnf
        repeat' first
          | (refine LookP.mk _ (by first | rfl | exact hgm) ?_; conv => whnf)
          | (refine ShlP.mk _ (by first | (simp only [List.set, over, List.take, List.drop, List.append_eq, List.nil_append, List.cons_append, List.length]; rfl) | rfl) ?_; conv => whnf)
          | (refine And.intro (by first | assumption | exact ⟨by kernel_rfl, rfl⟩ | decide | omega | exact ⟨rfl, by decide, by simp only [List.length_map, Nat.zero_add]; omega⟩) ?_; conv => whnf)
          | (refine pc_use (hlead) ?_; conv => whnf)
          | (refine pc_head (hlead) ?_; conv => whnf)
          | (refine pc_use (hbit) ?_; conv => whnf)
          | (refine pc_head (hbit) ?_; conv => whnf)
          | (refine pc_use (hmul) ?_; conv => whnf)
          | (refine pc_head (hmul) ?_; conv => whnf)
          | (refine HpP.force ?_; conv => whnf)
          | (intro t ht; cases t <;> conv => whnf)
        · exfalso; simp at ht; omega
        refine for_use pok (fun j => ⟨[(0, .d (rowsD l t)), (6, .d (rowsD m false)), (7, .d (.sl (wdD l.length wb) false)), (8, .ptr 1 4 0 0), (9, .sl 2 1 0 l.length l.length true), (10, .d (iD i)), (12, .d (iD j))], [(1, some (.arr 4 [g.l.map AV.d])), (2, some (boolB l.length fun r => if r < j then s.2 r != wb i r else s.2 r))], 3⟩) (l.length) (fun _ => True) (trivial) ?_ (by kernel_rfl) ?_ ?_
        · refine keep_env (by first | exact Nat.zero_le _ | exact Nat.le_of_ble_eq_true rfl) ?_ ?_ trivial
          · repeat' first
              | exact trivial
              | refine ⟨⟨by first | rfl | assumption, rfl⟩, ?_⟩
          · repeat' first
              | exact trivial
              | refine ⟨⟨ltB rfl, _, rfl, by first | rfl | assumption | (show some (boolB l.length s.2) = some (boolB l.length fun r => if r < 0 then s.2 r != wb i r else s.2 r); simp), by first | exact below1 rfl | exact below_dblk _ _ _ | exact below_arr rfl | exact below_dblk _ _ _⟩, ?_⟩
        · intro j A_j h_j I_j N_j
          have e_j : iadd .i64 (j : Int) 1 = ((j + 1 : Nat) : Int) := iadd_nat (by first | omega | (simp at *; omega))
          have hg1 : (fun r : Nat => [D.bool (if r < j then s.2 r != wb i r else s.2 r)]) j = [.bool (s.2 j)] := by simp
          conv => whnf
          repeat (refine LookP.mk _ rfl ?_; conv => whnf)
          intro t ht
          cases t
          · exfalso; first | (simp at ht; done) | (simp at ht; omega)
          conv => whnf
          repeat' first
            | (refine LookP.mk _ (by first | rfl | exact get_range1 h_i | exact get_range1 h_j | exact get_rwE h_j hg1) ?_; conv => whnf)
            | (refine ShlP.mk _ (by first | exact set_rw (x := [_]) h_j | (simp only [List.set, over, List.take, List.drop, List.append_eq, List.nil_append, List.cons_append, List.length]; rfl) | rfl) ?_; conv => whnf)
            | (refine And.intro (by first | exact ⟨Int.natCast_nonneg _, by omega⟩ | assumption | exact ⟨by kernel_rfl, rfl⟩ | decide | omega | exact ⟨rfl, by decide, by simp only [List.length_map, Nat.zero_add]; omega⟩) ?_; conv => whnf)
            | (refine HpP.force ?_; conv => whnf)
            | (intro t ht; cases t <;> conv => whnf)
          have hst : ∀ r, (if r = j then [D.bool (!(s.2 j == wb i j))] else [D.bool (if r < j then s.2 r != wb i r else s.2 r)]) = [D.bool (if r < j + 1 then s.2 r != wb i r else s.2 r)] := by
            intro r
            by_cases e : r = j
            · subst e; rw [if_pos rfl, if_pos (Nat.lt_succ_self _)]; rfl
            · rw [if_neg e]
              have : (r < j + 1) ↔ (r < j) := by omega
              simp only [this]
          refine N_j _ ?_ ?_
          · first | trivial | assumption | omega
          · refine keep_env (by first | exact Nat.zero_le _ | exact Nat.le_of_ble_eq_true rfl) ?_ ?_ trivial
            · repeat' first
                | exact trivial
                | refine ⟨⟨by first | rfl | assumption | exact congrArg (fun n => AV.d (iD n)) e_j, rfl⟩, ?_⟩
            · repeat' first
                | exact trivial
                | refine ⟨⟨ltB rfl, _, rfl, by first | rfl | assumption | exact congrArg some (boolB_congr hst), by first | exact below1 rfl | exact below_dblk _ _ _ | exact below_arr rfl | exact below_dblk _ _ _⟩, ?_⟩
        · intro A_last I_last
          conv => whnf
          repeat (refine LookP.mk _ rfl ?_; conv => whnf)
          intro t ht
          cases t
          rotate_left
          · exfalso; first | (simp at ht; done) | (simp at ht; omega)
          conv => whnf
          repeat' first
            | (refine LookP.mk _ rfl ?_; conv => whnf)
            | (refine ShlP.mk _ (by first | (simp only [List.set, over, List.take, List.drop, List.append_eq, List.nil_append, List.cons_append, List.length]; rfl) | rfl) ?_; conv => whnf)
            | (refine And.intro (by first | assumption | exact ⟨by kernel_rfl, rfl⟩ | decide | omega | exact ⟨rfl, by decide, by simp only [List.length_map, Nat.zero_add]; omega⟩) ?_; conv => whnf)
            | (refine HpP.force ?_; conv => whnf)
            | (intro t ht; cases t <;> conv => whnf)
          have hbb := boolB_eq (n := l.length) (f := fun r => if r < l.length then s.2 r != wb i r else s.2 r) (g := fun r => s.2 r != wb i r) (fun r hr => by rw [if_pos hr])
          refine N_i _ ?_ ?_
          · first | trivial | assumption | omega
          · refine keep_env (by first | exact Nat.zero_le _ | exact Nat.le_of_ble_eq_true rfl) ?_ ?_ trivial
            · repeat' first
                | exact trivial
                | refine ⟨⟨by first | rfl | assumption | exact congrArg (fun n => AV.d (iD n)) e_i, rfl⟩, ?_⟩
            · repeat' first
                | exact trivial
                | refine ⟨⟨ltB rfl, _, rfl, by first | rfl | assumption | (rw [hs]; rfl) | (rw [hs]; exact congrArg some hbb), by first | exact below1 rfl | exact below_dblk _ _ _ | exact below_arr rfl | exact below_dblk _ _ _⟩, ?_⟩
    · have hb : ¬ (0 ≤ leadI q ∧ bitB s.1 (leadI q) = true) := fun h => h0 h.1
      rw [if_neg hb] at hs
      generalize leadI q = k at hlead h0
      conv => whnf
      repeat (refine LookP.mk _ rfl ?_; conv => whnf)
      intro t ht
      cases t
      · exfalso; first | (simp at ht; done) | (simp at ht; omega)
      conv => whnf
      repeat' first
        | (refine LookP.mk _ (by first | rfl | exact hgm) ?_; conv => whnf)
        | (refine ShlP.mk _ (by first | (simp only [List.set, over, List.take, List.drop, List.append_eq, List.nil_append, List.cons_append, List.length]; rfl) | rfl) ?_; conv => whnf)
        | (refine And.intro (by first | assumption | exact ⟨by kernel_rfl, rfl⟩ | decide | omega | exact ⟨rfl, by decide, by simp only [List.length_map, Nat.zero_add]; omega⟩) ?_; conv => whnf)
        | (refine pc_use (hlead) ?_; conv => whnf)
        | (refine pc_head (hlead) ?_; conv => whnf)
        | (refine HpP.force ?_; conv => whnf)
        | (intro t ht; cases t <;> conv => whnf)
      · refine N_i _ ?_ ?_
        · first | trivial | assumption | omega
        · refine keep_env (by first | exact Nat.zero_le _ | exact Nat.le_of_ble_eq_true rfl) ?_ ?_ trivial
          · repeat' first
              | exact trivial
              | refine ⟨⟨by first | rfl | assumption | exact congrArg (fun n => AV.d (iD n)) e_i, rfl⟩, ?_⟩
          · repeat' first
              | exact trivial
              | refine ⟨⟨ltB rfl, _, rfl, by first | rfl | assumption | (rw [hs]; rfl), by first | exact below1 rfl | exact below_dblk _ _ _ | exact below_arr rfl | exact below_dblk _ _ _⟩, ?_⟩
      · exfalso; simp at ht; omega
  · intro A_last I_last
    have hsv := sb_vl hw.2 (wb := wb) hm hp (i := l.length) (by omega)
    generalize sbSt m wb p l.length = s at hsv ⊢
    unfold subD
    conv => whnf
    repeat (refine LookP.mk _ rfl ?_; conv => whnf)
    intro t ht
    cases t
    rotate_left
    · exfalso; first | (simp at ht; done) | (simp at ht; omega)
    conv => whnf
    repeat' first
      | (refine LookP.mk _ rfl ?_; conv => whnf)
      | (refine ShlP.mk _ (by first | (simp only [List.set, over, List.take, List.drop, List.append_eq, List.nil_append, List.cons_append, List.length]; rfl) | rfl) ?_; conv => whnf)
      | (refine And.intro (by first | assumption | exact ⟨by kernel_rfl, rfl⟩ | decide | omega | exact ⟨rfl, by decide, by simp only [List.length_map, Nat.zero_add]; omega⟩) ?_; conv => whnf)
      | (refine HpP.force ?_; conv => whnf)
      | (intro t ht; cases t <;> conv => whnf)
    rotate_left
    · have hz : s.1.x ≠ 0 ∨ s.1.z ≠ 0 := .inr (by simpa using ht)
      rw [if_pos hz]
      exact fin (.d _)
    · have hz : s.1.x ≠ 0 ∨ s.1.z ≠ 0 := .inl (by simpa using ht)
      rw [if_pos hz]
      exact fin (.d _)
    have hz : ¬ (s.1.x ≠ 0 ∨ s.1.z ≠ 0) := by
      rintro (h | h)
      · simp_all
      · simp_all
    rw [if_neg hz]
    refine for_use pok (fun i => ⟨[(0, .d (rowsD l t)), (9, .sl 2 1 0 l.length l.length true), (13, .sl 3 1 0 (tkL s.2 i).length (tkL s.2 i).length false), (14, .d (iD i))], [(2, some (boolB l.length s.2)), (3, some (dblk 1 (numD (tkL s.2 i))))], 4⟩) (l.length) (fun _ => True) (trivial) ?_ (by kernel_rfl) ?_ ?_
    · refine Sub.trans (sub_nil (t := 13) (S := 1) (Nat.zero_le _) rfl) ?_
      first | refine ren_env [(3, 3)] ?_ ?_ ?_ trivial | refine ren_envB [(3, 3)] rfl rfl ?_ ?_ ?_ trivial
      · repeat' first
          | exact trivial
          | refine ⟨⟨by first | rfl | assumption, rfl⟩, ?_⟩
      · repeat' first
          | exact trivial
          | refine ⟨⟨ltB rfl, _, rfl, by first | rfl | assumption | exact get_ren rfl (by first | rfl | assumption), by first | exact below1 rfl | exact below_dblk _ _ _ | exact below_arr rfl | exact below_dblk _ _ _⟩, ?_⟩
      · repeat' first
          | exact trivial
          | (refine And.intro ?_ ?_)
          | exact fun _ => rfl
          | exact fun h => absurd h (Nat.ne_of_beq_eq_false rfl)
    · intro i A_i h_i I_i N_i
      have e_i : iadd .i64 (i : Int) 1 = ((i + 1 : Nat) : Int) := iadd_nat (by first | omega | (simp at *; omega))
      have hs := tkL_snoc s.2 i
      have hle := tkL_le s.2 i
      have hg1 : (fun r : Nat => [D.bool (s.2 r)]) i = [.bool (s.2 i)] := rfl
      generalize tkL s.2 i = A at hs hle
      cases hb : s.2 i with
      | false =>
        rw [hb] at hs hg1
        rw [if_neg (by simp)] at hs
        conv => whnf
        repeat (refine LookP.mk _ rfl ?_; conv => whnf)
        intro t ht
        cases t
        · exfalso; first | (simp at ht; done) | (simp at ht; omega)
        conv => whnf
        repeat' first
          | (refine LookP.mk _ (by first | rfl | exact get_rwE h_i hg1) ?_; conv => whnf)
          | (refine ShlP.mk _ (by first | (simp only [List.set, over, List.take, List.drop, List.append_eq, List.nil_append, List.cons_append, List.length]; rfl) | rfl) ?_; conv => whnf)
          | (refine And.intro (by first | exact ⟨Int.natCast_nonneg _, by omega⟩ | assumption | exact ⟨by kernel_rfl, rfl⟩ | decide | omega | exact ⟨rfl, by decide, by simp only [List.length_map, Nat.zero_add]; omega⟩) ?_; conv => whnf)
          | (refine HpP.force ?_; conv => whnf)
          | (intro t ht; cases t <;> conv => whnf)
        refine N_i _ ?_ ?_
        · first | trivial | assumption | omega
        · refine keep_env (by first | exact Nat.zero_le _ | exact Nat.le_of_ble_eq_true rfl) ?_ ?_ trivial
          · repeat' first
              | exact trivial
              | refine ⟨⟨by first | rfl | assumption | exact congrArg (fun n => AV.d (iD n)) e_i | (rw [hs]; rfl), rfl⟩, ?_⟩
          · repeat' first
              | exact trivial
              | refine ⟨⟨ltB rfl, _, rfl, by first | rfl | assumption | (rw [hs]; rfl), by first | exact below1 rfl | exact below_dblk _ _ _ | exact below_arr rfl | exact below_dblk _ _ _⟩, ?_⟩
      | true =>
        rw [hb] at hs hg1
        rw [if_pos rfl] at hs
        have hsn : numD (tkL s.2 (i + 1)) = numD A ++ [[iD i]] := by rw [hs]; simp [numD]
        have hnl : (numD A).length = A.length := by simp [numD]
        generalize numD A = M at hsn hnl
        conv => whnf
        repeat (refine LookP.mk _ rfl ?_; conv => whnf)
        intro t ht
        cases t
        · exfalso; first | (simp at ht; done) | (simp at ht; omega)
        conv => whnf
        repeat' first
          | (refine LookP.mk _ (by first | rfl | exact get_rwE h_i hg1) ?_; conv => whnf)
          | (refine ShlP.mk _ (by first | (simp only [List.set, over, List.take, List.drop, List.append_eq, List.nil_append, List.cons_append, List.length]; rfl) | rfl) ?_; conv => whnf)
          | (refine And.intro (by first | exact ⟨Int.natCast_nonneg _, by omega⟩ | exact Nat.le_refl _ | exact ⟨by rw [List.length_map]; exact hnl, by decide, by show (2 * (A.length + 1) + 192) * 8 ≤ 281474976710656; omega⟩ | assumption | exact ⟨by kernel_rfl, rfl⟩ | decide | omega | exact ⟨rfl, by decide, by simp only [List.length_map, Nat.zero_add]; omega⟩) ?_; conv => whnf)
          | (rw [nbeq]; conv => whnf)
          | (refine HpP.force ?_; conv => whnf)
          | (intro t ht; cases t <;> conv => whnf)
        refine N_i _ ?_ ?_
        · first | trivial | assumption | omega
        · first | refine ren_env [(3, 5)] ?_ ?_ ?_ trivial | refine ren_envB [(3, 5)] rfl rfl ?_ ?_ ?_ trivial
          · repeat' first
              | exact trivial
              | refine ⟨⟨by first | rfl | assumption | exact congrArg (fun n => AV.d (iD n)) e_i | (rw [hs, List.length_append]; rfl), rfl⟩, ?_⟩
          · repeat' first
              | exact trivial
              | refine ⟨⟨ltB rfl, _, rfl, by first | rfl | assumption | exact get_ren rfl (by first | rfl | assumption | exact get_ren rfl (by rw [hsn]; exact congrArg some (dblk_snoc rfl))) | exact get_ren rfl (by rw [hsn]; exact congrArg some (dblk_snoc rfl)), by first | exact below1 rfl | exact below_dblk _ _ _ | exact below_arr rfl | exact below_dblk _ _ _⟩, ?_⟩
          · repeat' first
              | exact trivial
              | (refine And.intro ?_ ?_)
              | exact fun _ => rfl
              | exact fun h => absurd h (Nat.ne_of_beq_eq_false rfl)
    · intro A_last I_last
      conv => whnf
      repeat (refine LookP.mk _ rfl ?_; conv => whnf)
      intro t ht
      cases t
      rotate_left
      · exfalso; first | (simp at ht; done) | (simp at ht; omega)
      conv => whnf
      repeat' first
        | (refine LookP.mk _ rfl ?_; conv => whnf)
        | (refine ShlP.mk _ (by first | (simp only [List.set, over, List.take, List.drop, List.append_eq, List.nil_append, List.cons_append, List.length]; rfl) | rfl) ?_; conv => whnf)
        | (refine And.intro (by first | assumption | exact ⟨by kernel_rfl, rfl⟩ | decide | omega | exact ⟨rfl, by decide, by simp only [List.length_map, Nat.zero_add]; omega⟩) ?_; conv => whnf)
        | (refine HpP.force ?_; conv => whnf)
        | (intro t ht; cases t <;> conv => whnf)
      refine fin (asD_tup2 (asD_dblk rfl (by simp [numD])) (.d _))
end Go.Tz

