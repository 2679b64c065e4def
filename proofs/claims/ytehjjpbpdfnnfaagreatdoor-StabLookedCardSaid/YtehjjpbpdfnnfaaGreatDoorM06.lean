import Derived.Test.YtehjjpbpdfnnfaaGreatDoorM05
namespace Go.Tz
open Go Go.AL Go.Proofs Go.Ma
variable {G : Nat → Option (List D)}
theorem pck_pchk (q : Ps) : pckI q = pchkI q := by
 unfold pckI pchkI offB
 have d0 : (decide (q.w < 1) || decide (q.w > 12)) = decide (q.w < 1 ∨ q.w > 12) := by
  rw [Bool.eq_iff_iff]; simp
 rw [d0]
 simp only [decide_eq_true_eq]
 by_cases h1 : q.w < 1 ∨ q.w > 12
 ·rw [if_pos h1, if_pos h1]
 ·rw [if_neg h1, if_neg h1]
  obtain ⟨w, hw⟩ : ∃ w : Nat, q.w = w := ⟨q.w.toNat, by omega⟩
  have hw12 : 1 ≤ w ∧ w ≤ 12 := by omega
  rw [hw, pow_nat (by omega)]
  have hp : (2 : Nat) ^ w ≤ 2 ^ 12 := Nat.pow_le_pow_right (by decide) hw12.2
  have hp0 : 0 < (2 : Nat) ^ w := Nat.two_pow_pos w
  have e : isub .i64 ((2 ^ w : Nat) : Int) 1 = ((2 ^ w - 1 : Nat) : Int) := isub_nat (b := 1) (by omega) (by omega)
  rw [e]
  generalize 2 ^ w = p at hp hp0
  have e1 : (decide (q.x < 0) || decide (q.x > ((p - 1 : Nat) : Int)) || (decide (q.z < 0) || decide (q.z > ((p - 1 : Nat) : Int)))) = decide (q.x < 0 ∨ q.z < 0 ∨ q.x ≥ (p : Int) ∨ q.z ≥ (p : Int)) := by
   rw [Bool.eq_iff_iff]; simp; omega
  have e2 : (decide (q.p < 0) || decide (q.p > 3)) = decide (q.p < 0 ∨ q.p > 3) := by
   rw [Bool.eq_iff_iff]; simp
  rw [e1, e2]
  simp only [decide_eq_true_eq]
theorem vl_of {w : Nat} {q : Ps} (h : pchkI q = 0) (hw : q.w = w) : Vl w q := by
 rw [← pck_pchk] at h
 unfold pckI at h
 split at h
 ·cases h
 rename_i h1
 split at h
 ·cases h
 rename_i h2
 split at h
 ·cases h
 rename_i h3
 rw [hw] at h1 h2
 rw [pow_nat (by omega)] at h2
 refine ⟨q.x.toNat, q.z.toNat, q.p.toNat, ?_, by omega, by omega, by omega⟩
 obtain ⟨a, b, c, d⟩ := q
 simp only at hw h2 h3
 subst hw
 unfold mk
 simp only [Ps.mk.injEq, true_and]
 omega
theorem any_congr {α : Type} {p q : α → Bool} : ∀ {l : List α}, (∀ a, a ∈ l → p a = q a) → l.any p = l.any q
 | [], _ => rfl
 | a :: l, h => by
  rw [List.any_cons, List.any_cons, h a (by simp), any_congr fun b hb => h b (List.mem_cons_of_mem _ hb)]
theorem chk114 : chkFn Tryz.f114 = true := by kernel_rfl
theorem with114 {w : Nat} (hw : 1 ≤ w ∧ w ≤ 12) {q r : Ps} (hq : Vl w q) (hr : Vl w r) : PC Pr G 114 [.agg q.l, r.d] (.bool (comV q r)) := by
 have hc := commute68v (G := G) hw hq hr
 refine pc_walk pok Tryz.func114 chk114 ?_
 conv => whnf
 repeat' first | ((first | refine LookP.mk _ rfl ?_ | refine pc_use hc ?_); conv => whnf)
 exact fin rfl
theorem chk113 : chkFn Tryz.f113 = true := by kernel_rfl
theorem wire113 (q : Ps) (w : Int) (l : List Ps) (t : Bool) : PC Pr G 113 [q.d, .rop [iD w, rowsD l t] 0] (.bool (decide (q.w = w))) := by
 refine pc_walk pok Tryz.func113 chk113 ?_
 conv => whnf
 repeat' first | (refine LookP.mk _ rfl ?_; conv => whnf) | (intro t ht; cases t <;> conv => whnf)
 all_goals
  refine fin ?_
  have e : (q.w == w) = decide (q.w = w) := by rw [Bool.eq_iff_iff]; simp
  rw [← e, ht]
theorem use_rows {f : FuncId} {m : List Ps} {x : List (List D)} {t0 : Bool} {d2 : D} {b : Bool} {H : AHeap} {nx : Nat} {k : AV → AHeap → Nat → Prop} (h : ∀ t', PC Pr G f [rowsD m t', d2] (.bool b)) (e : x = m.map Ps.l) (hk : ∀ t, b = t → k (.d (.bool t)) H nx) : CallVC Pr G f [.d (.sl x t0), .d d2] H nx k := by
 subst e; exact pc_useB (h t0) hk
theorem take_rows (l : List Ps) (i : Nat) : List.take ((i : Int).toNat - 0) (List.drop 0 (List.map Ps.l l)) = (l.take i).map Ps.l := by
 rw [Int.toNat_natCast, Nat.sub_zero, List.drop_zero, List.map_take]
theorem chk36 : chkFn Tryz.f36 = true := by kernel_rfl
theorem check36 (w : Int) (l : List Ps) (t : Bool) (hn : l.length ≤ 1000) : PC Pr GG 36 [stD w l t] (iD (chkS w l)) := by
 have hev := every112 (G := GG) l t 113 [] [.rop [iD w, rowsD l t] 0] (fun q => decide (q.w = w)) hn fun q _ => wire113 q w l t
 refine pc_walk pok Tryz.func36 chk36 ?_
 conv => whnf
 repeat' first | (refine LookP.mk _ rfl ?_; conv => whnf) | (intro t ht; cases t <;> conv => whnf)
 ·have ho : offB w 1 12 = false := by simp at *; unfold offB; simp; omega
  have hw : (l.length : Int) = w := by simp at *; omega
  have how : 1 ≤ w ∧ w ≤ 12 := by simp [offB] at ho; omega
  refine for_use pok (fun i => ⟨[(1, .ptr 0 2 0 0), (28, .d (rowsD l t)), (29, .d (iD (l.map Ps.l).length)), (30, .d (iD i))], [(0, some (.arr 2 [[.d (iD w), .d (rowsD l t)]]))], 1⟩) (l.length) (fun i => ∀ q, q ∈ l.take i → pchkI q = 0) (by simp) ?_ (by kernel_rfl) ?_ ?_
  ·refine keep_env (by first | exact Nat.zero_le _ | exact Nat.le_of_ble_eq_true rfl) ?_ ?_ trivial
   ·repeat' first | exact trivial | refine ⟨⟨by first | rfl | assumption, rfl⟩, ?_⟩
   ·repeat' first | exact trivial | refine ⟨⟨ltB rfl, _, rfl, by first | rfl | assumption, by first | exact below1 rfl | exact below_dblk _ _ _ | exact below_arr rfl⟩, ?_⟩
  ·intro i A_i h_i I_i N_i
   have e_i : iadd .i64 (i : Int) 1 = ((i + 1 : Nat) : Int) := iadd_nat (by first | omega | (simp at *; omega))
   have hc := check111 (G := GG) l[i]
   rw [pck_pchk] at hc
   have hfa := find_at (p := fun q => decide (pchkI q ≠ 0)) h_i (fun q hq => by simp [I_i q hq])
   have hst : ∀ {e}, pchkI l[i] = e → e = 0 → ∀ q, q ∈ l.take (i + 1) → pchkI q = 0 := by
    intro e h1 h2 q hq
    rw [take_snoc h_i] at hq
    rcases List.mem_append.1 hq with h | h
    ·exact I_i q h
    ·rw [List.mem_singleton.1 h, h1, h2]
   have hch : pchkI l[i] ≠ 0 → chkS w l = pchkI l[i] := by
    intro h
    unfold chkS
    rw [ho, if_neg (by simp), if_neg (by simpa using hw), hfa (by simpa using h)]
   generalize hpe : pchkI l[i] = e at hc hch
   conv => whnf
   repeat (refine LookP.mk _ rfl ?_; conv => whnf)
   intro t ht
   cases t
   ·exfalso; first | (simp at ht; done) | (simp at ht; omega)
   conv => whnf
   repeat' first | ((first | refine LookP.mk _ (by first | rfl | exact get_l h_i) ?_ | refine ShlP.mk _ (by first | (simp only [List.set, over, List.take, List.drop, List.append_eq, List.nil_append, List.cons_append, List.length]; rfl) | rfl) ?_ | refine And.intro (by first | assumption | exact ⟨by kernel_rfl, rfl⟩ | decide | omega) ?_ | refine pc_use hc ?_ | refine HpP.force ?_); conv => whnf) | (intro t ht; cases t <;> conv => whnf)
   ·refine N_i _ ?_ ?_
    ·exact hst hpe (by simpa using ht)
    ·refine keep_env (by first | exact Nat.zero_le _ | exact Nat.le_of_ble_eq_true rfl) ?_ ?_ trivial
     ·repeat' first | exact trivial | refine ⟨⟨by first | rfl | assumption | exact congrArg (fun n => AV.d (iD n)) e_i, rfl⟩, ?_⟩
     ·repeat' first | exact trivial | refine ⟨⟨ltB rfl, _, rfl, by first | rfl | assumption, by first | exact below1 rfl | exact below_dblk _ _ _ | exact below_arr rfl⟩, ?_⟩
   ·refine fin ?_
    rw [hch (by simpa using ht)]
  ·intro A_last I_last
   rw [List.take_length] at I_last
   conv => whnf
   repeat (refine LookP.mk _ rfl ?_; conv => whnf)
   intro t ht
   cases t
   rotate_left
   ·exfalso; first | (simp at ht; done) | (simp at ht; omega)
   conv => whnf
   have hfi : l.find? (fun q => decide (pchkI q ≠ 0)) = none := List.find?_eq_none.2 (by
    intro q hq; simp [I_last q hq])
   repeat' first | (refine LookP.mk _ rfl ?_; conv => whnf) | (refine pc_lendcB hev rfl ?_) | (intro t ht; cases t <;> conv => whnf)
   ·refine fin ?_
    have hni : l.any (fun q => decide (q.w ≠ w)) = true := by
     obtain ⟨q, hq, h⟩ := List.all_eq_false.1 ht
     exact List.any_eq_true.2 ⟨q, hq, by simpa using h⟩
    unfold chkS
    rw [ho, if_neg (by simp), if_neg (by simpa using hw), hfi]
    dsimp only
    rw [hni, if_pos rfl]
   ·have hal := ht
    have hws : ∀ q, q ∈ l → q.w = w := fun q hq => by have := List.all_eq_true.1 hal q hq; simpa using this
    obtain ⟨W, rfl⟩ : ∃ W : Nat, w = W := ⟨w.toNat, by omega⟩
    have hW : 1 ≤ W ∧ W ≤ 12 := by omega
    have hv : ∀ q, q ∈ l → Vl W q := fun q hq => vl_of (I_last q hq) (hws q hq)
    have hni : l.any (fun q => decide (q.w ≠ W)) = false := List.any_eq_false.2 (by intro q hq; simp [hws q hq])
    have hchk : chkS W l = if badS l then 14 else if rankN (redRows l (2 * W)) = l.length then 0 else 14 := by
     unfold chkS
     rw [ho, if_neg (by simp), if_neg (by simpa using hw), hfi]
     dsimp only
     rw [hni, if_neg (by simp), Int.toNat_natCast]
    refine for_use pok (fun i => ⟨[(1, .ptr 0 2 0 0), (46, .d (rowsD l t)), (47, .d (iD (l.map Ps.l).length)), (48, .d (iD i))], [(0, some (.arr 2 [[.d (iD W), .d (rowsD l t)]]))], 1⟩) (l.length) (fun i => ∀ j, j < i → badAt l j = false) (by omega) ?_ (by kernel_rfl) ?_ ?_
    ·refine keep_env (by first | exact Nat.zero_le _ | exact Nat.le_of_ble_eq_true rfl) ?_ ?_ trivial
     ·repeat' first | exact trivial | refine ⟨⟨by first | rfl | assumption, rfl⟩, ?_⟩
     ·repeat' first | exact trivial | refine ⟨⟨ltB rfl, _, rfl, by first | rfl | assumption, by first | exact below1 rfl | exact below_dblk _ _ _ | exact below_arr rfl⟩, ?_⟩
    ·intro i A_i h_i I_i N_i
     have e_i : iadd .i64 (i : Int) 1 = ((i + 1 : Nat) : Int) := iadd_nat (by first | omega | (simp at *; omega))
     have hvi := hv _ (List.getElem_mem h_i)
     have hev2 : ∀ t', PC Pr GG 112 [rowsD (l.take i) t', .fn 114 [.agg l[i].l] []] (.bool ((l.take i).all (comV l[i]))) := fun t' =>
      every112 (l.take i) t' 114 [.agg l[i].l] [] (comV l[i]) (by rw [List.length_take]; omega) fun q hq => with114 hW hvi (hv q (List.mem_of_mem_take hq))
     have hba : badAt l i = (decide (l[i].p.tmod 2 ≠ 0) || !(l.take i).all (comV l[i])) := by
      rw [badAt_lt h_i]
      congr 1
      rw [List.not_all_eq_any_not]
      refine any_congr fun q hq => ?_
      have := com_mul hW.2 hvi (hv q (List.mem_of_mem_take hq))
      rw [← this]; simp
     have hp2 : l[i].p.tmod 2 = 0 ∨ l[i].p.tmod 2 = 1 := by
      obtain ⟨X, Z, P, he, g1, g2, g3⟩ := hvi
      rw [he]
      show (P : Int).tmod 2 = 0 ∨ (P : Int).tmod 2 = 1
      rw [Int.tmod_eq_emod_of_nonneg (by omega)]; omega
     conv => whnf
     repeat (refine LookP.mk _ rfl ?_; conv => whnf)
     intro t ht
     cases t
     ·exfalso; first | (simp at ht; done) | (simp at ht; omega)
     conv => whnf
     repeat' first | ((first | refine LookP.mk _ (by first | rfl | exact get_l h_i) ?_ | refine ShlP.mk _ (by first | (simp only [List.set, over, List.take, List.drop, List.append_eq, List.nil_append, List.cons_append, List.length]; rfl) | rfl) ?_ | refine And.intro (by first | exact ⟨Nat.zero_le _, by rw [Int.toNat_natCast, List.length_map]; omega, rows_len _⟩ | assumption | exact ⟨by kernel_rfl, rfl⟩ | decide | omega) ?_ | refine use_rows hev2 (take_rows l i) ?_ | refine HpP.force ?_); conv => whnf) | (intro t ht; cases t <;> conv => whnf)
     ·refine fin ?_
      rw [hchk, if_pos (badS_of h_i (by rw [hba, ht]; simp))]
     ·have hz : l[i].p.tmod 2 = 0 := by
       rcases hp2 with h | h
       ·exact h
       ·exfalso; simp_all
      have hbz : badAt l i = false := by rw [hba, ht, hz]; rfl
      refine N_i _ ?_ ?_
      ·(intro j hj; rcases Nat.lt_or_ge j i with h | h; exact I_i j h; rw [show j = i by omega]; exact hbz)
      ·refine keep_env (by first | exact Nat.zero_le _ | exact Nat.le_of_ble_eq_true rfl) ?_ ?_ trivial
       ·repeat' first | exact trivial | refine ⟨⟨by first | rfl | assumption | exact congrArg (fun n => AV.d (iD n)) e_i, rfl⟩, ?_⟩
       ·repeat' first | exact trivial | refine ⟨⟨ltB rfl, _, rfl, by first | rfl | assumption, by first | exact below1 rfl | exact below_dblk _ _ _ | exact below_arr rfl⟩, ?_⟩
     ·refine fin ?_
      rw [hchk, if_pos (badS_of h_i (by rw [hba]; have : l[i].p.tmod 2 = 1 := (by simpa using ht); simp [this]))]
    ·intro A_last I_last
     have hb : badS l = false := List.any_eq_false.2 (by intro j hj; rw [I_last j (List.mem_range.1 hj)]; simp)
     rw [hb, if_neg (by simp)] at hchk
     have hin := ind115 hW l t (by omega) (by omega) hv
     have hie := ind_iff hW.2 hv (by omega)
     generalize (gnW (redF l) l.length).length = gl at hin hie
     conv => whnf
     repeat (refine LookP.mk _ rfl ?_; conv => whnf)
     intro t ht
     cases t
     rotate_left
     ·exfalso; first | (simp at ht; done) | (simp at ht; omega)
     conv => whnf
     repeat' first | (refine LookP.mk _ rfl ?_; conv => whnf) | (refine pc_useB2 (hin) ?_) | (intro t ht; cases t <;> conv => whnf)
     ·refine fin ?_
      rw [hchk, if_neg fun h => by simp at ht; exact ht (hie.2 h)]
     ·refine fin ?_
      rw [hchk, if_pos (hie.1 (by simpa using ht))]
 ·refine fin ?_
  have ho : offB w 1 12 = false := by simp at *; unfold offB; simp; omega
  unfold chkS
  rw [ho, if_neg (by simp), if_pos (by simpa using ht)]
 ·refine fin ?_
  have ho : offB w 1 12 = true := by unfold offB; rw [ht]; simp
  unfold chkS
  rw [ho, if_pos rfl]
 ·refine fin ?_
  have ho : offB w 1 12 = true := by unfold offB; rw [ht]; simp
  unfold chkS
  rw [ho, if_pos rfl]
end Go.Tz
namespace Go.Tz
open Go Go.AL Go.Proofs Go.Ma
variable {G : Nat → Option (List D)}
structure SOk (w : Nat) (l : List Ps) : Prop where
 lo : 1 ≤ w
 hi : w ≤ 12
 len : l.length = w
 vl : ∀ q, q ∈ l → Vl w q
 good : badS l = false
 rank : rankN (redRows l (2 * w)) = l.length
theorem chk_ok {w : Int} {l : List Ps} (h : chkS w l = 0) : ∃ W : Nat, w = W ∧ SOk W l := by
 unfold chkS at h
 split at h
 ·cases h
 rename_i ho
 split at h
 ·cases h
 rename_i hl
 split at h
 ·rename_i q hf
  have := List.find?_some hf
  simp at this
  exact absurd h this
 rename_i hf
 split at h
 ·cases h
 rename_i hw
 split at h
 ·cases h
 rename_i hb
 split at h
 ·rename_i hr
  have ho' : 1 ≤ w ∧ w ≤ 12 := by simp [offB] at ho; omega
  obtain ⟨W, rfl⟩ : ∃ W : Nat, w = W := ⟨w.toNat, by omega⟩
  rw [Int.toNat_natCast] at hr
  refine ⟨W, rfl, by omega, by omega, by simp at hl; omega, fun q hq => ?_, by simpa using hb, hr⟩
  have h1 := List.find?_eq_none.1 hf q hq
  have h2 : q.w = W := by
   have := hw
   simp only [List.any_eq_true, not_exists] at this
   have := this q
   simp [hq] at this
   exact this
  exact vl_of (by simpa using h1) h2
 ·cases h
theorem ok_chk {w : Nat} {l : List Ps} (h : SOk w l) : chkS w l = 0 := by
 have hlo := h.lo
 have hhi := h.hi
 have e1 : offB (w : Int) 1 12 = false := by unfold offB; simp; omega
 have e2 : l.find? (fun q => decide (pchkI q ≠ 0)) = none := List.find?_eq_none.2 fun q hq => by
  rw [← pck_pchk, pck_vl ⟨hlo, hhi⟩ (h.vl q hq)]; simp
 have e3 : l.any (fun q => decide (q.w ≠ w)) = false := List.any_eq_false.2 fun q hq => by simp [vl_w (h.vl q hq)]
 unfold chkS
 rw [e1, if_neg (by simp), if_neg (by simp [h.len]), e2]
 dsimp only
 rw [e3, if_neg (by simp), h.good, if_neg (by simp), Int.toNat_natCast, if_pos h.rank]
theorem chk106 : chkFn Tryz.f106 = true := by kernel_rfl
def bothS (w : Int) (l : List Ps) (w' : Int) (l' : List Ps) : Int := if chkS w l ≠ 0 then chkS w l else if chkS w' l' ≠ 0 then chkS w' l' else if w ≠ w' then 7 else 0
theorem both106 (w : Int) (l : List Ps) (t : Bool) (w' : Int) (l' : List Ps) (t' : Bool) (hn : l.length ≤ 1000) (hn' : l'.length ≤ 1000) : PC Pr GG 106 [stD w l t, stD w' l' t'] (iD (bothS w l w' l')) := by
 have h1 := check36 w l t hn
 have h2 := check36 w' l' t' hn'
 unfold bothS
 generalize chkS w l = a at h1 ⊢
 generalize chkS w' l' = b at h2 ⊢
 refine pc_walk pok Tryz.func106 chk106 ?_
 conv => whnf
 repeat' first | ((first | refine LookP.mk _ rfl ?_ | refine pc_use h1 ?_ | refine pc_use h2 ?_); conv => whnf) | (intro t ht; cases t <;> conv => whnf)
 all_goals refine fin ?_
 all_goals refine congrArg (fun n => AV.d (iD n)) ?_
 all_goals (try simp only [bne_iff_ne, ne_eq, bne_eq_false_iff_eq, Decidable.not_not] at *)
 all_goals repeat' split
 all_goals first | rfl | (exfalso; omega) | (exfalso; simp at *; omega)
theorem chk32 : chkFn Tryz.f32 = true := by kernel_rfl
def sameD (w : Int) (l : List Ps) (w' : Int) (l' : List Ps) : D := if bothS w l w' l' = 0 then .tup [.bool (decide (redRows l (2 * w.toNat) = redRows l' (2 * w.toNat))), iD 0] else .tup [.bool false, iD (bothS w l w' l')]
theorem both_ok {w : Int} {l : List Ps} {w' : Int} {l' : List Ps} (h : bothS w l w' l' = 0) : ∃ W : Nat, w = W ∧ w' = W ∧ SOk W l ∧ SOk W l' := by
 unfold bothS at h
 split at h
 ·contradiction
 rename_i h1
 split at h
 ·contradiction
 rename_i h2
 split at h
 ·cases h
 rename_i h3
 simp only [ne_eq, Decidable.not_not] at h1 h2 h3
 obtain ⟨W, e, hs⟩ := chk_ok h1
 obtain ⟨W', e', hs'⟩ := chk_ok h2
 have : W' = W := by omega
 subst this
 exact ⟨W', e, e', hs, hs'⟩
theorem same32 (w : Int) (l : List Ps) (t : Bool) (w' : Int) (l' : List Ps) (t' : Bool) (hn : l.length ≤ 1000) (hn' : l'.length ≤ 1000) : PC Pr GG 32 [stD w l t, stD w' l' t'] (sameD w l w' l') := by
 have hb := both106 w l t w' l' t' hn hn'
 have hok := both_ok (w := w) (l := l) (w' := w') (l' := l')
 unfold sameD
 by_cases h : bothS w l w' l' = 0
 ·obtain ⟨W, rfl, rfl, hs, hs'⟩ := hok h
  have h1 := canon105 (G := GG) ⟨hs.lo, hs.hi⟩ l t hn hs.vl
  have h2 := canon105 (G := GG) ⟨hs'.lo, hs'.hi⟩ l' t' hn' hs'.vl
  rw [h] at hb
  rw [if_pos h, Int.toNat_natCast]
  have h3 := equal72 (G := GG) (redRows l (2 * W)) (redRows l' (2 * W)) true true (by rw [redRows_len]; omega)
  generalize decide (redRows l (2 * W) = redRows l' (2 * W)) = d at h3 ⊢
  generalize redRows l (2 * W) = m at h1 h3
  generalize redRows l' (2 * W) = m' at h2 h3
  refine pc_walk pok Tryz.func32 chk32 ?_
  conv => whnf
  repeat' first | ((first | refine LookP.mk _ rfl ?_ | refine pc_use hb ?_ | refine pc_head h1 ?_ | refine pc_head h2 ?_ | refine pc_head h3 ?_ | refine HpP.force ?_); conv => whnf) | (intro t ht; cases t <;> conv => whnf)
  ·exact fin rfl
  ·exact absurd ht (by decide)
 ·rw [if_neg h]
  generalize bothS w l w' l' = e at hb h
  refine pc_walk pok Tryz.func32 chk32 ?_
  conv => whnf
  repeat' first | ((first | refine LookP.mk _ rfl ?_ | refine pc_use hb ?_); conv => whnf) | (intro t ht; cases t <;> conv => whnf)
  ·exact absurd (by simpa using ht) h
  ·exact fin rfl
theorem chk107 : chkFn Tryz.f107 = true := by kernel_rfl
def expP (l : List Ps) (p : Ps) : Int := if (fndS (lfW (redF l) l.length) (nf p).2 (lfW (redF l) l.length).length).1 = 0 then isub .i64 1 ((iadd .i64 (isub .i64 p.p (allS p.w l (fndS (lfW (redF l) l.length) (nf p).2 (lfW (redF l) l.length).length).2 l.length).p) 4).tmod 4) else 0
theorem expected107 {w : Nat} {l : List Ps} (hs : SOk w l) (t : Bool) {p : Ps} (hp : Vl w p) : PC Pr GG 107 [stD w l t, p.d] (iD (expP l p)) := by
 have hlo := hs.lo
 have hhi := hs.hi
 have hlen := hs.len
 have hg : gnW (redF l) l.length = [] := by
  have := (ind_iff hhi hs.vl (by omega)).2 hs.rank
  exact List.length_eq_zero_iff.1 this
 have hf := find194 ⟨hlo, hhi⟩ l t p (by omega) (by omega) hs.vl hp hg
 unfold fndD at hf
 unfold expP
 generalize fndS (lfW (redF l) l.length) (nf p).2 (lfW (redF l) l.length).length = a at hf ⊢
 generalize (iadd .i64 (isub .i64 p.p (allS p.w l a.2 l.length).p) 4).tmod 4 = n at hf ⊢
 by_cases h : a.1 = 0
 ·rw [if_pos h] at hf ⊢
  refine pc_walk pok Tryz.func107 chk107 ?_
  conv => whnf
  repeat' first | ((first | refine LookP.mk _ rfl ?_ | refine pc_use hf ?_); conv => whnf) | (intro t ht; cases t <;> conv => whnf)
  ·exact fin rfl
  ·exact absurd ht (by decide)
 ·rw [if_neg h] at hf ⊢
  refine pc_walk pok Tryz.func107 chk107 ?_
  conv => whnf
  repeat' first | ((first | refine LookP.mk _ rfl ?_ | refine pc_use hf ?_); conv => whnf) | (intro t ht; cases t <;> conv => whnf)
  ·exact absurd ht (by decide)
  ·exact fin rfl
end Go.Tz
namespace Go.Tz
open Go Go.AL Go.Proofs Go.Ma
variable {G : Nat → Option (List D)}
theorem chk95 : chkFn Tryz.f95 = true := by kernel_rfl
abbrev wkB (w N : Nat) : Blk := .arr 3 [[.d (iD w), .sl 1 4 0 N N true, .fn 136 [.ptr 0 3 0 0] []]]
theorem opened95 {w : Nat} (hw : 1 ≤ w ∧ w ≤ 12) (l : List Ps) (t : Bool) (hn : l.length ≤ 1000) (hv : ∀ q, q ∈ l → Vl w q) : PO Pr G 95 [stD w l t] (.ptr 0 3 0 0) [(0, some (wkB w l.length)), (1, some (dblk 4 ((redRows l (2 * w)).map Ps.l)))] 2 := by
 have hc := canon105o (G := G) hw l t hn hv
 generalize redRows l (2 * w) = m at hc ⊢
 refine ⟨isFn_of Tryz.func95 chk95, acall_sub (K := fun v H _ => v = .ptr 2 3 0 0 ∧ H.get 2 = some (.arr 3 [[.d (iD w), .sl 1 4 0 l.length l.length true, .fn 136 [.ptr 2 3 0 0] []]]) ∧ H.get 1 = some (dblk 4 (m.map Ps.l))) (fn_walk pok Tryz.func95 chk95 ?_) ?_⟩
 ·conv => whnf
  repeat' first | ((first | refine LookP.mk _ rfl ?_ | refine ShlP.mk _ (by first | (simp only [List.set, over, List.take, List.drop, List.append_eq, List.nil_append, List.cons_append, List.length]; rfl) | rfl) ?_ | refine po_use hc ?_ | refine HpP.force ?_); conv => whnf)
  refine fin ⟨rfl, rfl, ?_⟩
  show some (Blk.ren _ (dblk 4 (m.map Ps.l))) = _
  rw [ren_dblk]
 ·rintro v H n ⟨rfl, h1, h2⟩
  refine ⟨_, _, 2, ?_, rfl, rfl, rfl⟩
  first | refine ren_env [(0, 2), (1, 1)] ?_ ?_ ?_ trivial | refine ren_envB [(0, 2), (1, 1)] rfl rfl ?_ ?_ ?_ trivial
  ·repeat' first | exact trivial | refine ⟨⟨by first | rfl | assumption, rfl⟩, ?_⟩
  ·repeat' first | exact trivial | refine ⟨⟨ltB rfl, _, rfl, by first | rfl | assumption | exact get_ren rfl (by first | rfl | assumption | exact h1 | exact get_ren rfl h2) | exact h1 | exact get_ren rfl h2, by first | exact below1 rfl | exact below_dblk _ _ _ | exact below_arr rfl⟩, ?_⟩
  ·repeat' first | exact trivial | (refine And.intro ?_ ?_) | (exact fun _ => rfl) | (exact fun h => absurd h (Nat.ne_of_beq_eq_false rfl))
theorem chk108 : chkFn Tryz.f108 = true := by kernel_rfl
theorem chk195 : chkFn Tryz.f195 = true := by kernel_rfl
theorem chk247 : chkFn Tryz.f247 = true := by kernel_rfl
theorem chk185 : chkFn Tryz.f185 = true := by kernel_rfl
theorem chk242 : chkFn Tryz.f242 = true := by kernel_rfl
def rangeAt : Code → Option (Code × Code)
 | .seq c d => match rangeAt c with
  | some p => some p
  | none => rangeAt d
 | .block _ c => rangeAt c
 | .rangeFunc _ _ a b => some (a, b)
 | _ => none
noncomputable def rgA (f : Func) : Code := match f.body with
 | some c => (match rangeAt c with
  | some p => p.1
  | none => .skip)
 | none => .skip
noncomputable def rgB (f : Func) : Code := match f.body with
 | some c => (match rangeAt c with
  | some p => p.2
  | none => .skip)
 | none => .skip
def antL (p : Ps) (rf : Nat → Ps) (i : Nat) : List Nat := (List.range i).filter fun j => !comV p (rf j)
def numD (l : List Nat) : List (List D) := l.map fun n : Nat => [iD (n : Int)]
theorem antL_snoc (p : Ps) (rf : Nat → Ps) (i : Nat) : antL p rf (i + 1) = if comV p (rf i) = true then antL p rf i else antL p rf i ++ [i] := by
 unfold antL
 rw [List.range_succ, List.filter_append]
 by_cases h : comV p (rf i) = true
 ·rw [if_pos h]; simp [h]
 ·rw [if_neg h]; simp [h]
theorem antL_le (p : Ps) (rf : Nat → Ps) (i : Nat) : (antL p rf i).length ≤ i := by
 have := List.length_filter_le (fun j => !comV p (rf j)) (List.range i)
 simpa [antL] using this
def prjR (rf : Nat → Ps) (a0 : Nat) (R : List Nat) : Nat → Ps := fun j => if j ∈ R then mulS (rf j) (rf a0) else rf j
def prjF (rf : Nat → Ps) (p : Ps) (a0 : Nat) (R : List Nat) : Nat → Ps := fun j => if j = a0 then p else prjR rf a0 R j
theorem project108 {w N : Nat} (hw : 1 ≤ w ∧ w ≤ 12) {rf : Nat → Ps} {p : Ps} (hN : N ≤ 1000) (hv : ∀ j, j < N → Vl w (rf j)) (hp : Vl w p) {a0 : Nat} {R : List Nat} (hA : antL p rf N = a0 :: R) :
  ACall Pr G 108 [.ptr 0 3 0 0, .d p.d] [(0, some (wkB w N)), (1, some (dblk 4 ((List.range N).map fun j => (rf j).l)))] 3 fun v H _ => v = .d (.tup []) ∧ H.get 0 = some (wkB w N) ∧ H.get 1 = some (dblk 4 ((List.range N).map fun j => (prjF rf p a0 R j).l)) := by
 refine fn_walk pok Tryz.func108 chk108 ?_
 conv => whnf
 repeat' first | (refine LookP.mk _ rfl ?_; conv => whnf)
 refine call_walk pok Tryz.func195 chk195 ?_
 conv => whnf
 skip
 refine call_walk pok Tryz.func185 chk185 ?_
 conv => whnf
 skip
 refine call_walk pok Tryz.func242 chk242 ?_
 conv => whnf
 skip
 refine call_walk pok Tryz.func247 chk247 ?_
 conv => whnf
 repeat' first | (refine LookP.mk _ rfl ?_; conv => whnf)
 refine for_use pok (fun i => ⟨[(0, .yld 8), (4, .d (.fn 114 [.agg p.l] [])), (14, .sl 1 4 0 N N true), (15, .d (iD N)), (16, .d (iD i))], [(0, some (wkB w N)), (1, some (dblk 4 ((List.range N).map fun j => (rf j).l))), (3, some (.arr 4 [p.l.map AV.d])), (6, some (.arr 1 [[.sl 9 1 0 (antL p rf i).length (antL p rf i).length false]])), (7, some (.raw (.deferred (some [])))), (8, some (.lp [(6, .fn 247 [] [.ptr 5 4 0 0, .ptr 4 1 0 0]), (4, .d (.sl [] true)), (2, .ptr 6 1 0 0), (0, .d (.sl [] true)), (1, .fn 247 [] [.ptr 5 4 0 0, .ptr 4 1 0 0])] Tryz.f242.ntmps #[7] (rgA Tryz.f242) (rgB Tryz.f242) .ready none 7)), (9, some (dblk 1 (numD (antL p rf i))))], 10⟩) (N) (fun _ => True) (trivial) ?_ (by kernel_rfl) ?_ ?_
 ·refine Sub.trans (sub_nilH (nm := 6) (S := 1) (Nat.le_of_ble_eq_true rfl) rfl) ?_
  refine keep_env (by first | exact Nat.zero_le _ | exact Nat.le_of_ble_eq_true rfl) ?_ ?_ trivial
  ·repeat' first | exact trivial | refine ⟨⟨by first | rfl | assumption, rfl⟩, ?_⟩
  ·repeat' first | exact trivial | refine ⟨⟨ltB rfl, _, rfl, by first | rfl | assumption, by first | exact below1 rfl | exact below_dblk _ _ _ | exact below_arr rfl | exact trivial | exact ⟨rfl, Nat.le_of_ble_eq_true rfl⟩⟩, ?_⟩
 ·intro i A_i h_i I_i N_i
  have e_i : iadd .i64 (i : Int) 1 = ((i + 1 : Nat) : Int) := iadd_nat (by first | omega | (simp at *; omega))
  have hs := antL_snoc p rf i
  have hle := antL_le p rf i
  generalize antL p rf i = A at hs hle
  have hc := with114 (G := G) hw hp (hv i h_i)
  generalize comV p (rf i) = b at hs hc
  conv => whnf
  repeat (refine LookP.mk _ rfl ?_; conv => whnf)
  intro t ht
  cases t
  ·exfalso; first | (simp at ht; done) | (simp at ht; omega)
  conv => whnf
  repeat' first | ((first | refine LookP.mk _ (by first | rfl | exact get_rw h_i) ?_ | refine ShlP.mk _ (by first | (simp only [List.set, over, List.take, List.drop, List.append_eq, List.nil_append, List.cons_append, List.length]; rfl) | rfl) ?_ | refine And.intro (by first | assumption | exact ⟨by kernel_rfl, rfl⟩ | decide | omega) ?_ | fail); conv => whnf) | (refine pc_useB hc ?_) | (refine HpP.force ?_; conv => whnf) | (intro t ht; cases t <;> conv => whnf)
  ·rw [ht, if_neg (by simp)] at hs
   have hsn : numD (antL p rf (i + 1)) = numD A ++ [[iD i]] := by rw [hs]; simp [numD]
   have hnl : (numD A).length = A.length := by simp [numD]
   generalize numD A = m at hsn hnl
   refine round_walk pok ?_
   conv => whnf
   repeat' first | ((first | refine LookP.mk _ rfl ?_ | refine ShlP.mk _ (by first | (simp only [List.set, over, List.take, List.drop, List.append_eq, List.nil_append, List.cons_append, List.length]; rfl) | rfl) ?_ | (refine And.intro (by first | exact Nat.le_refl _ | exact ⟨by rw [List.length_map]; exact hnl, by decide, by show (2 * (A.length + 1) + 192) * 8 ≤ 281474976710656; omega⟩ | assumption | exact ⟨by kernel_rfl, rfl⟩ | decide | omega) ?_) | rw [nbeq] | refine HpP.force ?_); conv => whnf)
   refine N_i _ ?_ ?_
   ·first | trivial | assumption | omega
   ·first | refine ren_env [(9, 12)] ?_ ?_ ?_ trivial | refine ren_envB [(9, 12)] rfl rfl ?_ ?_ ?_ trivial
    ·repeat' first | exact trivial | refine ⟨⟨by first | rfl | assumption | exact congrArg (fun n => AV.d (iD n)) e_i, rfl⟩, ?_⟩
    ·repeat' first | exact trivial | refine ⟨⟨ltB rfl, _, rfl, by first | rfl | assumption | exact get_ren rfl (by first | rfl | assumption | exact get_ren rfl (by rw [hsn]; exact congrArg some (dblk_snoc rfl)) | (rw [hs, List.length_append]; rfl)) | exact get_ren rfl (by rw [hsn]; exact congrArg some (dblk_snoc rfl)) | (rw [hs, List.length_append]; rfl), by first | exact below1 rfl | exact below_dblk _ _ _ | exact below_arr rfl | exact trivial | exact ⟨rfl, Nat.le_of_ble_eq_true rfl⟩⟩, ?_⟩
    ·repeat' first | exact trivial | (refine And.intro ?_ ?_) | (exact fun _ => rfl) | (exact fun h => absurd h (Nat.ne_of_beq_eq_false rfl))
  ·rw [ht, if_pos rfl] at hs
   refine N_i _ ?_ ?_
   ·first | trivial | assumption | omega
   ·refine keep_env (by first | exact Nat.zero_le _ | exact Nat.le_of_ble_eq_true rfl) ?_ ?_ trivial
    ·repeat' first | exact trivial | refine ⟨⟨by first | rfl | assumption | exact congrArg (fun n => AV.d (iD n)) e_i, rfl⟩, ?_⟩
    ·repeat' first | exact trivial | refine ⟨⟨ltB rfl, _, rfl, by first | rfl | assumption | (rw [hs]; rfl), by first | exact below1 rfl | exact below_dblk _ _ _ | exact below_arr rfl | exact trivial | exact ⟨rfl, Nat.le_of_ble_eq_true rfl⟩⟩, ?_⟩
 ·intro A_last I_last
  conv => whnf
  repeat (refine LookP.mk _ rfl ?_; conv => whnf)
  intro t ht
  cases t
  rotate_left
  ·exfalso; first | (simp at ht; done) | (simp at ht; omega)
  conv => whnf
  have hlt : ∀ j, j ∈ a0 :: R → j < N := fun j hj => by
   rw [← hA] at hj
   exact List.mem_range.1 (List.mem_filter.1 hj).1
  have hnd : (a0 :: R).Nodup := by rw [← hA]; exact (List.nodup_range).filter _
  rw [hA]
  have ha0 := hlt a0 (by simp)
  have hRN : R.length + 1 ≤ N := by
   have := antL_le p rf N
   rw [hA] at this; simpa using this
  clear hA
  repeat' first | ((first | refine LookP.mk _ rfl ?_ | refine And.intro (by first | exact ⟨by simp, by simp, by simp⟩ | assumption | exact ⟨by kernel_rfl, rfl⟩ | decide | omega) ?_ | fail); conv => whnf) | fail
  refine for_use pok (fun k => ⟨[(0, .ptr 0 3 0 0), (3, .ptr 3 4 0 0), (4, .sl 9 1 0 (R.length + 1) (R.length + 1) false), (12, .sl 9 1 1 R.length R.length false), (13, .d (iD R.length)), (14, .d (iD k))], [(0, some (wkB w N)), (1, some (dblk 4 ((List.range N).map fun j => (prjR rf a0 (R.take k) j).l))), (3, some (.arr 4 [p.l.map AV.d])), (9, some (dblk 1 (numD (a0 :: R))))], 10⟩) (R.length) (fun _ => True) (trivial) ?_ (by kernel_rfl) ?_ ?_
  ·refine keep_env (by first | exact Nat.zero_le _ | exact Nat.le_of_ble_eq_true rfl) ?_ ?_ trivial
   ·repeat' first | exact trivial | refine ⟨⟨by first | rfl | assumption, rfl⟩, ?_⟩
   ·repeat' first | exact trivial | refine ⟨⟨ltB rfl, _, rfl, by first | rfl | assumption | (rw [List.take_zero]; rfl), by first | exact below1 rfl | exact below_dblk _ _ _ | exact below_arr rfl⟩, ?_⟩
  ·intro k A_k h_k I_k N_k
   have e_k : iadd .i64 (k : Int) 1 = ((k + 1 : Nat) : Int) := iadd_nat (by first | omega | (simp at *; omega))
   have hr := hlt R[k] (List.mem_cons_of_mem _ (List.getElem_mem h_k))
   have hnR : R.Nodup := (List.nodup_cons.1 hnd).2
   have haR : a0 ∉ R := (List.nodup_cons.1 hnd).1
   have hrk : prjR rf a0 (R.take k) R[k] = rf R[k] := by
    unfold prjR
    rw [if_neg fun h => ?_]
    obtain ⟨i, hi, he⟩ := List.mem_take_iff_getElem.1 h
    exact List.pairwise_iff_getElem.1 hnR i k (by omega) h_k (by omega) he
   have hra : prjR rf a0 (R.take k) a0 = rf a0 := by
    unfold prjR
    rw [if_neg fun h => haR (List.mem_of_mem_take h)]
   have hst : ∀ j, (if j = R[k] then Ps.l (mulS (rf R[k]) (rf a0)) else Ps.l (prjR rf a0 (R.take k) j)) = Ps.l (prjR rf a0 (R.take (k + 1)) j) := by
    intro j
    unfold prjR
    rw [take_snoc h_k]
    by_cases e : j = R[k]
    ·rw [if_pos e, if_pos (List.mem_append.2 (.inr (List.mem_singleton.2 e))), e]
    ·rw [if_neg e]
     by_cases e2 : j ∈ R.take k
     ·rw [if_pos e2, if_pos (List.mem_append.2 (.inl e2))]
     ·rw [if_neg e2, if_neg fun h => (List.mem_append.1 h).elim e2 fun h => e (List.mem_singleton.1 h)]
   have hnum : ((numD (a0 :: R)).map fun el => el.map AV.d)[1 + (k : Int).toNat]? = some ([iD (R[k] : Nat)].map AV.d) := by
    simp [numD, Nat.add_comm 1, List.getElem?_eq_getElem h_k]
   have hm := times183v (G := G) hw (rf R[k]) [rf a0] true (by simp) (hv _ hr) (by intro r hr; rw [List.mem_singleton.1 hr]; exact hv _ ha0)
   have hme : ([rf a0].foldl mulS (rf R[k])) = mulS (rf R[k]) (rf a0) := rfl
   rw [hme] at hm
   generalize mulS (rf R[k]) (rf a0) = m at hm hst
   have hst2 : ∀ j, (if j = R[k] then [iD m.w, iD m.x, iD m.z, iD m.p] else Ps.l (prjR rf a0 (R.take k) j)) = Ps.l (prjR rf a0 (R.take (k + 1)) j) := hst
   generalize prjR rf a0 (R.take k) = g at hrk hra hst2
   clear hst
   generalize R[k] = r at hr hrk hst2 hnum hm
   have hgr : (fun j => Ps.l (g j)) r = Ps.l (rf r) := by dsimp only; rw [hrk]
   have hga : (fun j => Ps.l (g j)) a0 = Ps.l (rf a0) := by dsimp only; rw [hra]
   conv => whnf
   repeat (refine LookP.mk _ rfl ?_; conv => whnf)
   intro t ht
   cases t
   ·exfalso; first | (simp at ht; done) | (simp at ht; omega)
   conv => whnf
   repeat' first | ((first | refine LookP.mk _ (by first | rfl | exact hnum | exact get_rwE hr hgr | exact get_rwE ha0 hga) ?_ | refine ShlP.mk _ (by first | exact set_rw (x := [_, _, _, _]) hr | (simp only [List.set, over, List.take, List.drop, List.append_eq, List.nil_append, List.cons_append, List.length]; rfl) | rfl) ?_ | refine And.intro (by first | exact ⟨Int.natCast_nonneg _, by omega⟩ | assumption | exact ⟨by kernel_rfl, rfl⟩ | decide | omega) ?_ | refine pc_head hm ?_ | refine HpP.force ?_); conv => whnf)
   refine N_k _ ?_ ?_
   ·first | trivial | assumption | omega
   ·refine keep_env (by first | exact Nat.zero_le _ | exact Nat.le_of_ble_eq_true rfl) ?_ ?_ trivial
    ·repeat' first | exact trivial | refine ⟨⟨by first | rfl | assumption | exact congrArg (fun n => AV.d (iD n)) e_k, rfl⟩, ?_⟩
    ·repeat' first | exact trivial | refine ⟨⟨ltB rfl, _, rfl, by first | rfl | assumption | exact congrArg some (psB_congr hst2), by first | exact below1 rfl | exact below_dblk _ _ _ | exact below_arr rfl⟩, ?_⟩
  ·intro A_last I_last
   conv => whnf
   repeat (refine LookP.mk _ rfl ?_; conv => whnf)
   intro t ht
   cases t
   rotate_left
   ·exfalso; first | (simp at ht; done) | (simp at ht; omega)
   conv => whnf
   have hra : prjR rf a0 (R.take R.length) a0 = rf a0 := by
    unfold prjR
    rw [if_neg fun h => (List.nodup_cons.1 hnd).1 (List.mem_of_mem_take h)]
   rw [List.take_length] at hra ⊢
   have hga : (fun j => Ps.l (prjR rf a0 R j)) a0 = Ps.l (rf a0) := by dsimp only; rw [hra]
   have hst : ∀ j, (if j = a0 then [iD p.w, iD p.x, iD p.z, iD p.p] else Ps.l (prjR rf a0 R j)) = Ps.l (prjF rf p a0 R j) := by
    intro j
    unfold prjF
    split <;> rfl
   generalize prjR rf a0 R = g at hga hst
   generalize prjF rf p a0 R = g' at hst ⊢
   repeat' first | ((first | refine LookP.mk _ (by first | rfl | exact get_rwE ha0 hga) ?_ | refine ShlP.mk _ (by first | exact set_rw (x := [_, _, _, _]) ha0 | rfl) ?_ | refine And.intro (by first | exact ⟨Int.natCast_nonneg _, by omega⟩ | assumption | exact ⟨by kernel_rfl, rfl⟩ | decide | omega) ?_ | refine HpP.force ?_); conv => whnf)
   refine fin ⟨rfl, rfl, ?_⟩
   exact congrArg some (psB_congr hst)
theorem project_use {w N : Nat} (hw : 1 ≤ w ∧ w ≤ 12) {rf : Nat → Ps} {p : Ps} (hN : N ≤ 1000) (hv : ∀ j, j < N → Vl w (rf j)) (hp : Vl w p) {a0 : Nat} {R : List Nat} (hA : antL p rf N = a0 :: R) {H : AHeap} {k : AV → AHeap → Nat → Prop}
  (h0 : H.get 0 = some (wkB w N)) (h1 : H.get 1 = some (dblk 4 ((List.range N).map fun j => (rf j).l))) (hk : k (.d (.tup [])) [(0, some (wkB w N)), (1, some (dblk 4 ((List.range N).map fun j => (prjF rf p a0 R j).l)))] 3) : CallVC Pr G 108 [.ptr 0 3 0 0, .d p.d] H 3 k := by
 refine ⟨isFn_of Tryz.func108 chk108, acall_drop (acall_sub (project108 (G := G) hw hN hv hp hA) ?_) ?_⟩
 ·rintro v H' n ⟨rfl, g0, g1⟩
  refine ⟨.d (.tup []), _, 3, ?_, hk⟩
  refine keep_env (Nat.le_refl _) ⟨⟨rfl, rfl⟩, trivial⟩ ⟨⟨ltB rfl, _, rfl, g0, below_arr rfl⟩, ⟨ltB rfl, _, rfl, g1, below_dblk _ _ _⟩, trivial⟩ trivial
 ·intro nm b hg
  simp only [AHeap.get] at hg
  split at hg
  ·rename_i e
   have := Nat.eq_of_beq_eq_true e
   subst this
   rw [h0, ← hg]
  ·split at hg
   ·rename_i e
    have := Nat.eq_of_beq_eq_true e
    subst this
    rw [h1, ← hg]
   ·cases hg
end Go.Tz
namespace Go.Tz
open Go Go.AL Go.Proofs Go.Ma
variable {G : Nat → Option (List D)}
theorem mapO_d (H : AHeap) (q : Nat) (vis : List Nat) : ∀ l : List D, mapO (asDX H (q + 1) vis) (l.map AV.d) = some l
 | [] => rfl
 | d :: l => by
  have e : asDX H (q + 1) vis (.d d) = some d := rfl
  simp only [List.map_cons, mapO, e, mapO_d H q vis l]
theorem mapO_dd (H : AHeap) (q : Nat) (vis : List Nat) : ∀ l : List (List D), mapO (mapO (asDX H (q + 1) vis)) (l.map fun el : List D => el.map AV.d) = some l
 | [] => rfl
 | d :: l => by
  simp only [List.map_cons, mapO, mapO_d H q vis d, mapO_dd H q vis l]
theorem asDX_sl {H : AHeap} {q : Nat} {vis : List Nat} {nm sz N : Nat} {t : Bool} {es : List (List D)} (hg : H.get nm = some (dblk sz es)) (hN : N = es.length) : asDX H (q + 2) vis (.sl nm sz 0 N N t) = some (.sl es t) := by
 subst hN
 have e1 : Nat.ble (0 + es.length) (es.map fun el : List D => el.map AV.d).length = true := by
  rw [Nat.ble_eq, List.length_map]; omega
 have e2 : Nat.beq sz sz = true := nbeq sz
 unfold asDX
 dsimp only
 rw [hg]
 unfold dblk
 simp only [mapO_dd, e1, e2]
 simp
theorem lendW {V : AHeap} {nm sz N : Nat} {t : Bool} {es : List (List D)} {a p : D} (hg : V.get nm = some (dblk sz es)) (hN : N = es.length) : mapO (asDX V 9 []) [.agg [.d a, .sl nm sz 0 N N t], .d p] = some [.agg [a, .sl es t], p] := by
 have h := asDX_sl (q := 6) (vis := []) (t := t) hg hN
 have e1 : asDX V 8 [] (.d a) = some a := rfl
 have e2 : asDX V 9 [] (.d p) = some p := rfl
 have e3 : asDX V 9 [] (.agg [.d a, .sl nm sz 0 N N t]) = some (.agg [a, .sl es t]) := by
  unfold asDX
  simp only [mapO, e1, h]
 simp only [mapO, e2, e3]
theorem nmSs_d : ∀ (l : List D) (t : List Nat), nmSs (l.map AV.d) t = t
 | [], _ => rfl
 | d :: l, t => by
  show AV.nmS (.d d) (nmSs (l.map AV.d) t) = t
  rw [nmSs_d l t]; rfl
theorem fold_dd (t : List Nat) : ∀ es : List (List D), (es.map fun el : List D => el.map AV.d).foldr nmSs t = t
 | [] => rfl
 | d :: es => by rw [List.map_cons, List.foldr_cons, fold_dd t es, nmSs_d]
theorem mark1 {g : Nat → Option Blk} {n sz : Nat} {es : List (List D)} (hg : g n = some (dblk sz es)) : markG g 300 [n] [] = [n] := by
 show markG g (299 + 1) [n] [] = [n]
 unfold markG
 have e : elemN n [] = false := rfl
 simp only [e, hg]
 unfold dblk
 simp only [fold_dd]
 rfl
theorem rd_call {G : Nat → Option (List D)} {env : List (Nat × AV)} {g : Nat → Option Blk} {o : Oper} {f : Operand} {args : Array Operand} {tys : Array TypeId} {n sz : Nat} {es : List (List D)} (ho : o.op = .call ⟨.value f, args, tys⟩) (hn : (evE G env f).nmS (nmSs (args.toList.map (evE G env)) []) = [n]) (hg : g n = some (dblk sz es)) : rdOf G env g o = [n] := by
 unfold rdOf
 rw [ho]
 dsimp only
 rw [hn]
 exact mark1 hg
theorem spine_rd {G : Nat → Option (List D)} {env : List (Nat × AV)} {g : Nat → Option Blk} {o : Oper} {l : List Nat} {k : List Nat → Prop} (h : rdOf G env g o = l) (hk : spine l k) : spine (rdOf G env g o) k := by
 rw [h]; exact hk
theorem chk33 : chkFn Tryz.f33 = true := by kernel_rfl
abbrev rowsL (N : Nat) (rf : Nat → Ps) : List Ps := (List.range N).map rf
def ovStep (N : Nat) (s : (Nat → Ps) × Nat) (p : Ps) : (Nat → Ps) × Nat := if expP (rowsL N s.1) p = 0 then (match antL p s.1 N with
 | a0 :: R => prjF s.1 p a0 R
 | [] => s.1, s.2 + 1) else s
def ovSt (N : Nat) (rf0 : Nat → Ps) (P : List Ps) : Nat → (Nat → Ps) × Nat
 | 0 => (rf0, 0)
 | k + 1 => ovStep N (ovSt N rf0 P k) (P.getD k Ps.z0)
def ovEx (N : Nat) (rf0 : Nat → Ps) (P : List Ps) (k : Nat) : Int := expP (rowsL N (ovSt N rf0 P k).1) (P.getD k Ps.z0)
def ovP (N : Nat) (rf0 : Nat → Ps) (P : List Ps) : Int := if (List.range P.length).any (fun k => decide (ovEx N rf0 P k = -1)) then -1 else ((ovSt N rf0 P P.length).2 : Nat)
def overD (w : Int) (l : List Ps) (w' : Int) (l' : List Ps) : D := if bothS w l w' l' = 0 then .tup [iD (ovP l'.length (fun j => (redRows l' (2 * w.toNat)).getD j Ps.z0) (redRows l (2 * w.toNat))), iD 0] else .tup [iD 0, iD (bothS w l w' l')]
structure OvOk (w : Nat) (l l' : List Ps) : Prop where
 st : ∀ k, k ≤ l.length → (∀ j, j < k → ovEx l'.length (fun j => (redRows l' (2 * w)).getD j Ps.z0) (redRows l (2 * w)) j ≠ -1) → SOk w (rowsL l'.length (ovSt l'.length (fun j => (redRows l' (2 * w)).getD j Ps.z0) (redRows l (2 * w)) k).1)
 an : ∀ k, k < l.length → (∀ j, j < k → ovEx l'.length (fun j => (redRows l' (2 * w)).getD j Ps.z0) (redRows l (2 * w)) j ≠ -1) → ovEx l'.length (fun j => (redRows l' (2 * w)).getD j Ps.z0) (redRows l (2 * w)) k = 0 → antL ((redRows l (2 * w)).getD k Ps.z0) (ovSt l'.length (fun j => (redRows l' (2 * w)).getD j Ps.z0) (redRows l (2 * w)) k).1 l'.length ≠ []
theorem over33 (w : Int) (l : List Ps) (t : Bool) (w' : Int) (l' : List Ps) (t' : Bool) (hn : l.length ≤ 1000) (hn' : l'.length ≤ 1000) (hov : ∀ W : Nat, w = W → SOk W l → SOk W l' → OvOk W l l') : PC Pr GG 33 [stD w l t, stD w' l' t'] (overD w l w' l') := by
 have hb := both106 w l t w' l' t' hn hn'
 have hok := both_ok (w := w) (l := l) (w' := w') (l' := l')
 unfold overD
 by_cases h : bothS w l w' l' = 0
 ·obtain ⟨W, rfl, rfl, hs, hs'⟩ := hok h
  obtain ⟨hst, han⟩ := hov W rfl hs hs'
  have hW : 1 ≤ W ∧ W ≤ 12 := ⟨hs.lo, hs.hi⟩
  have h1 := canon105 (G := GG) hW l t hn hs.vl
  have h2 := opened95 (G := GG) hW l' t' hn' hs'.vl
  rw [h] at hb
  rw [if_pos h, Int.toNat_natCast]
  have hPl := redRows_len l (2 * W)
  have hTl := redRows_len l' (2 * W)
  have hPv : ∀ q, q ∈ redRows l (2 * W) → Vl W q := by
   intro q hq
   obtain ⟨j, hj, rfl⟩ := List.mem_map.1 hq
   exact (red_vl hW.2 hs.vl _).1 j (List.mem_range.1 hj)
  rw [← hPl] at hst han
  generalize redRows l (2 * W) = P at h1 hst han hPl hPv ⊢
  have hTB := psB_list (redRows l' (2 * W))
  rw [hTl] at hTB
  generalize redRows l' (2 * W) = Q at h2 hst han hTB hTl ⊢
  generalize hN : l'.length = N at h2 hst han hTB hTl ⊢
  have hTB' : Blk.arr 4 ((Q.map Ps.l).map fun x => x.map AV.d) = dblk 4 ((List.range N).map fun j => Ps.l ((fun j => Q.getD j Ps.z0) j)) := hTB
  clear hTB
  generalize (fun j => Q.getD j Ps.z0) = rf0 at hst han hTB' ⊢
  have hN1000 : N ≤ 1000 := by omega
  refine pc_walk pok Tryz.func33 chk33 ?_
  conv => whnf
  repeat' first | ((first | refine LookP.mk _ rfl ?_ | refine pc_use hb ?_ | refine pc_use h1 ?_ | refine po_use h2 ?_); conv => whnf) | (intro t ht; cases t <;> conv => whnf)
  ·refine for_use pok (fun k => ⟨[(7, .ptr 0 3 0 0), (8, .d (iD ((ovSt N rf0 P k).2 : Nat))), (21, .d (rowsD P true)), (22, .d (iD (P.map Ps.l).length)), (23, .d (iD k))], [(0, some (wkB W N)), (1, some (dblk 4 ((List.range N).map fun j => ((ovSt N rf0 P k).1 j).l)))], 2⟩) (P.length) (fun k => ∀ j, j < k → ovEx N rf0 P j ≠ -1) (by omega) ?_ (by kernel_rfl) ?_ ?_
   ·first | refine ren_env [(0, 2), (1, 3)] ?_ ?_ ?_ trivial | refine ren_envB [(0, 2), (1, 3)] rfl rfl ?_ ?_ ?_ trivial
    ·repeat' first | exact trivial | refine ⟨⟨by first | rfl | assumption, rfl⟩, ?_⟩
    ·repeat' first | exact trivial | refine ⟨⟨ltB rfl, _, rfl, by first | rfl | assumption | exact get_ren rfl (by first | rfl | assumption | (show some (Blk.ren _ (dblk 4 (Q.map Ps.l))) = _; rw [ren_dblk, ren_dblk]; exact congrArg some hTB')) | (show some (Blk.ren _ (dblk 4 (Q.map Ps.l))) = _; rw [ren_dblk, ren_dblk]; exact congrArg some hTB'), by first | exact below1 rfl | exact below_dblk _ _ _ | exact below_arr rfl⟩, ?_⟩
    ·repeat' first | exact trivial | (refine And.intro ?_ ?_) | (exact fun _ => rfl) | (exact fun h => absurd h (Nat.ne_of_beq_eq_false rfl))
   ·intro k A_k h_k I_k N_k
    have e_k : iadd .i64 (k : Int) 1 = ((k + 1 : Nat) : Int) := iadd_nat (by first | omega | (simp at *; omega))
    have hS := hst k (by omega) I_k
    have hgd : P.getD k Ps.z0 = P[k] := by rw [List.getD_eq_getElem?_getD, List.getElem?_eq_getElem h_k]; rfl
    have hpv := hPv P[k] (List.getElem_mem h_k)
    have hx := expected107 hS true hpv
    have hE : ovEx N rf0 P k = expP (rowsL N (ovSt N rf0 P k).1) P[k] := by unfold ovEx; rw [hgd]
    have hA := han k h_k I_k
    have hnx : ovSt N rf0 P (k + 1) = ovStep N (ovSt N rf0 P k) P[k] := by rw [← hgd]; rfl
    have hvl : ∀ j, j < N → Vl W ((ovSt N rf0 P k).1 j) := fun j hj => hS.vl _ (List.mem_map.2 ⟨j, List.mem_range.2 hj, rfl⟩)
    have hcnt : (ovSt N rf0 P k).2 ≤ k := by
     have key : ∀ k, (ovSt N rf0 P k).2 ≤ k := by
      intro k
      induction k with
      | zero => exact Nat.le_refl _
      | succ k ih =>
       show (ovStep N (ovSt N rf0 P k) _).2 ≤ k + 1
       unfold ovStep
       split
       ·exact Nat.succ_le_succ ih
       ·omega
     exact key k
    unfold ovStep at hnx
    rw [hgd] at hA
    rw [hE] at hA
    have hout : expP (rowsL N (ovSt N rf0 P k).1) P[k] = -1 → ovP N rf0 P = -1 := by
     intro h
     unfold ovP
     rw [if_pos (List.any_eq_true.2 ⟨k, List.mem_range.2 h_k, by rw [hE, h]; rfl⟩)]
    generalize ovSt N rf0 P k = s at hx hE hA hnx hvl hcnt hout hS ⊢
    have er : rowsD (rowsL N s.1) true = .sl ((List.range N).map fun j => Ps.l (s.1 j)) true := by
     unfold rowsD rowsL; rw [List.map_map]; rfl
    have hx2 : PC Pr GG 107 [.agg [iD W, .sl ((List.range N).map fun j => Ps.l (s.1 j)) true], P[k].d] (iD (expP (rowsL N s.1) P[k])) := by rw [← er]; exact hx
    clear hx
    have hnn : ovEx N rf0 P k ≠ -1 → ∀ j, j < k + 1 → ovEx N rf0 P j ≠ -1 := by
     intro h j hj
     rcases Nat.lt_or_ge j k with q | q
     ·exact I_k j q
     ·rw [show j = k by omega]; exact h
    rw [hE] at hnn
    generalize expP (rowsL N s.1) P[k] = e at hx2 hA hnx hout hnn
    conv => whnf
    repeat (refine LookP.mk _ rfl ?_; conv => whnf)
    intro t ht
    cases t
    ·exfalso; first | (simp at ht; done) | (simp at ht; omega)
    conv => whnf
    repeat' first | ((first | refine LookP.mk _ (by first | rfl | exact get_l h_k | exact lendW rfl (by simp)) ?_ | refine ShlP.mk _ (by first | (simp only [List.set, over, List.take, List.drop, List.append_eq, List.nil_append, List.cons_append, List.length]; rfl) | rfl) ?_ | refine And.intro (by first | assumption | exact ⟨by kernel_rfl, rfl⟩ | decide | omega) ?_ | refine spine_rd (l := [1]) (rd_call rfl rfl (show _ = some (dblk 4 ((List.range N).map fun j => Ps.l (s.1 j))) from rfl)) ?_ | refine pc_head hx2 ?_ | refine HpP.force ?_); conv => whnf) | (intro t ht; cases t <;> conv => whnf)
    ·have e1 : e ≠ 0 := by simpa using ht
     have e2 : e ≠ -1 := by intro h; subst h; simp_all
     rw [if_neg e1] at hnx
     refine N_k _ ?_ ?_
     ·exact hnn e2
     ·refine keep_env (by first | exact Nat.zero_le _ | exact Nat.le_of_ble_eq_true rfl) ?_ ?_ trivial
      ·repeat' first | exact trivial | refine ⟨⟨by first | rfl | assumption | exact congrArg (fun n => AV.d (iD n)) e_k | (rw [hnx]; rfl), rfl⟩, ?_⟩
      ·repeat' first | exact trivial | refine ⟨⟨ltB rfl, _, rfl, by first | rfl | assumption | (rw [hnx]; rfl), by first | exact below1 rfl | exact below_dblk _ _ _ | exact below_arr rfl⟩, ?_⟩
    ·have e1 : e = 0 := by simpa using ht
     subst e1
     rw [if_pos rfl] at hnx
     cases hR : antL P[k] s.1 N with
     | nil => exact absurd hR (hA rfl)
     | cons a0 R =>
      rw [hR] at hnx
      dsimp only at hnx
      have hi : iadd .i64 (s.2 : Int) 1 = ((s.2 + 1 : Nat) : Int) := iadd_nat (b := 1) (by omega)
      refine project_use hW hN1000 hvl hpv hR rfl rfl ?_
      conv => whnf
      skip
      refine N_k _ ?_ ?_
      ·exact hnn (by decide)
      ·refine keep_env (by first | exact Nat.zero_le _ | exact Nat.le_of_ble_eq_true rfl) ?_ ?_ trivial
       ·repeat' first | exact trivial | refine ⟨⟨by first | rfl | assumption | exact congrArg (fun n => AV.d (iD n)) e_k | (rw [hnx]; exact congrArg (fun n => AV.d (iD n)) hi), rfl⟩, ?_⟩
       ·repeat' first | exact trivial | refine ⟨⟨ltB rfl, _, rfl, by first | rfl | assumption | (rw [hnx]; rfl), by first | exact below1 rfl | exact below_dblk _ _ _ | exact below_arr rfl⟩, ?_⟩
    ·have e1 : e = -1 := by simpa using ht
     rw [hout e1]
     exact fin rfl
   ·intro A_last I_last
    conv => whnf
    repeat (refine LookP.mk _ rfl ?_; conv => whnf)
    intro t ht
    cases t
    rotate_left
    ·exfalso; first | (simp at ht; done) | (simp at ht; omega)
    conv => whnf
    skip
    have e : ovP N rf0 P = ((ovSt N rf0 P P.length).2 : Nat) := by
     unfold ovP
     rw [if_neg fun h => ?_]
     obtain ⟨k, hk, he⟩ := List.any_eq_true.1 h
     exact I_last k (List.mem_range.1 hk) (by simpa using he)
    rw [e]
    exact fin rfl
  ·exact absurd ht (by decide)
 ·rw [if_neg h]
  generalize bothS w l w' l' = e at hb h
  refine pc_walk pok Tryz.func33 chk33 ?_
  conv => whnf
  repeat' first | ((first | refine LookP.mk _ rfl ?_ | refine pc_use hb ?_); conv => whnf) | (intro t ht; cases t <;> conv => whnf)
  ·exact absurd (by simpa using ht) h
  ·exact fin rfl
end Go.Tz
namespace Go.Tz
open Go Go.AL Go.Proofs Go.Ma
variable {G : Nat → Option (List D)}
abbrev intsD (ks : List Int) (u : Bool) : D := .sl (ks.map fun k => [iD k]) u
theorem get_i {ks : List Int} {i : Nat} (h : i < ks.length) : (ks.map fun k => [iD k])[(i : Int).toNat]? = some [iD ks[i]] := by
 rw [Int.toNat_natCast, List.getElem?_map, List.getElem?_eq_getElem h]; rfl
end Go.Tz
namespace Go.Tz
open Go Go.AL Go.Proofs Go.Ma
variable {G : Nat → Option (List D)}
def sbStep (wb : Nat → Nat → Bool) (i : Nat) (q : Ps) (s : Ps × (Nat → Bool)) : Ps × (Nat → Bool) := if 0 ≤ leadI q ∧ bitB s.1 (leadI q) = true then (mulS s.1 q, fun j => s.2 j != wb i j) else s
def sbSt (m : List Ps) (wb : Nat → Nat → Bool) (p : Ps) : Nat → Ps × (Nat → Bool)
 | 0 => (p, fun _ => false)
 | i + 1 => sbStep wb i (m.getD i Ps.z0) (sbSt m wb p i)
def boolB (n : Nat) (f : Nat → Bool) : Blk := dblk 1 ((List.range n).map fun j => [.bool (f j)])
def tkL (f : Nat → Bool) (n : Nat) : List Nat := (List.range n).filter f
theorem tkL_snoc (f : Nat → Bool) (i : Nat) : tkL f (i + 1) = if f i = true then tkL f i ++ [i] else tkL f i := by
 unfold tkL
 rw [List.range_succ, List.filter_append]
 by_cases h : f i = true
 ·rw [if_pos h]; simp [h]
 ·rw [if_neg h]; simp [h]
theorem tkL_le (f : Nat → Bool) (i : Nat) : (tkL f i).length ≤ i := by
 have := List.length_filter_le f (List.range i)
 simpa [tkL] using this
def wdD (n : Nat) (wb : Nat → Nat → Bool) : List (List D) := (List.range n).map fun j => [.sl ((List.range n).map fun q => [.bool (wb j q)]) true]
theorem get_range1 {n i : Nat} {f : Nat → List D} (h : i < n) : ((List.range n).map f)[(i : Int).toNat]? = some (f i) := by simp [h]
theorem sb_vl {w : Nat} (hw : w ≤ 12) {m : List Ps} {wb : Nat → Nat → Bool} {p : Ps} (hm : ∀ q, q ∈ m → Vl w q) (hp : Vl w p) : ∀ {i : Nat}, i ≤ m.length → Vl w (sbSt m wb p i).1
 | 0, _ => hp
 | i + 1, hi => by
  have ih := sb_vl hw (wb := wb) hm hp (i := i) (by omega)
  simp only [sbSt, sbStep]
  split
  ·refine mul_vl hw ih ?_
   rw [List.getD_eq_getElem?_getD, List.getElem?_eq_getElem (show i < m.length by omega)]
   exact hm _ (List.getElem_mem _)
  ·exact ih
theorem rep_false (n : Nat) : List.replicate n [AV.d (.bool false)] = ((List.range n).map fun _ : Nat => [D.bool false]).map fun el => el.map AV.d := by
 apply List.ext_getElem
 ·simp
 ·intro i h1 h2; simp
theorem boolB_congr {n : Nat} {f g : Nat → List D} (h : ∀ j, f j = g j) : Blk.arr 1 (((List.range n).map f).map fun el => el.map AV.d) = dblk 1 ((List.range n).map g) := by rw [funext h]; rfl
theorem boolB_eq {n : Nat} {f g : Nat → Bool} (h : ∀ r, r < n → f r = g r) : boolB n f = boolB n g := by
 unfold boolB
 congr 1
 exact List.map_congr_left fun r hr => by rw [h r (List.mem_range.1 hr)]
theorem lead_lt (q : Ps) : leadI q < 2 * q.w.toNat ∨ leadI q = -1 := by
 have key : ∀ f k, leadF q f k < ((k + f : Nat) : Int) ∨ leadF q f k = -1 := by
  intro f
  induction f with
  | zero => intro k; exact .inr rfl
  | succ f ih =>
   intro k
   simp only [leadF]
   split
   ·left; omega
   ·have := ih (k + 1)
    rw [show k + 1 + f = k + (f + 1) by omega] at this
    exact this
 have := key (2 * q.w.toNat) 0
 unfold leadI
 rw [Nat.zero_add] at this
 push_cast at this
 exact this
theorem chk204 : chkFn Tryz.f204 = true := by kernel_rfl
def subD (n : Nat) (s : Ps × (Nat → Bool)) : D := if s.1.x ≠ 0 ∨ s.1.z ≠ 0 then .tup [.sl [] true, .bool false] else .tup [.sl (numD (tkL s.2 n)) false, .bool true]
theorem subset204 {w : Nat} (hw : 1 ≤ w ∧ w ≤ 12) (l : List Ps) (t : Bool) (p : Ps) (m : List Ps) (wb : Nat → Nat → Bool) (hn : l.length ≤ 1000) (hml : m.length = l.length) (hm : ∀ q, q ∈ m → Vl w q) (hp : Vl w p)
  (hred : PC Pr G 100 [rowsD l t] (.tup [rowsD m false, .sl (wdD l.length wb) false])) : PC Pr G 204 [rowsD l t, p.d] (subD l.length (sbSt m wb p l.length)) := by
 refine pc_freeze (isFn_of Tryz.func204 chk204) (fn_walk pok Tryz.func204 chk204 ?_)
 conv => whnf
 repeat' first | ((first | refine LookP.mk _ rfl ?_ | refine ShlP.mk _ (by first | exact rep_false _ | (simp only [List.set, over, List.take, List.drop, List.append_eq, List.nil_append, List.cons_append, List.length]; rfl) | rfl) ?_ | (refine And.intro (by first | exact ⟨Int.natCast_nonneg _, rfl, by show 1 * (((l.map Ps.l).length : Nat) : Int).toNat ≤ 281474976710656; rw [Int.toNat_natCast, List.length_map]; omega, by decide, by decide⟩ | assumption | exact ⟨by kernel_rfl, rfl⟩ | decide | omega) ?_) | refine pc_use hred ?_ | refine HpP.force ?_); conv => whnf)
 have eN : (((l.map Ps.l).length : Nat) : Int).toNat = l.length := by simp
 refine for_use pok (fun i => ⟨[(0, .d (rowsD l t)), (6, .d (rowsD m false)), (7, .d (.sl (wdD l.length wb) false)), (8, .ptr 1 4 0 0), (9, .sl 2 1 0 l.length l.length true), (10, .d (iD i))], [(1, some (.arr 4 [(sbSt m wb p i).1.l.map AV.d])), (2, some (boolB l.length (sbSt m wb p i).2))], 3⟩) (l.length) (fun _ => True) (trivial) ?_ (by kernel_rfl) ?_ ?_
 ·refine keep_env (by first | exact Nat.zero_le _ | exact Nat.le_of_ble_eq_true rfl) ?_ ?_ trivial
  ·repeat' first | exact trivial | refine ⟨⟨by first | rfl | assumption | (show AV.sl 2 1 0 (((l.map Ps.l).length : Nat) : Int).toNat (((l.map Ps.l).length : Nat) : Int).toNat true = _; rw [eN]), rfl⟩, ?_⟩
  ·repeat' first | exact trivial | refine ⟨⟨ltB rfl, _, rfl, by first | rfl | assumption | (show some (Blk.arr 1 (((List.range (((l.map Ps.l).length : Nat) : Int).toNat).map fun _ => [D.bool false]).map fun el => el.map AV.d)) = _; rw [eN]; rfl), by first | exact below1 rfl | exact below_dblk _ _ _ | exact below_arr rfl | exact below_dblk _ _ _⟩, ?_⟩
 ·intro i A_i h_i I_i N_i
  have e_i : iadd .i64 (i : Int) 1 = ((i + 1 : Nat) : Int) := iadd_nat (by first | omega | (simp at *; omega))
  have him : i < m.length := by omega
  have hs : sbSt m wb p (i + 1) = sbStep wb i m[i] (sbSt m wb p i) := by
   simp only [sbSt, List.getD_eq_getElem?_getD, List.getElem?_eq_getElem him, Option.getD_some]
  have hqv := hm _ (List.getElem_mem him)
  have hsv := sb_vl hw.2 (wb := wb) hm hp (i := i) (by omega)
  have hqw := vl_w hqv
  have hsw := vl_w hsv
  have hlead := lead190 (G := G) m[i] (by omega)
  have hll := lead_lt m[i]
  have hmul := mulS_c (G := G) (sbSt m wb p i).1 m[i] (by omega) (by omega)
  unfold sbStep at hs
  generalize sbSt m wb p i = s at hs hsv hsw hmul ⊢
  have hgm : (m.map Ps.l)[(i : Int).toNat]? = some (m[i]).l := get_l him
  generalize m[i] = q at hs hqv hqw hlead hll hmul hgm
  by_cases h0 : 0 ≤ leadI q
  ·have hbit := bit188 (G := G) s.1 (leadI q) h0 (by omega)
   cases hb : bitB s.1 (leadI q) with
   | false =>
    rw [hb] at hs hbit
    rw [if_neg (by simp)] at hs
    generalize leadI q = k at hlead h0 hbit
    conv => whnf
    repeat (refine LookP.mk _ rfl ?_; conv => whnf)
    intro t ht
    cases t
    ·exfalso; first | (simp at ht; done) | (simp at ht; omega)
    conv => whnf
    repeat' first | ((first | refine LookP.mk _ (by first | rfl | exact hgm) ?_ | refine And.intro (by first | assumption | exact ⟨by kernel_rfl, rfl⟩ | decide | omega) ?_ | refine pc_use hlead ?_ | refine pc_use hbit ?_); conv => whnf) | (intro t ht; cases t <;> conv => whnf)
    ·exfalso; simp at ht; omega
    ·refine N_i _ ?_ ?_
     ·first | trivial | assumption | omega
     ·refine keep_env (by first | exact Nat.zero_le _ | exact Nat.le_of_ble_eq_true rfl) ?_ ?_ trivial
      ·repeat' first | exact trivial | refine ⟨⟨by first | rfl | assumption | exact congrArg (fun n => AV.d (iD n)) e_i, rfl⟩, ?_⟩
      ·repeat' first | exact trivial | refine ⟨⟨ltB rfl, _, rfl, by first | rfl | assumption | (rw [hs]; rfl), by first | exact below1 rfl | exact below_dblk _ _ _ | exact below_arr rfl | exact below_dblk _ _ _⟩, ?_⟩
   | true =>
    rw [hb] at hs hbit
    rw [if_pos ⟨h0, rfl⟩] at hs
    generalize leadI q = k at hlead h0 hbit
    generalize mulS s.1 q = g at hs hmul
    conv => whnf
    repeat (refine LookP.mk _ rfl ?_; conv => whnf)
    intro t ht
    cases t
    ·exfalso; first | (simp at ht; done) | (simp at ht; omega)
    conv => whnf
    repeat' first | ((first | refine LookP.mk _ (by first | rfl | exact hgm) ?_ | refine ShlP.mk _ (by first | (simp only [List.set, over, List.take, List.drop, List.append_eq, List.nil_append, List.cons_append, List.length]; rfl) | rfl) ?_ | refine And.intro (by first | assumption | exact ⟨by kernel_rfl, rfl⟩ | decide | omega) ?_ | refine pc_use hlead ?_ | refine pc_use hbit ?_ | refine pc_head hmul ?_ | refine HpP.force ?_); conv => whnf) | (intro t ht; cases t <;> conv => whnf)
    ·exfalso; simp at ht; omega
    refine for_use pok (fun j => ⟨[(0, .d (rowsD l t)), (6, .d (rowsD m false)), (7, .d (.sl (wdD l.length wb) false)), (8, .ptr 1 4 0 0), (9, .sl 2 1 0 l.length l.length true), (10, .d (iD i)), (12, .d (iD j))], [(1, some (.arr 4 [g.l.map AV.d])), (2, some (boolB l.length fun r => if r < j then s.2 r != wb i r else s.2 r))], 3⟩) (l.length) (fun _ => True) (trivial) ?_ (by kernel_rfl) ?_ ?_
    ·refine keep_env (by first | exact Nat.zero_le _ | exact Nat.le_of_ble_eq_true rfl) ?_ ?_ trivial
     ·repeat' first | exact trivial | refine ⟨⟨by first | rfl | assumption, rfl⟩, ?_⟩
     ·repeat' first | exact trivial | refine ⟨⟨ltB rfl, _, rfl, by first | rfl | assumption | (show some (boolB l.length s.2) = some (boolB l.length fun r => if r < 0 then s.2 r != wb i r else s.2 r); simp), by first | exact below1 rfl | exact below_dblk _ _ _ | exact below_arr rfl | exact below_dblk _ _ _⟩, ?_⟩
    ·intro j A_j h_j I_j N_j
     have e_j : iadd .i64 (j : Int) 1 = ((j + 1 : Nat) : Int) := iadd_nat (by first | omega | (simp at *; omega))
     have hg1 : (fun r : Nat => [D.bool (if r < j then s.2 r != wb i r else s.2 r)]) j = [.bool (s.2 j)] := by simp
     conv => whnf
     repeat (refine LookP.mk _ rfl ?_; conv => whnf)
     intro t ht
     cases t
     ·exfalso; first | (simp at ht; done) | (simp at ht; omega)
     conv => whnf
     repeat' first | ((first | refine LookP.mk _ (by first | rfl | exact get_range1 h_i | exact get_range1 h_j | exact get_rwE h_j hg1) ?_ | refine ShlP.mk _ (by first | exact set_rw (x := [_]) h_j | rfl) ?_ | refine And.intro (by first | exact ⟨Int.natCast_nonneg _, by omega⟩ | assumption | exact ⟨by kernel_rfl, rfl⟩ | decide | omega) ?_ | refine HpP.force ?_); conv => whnf)
     have hst : ∀ r, (if r = j then [D.bool (!(s.2 j == wb i j))] else [D.bool (if r < j then s.2 r != wb i r else s.2 r)]) = [D.bool (if r < j + 1 then s.2 r != wb i r else s.2 r)] := by
      intro r
      by_cases e : r = j
      ·subst e; rw [if_pos rfl, if_pos (Nat.lt_succ_self _)]; rfl
      ·rw [if_neg e]
       have : (r < j + 1) ↔ (r < j) := by omega
       simp only [this]
     refine N_j _ ?_ ?_
     ·first | trivial | assumption | omega
     ·refine keep_env (by first | exact Nat.zero_le _ | exact Nat.le_of_ble_eq_true rfl) ?_ ?_ trivial
      ·repeat' first | exact trivial | refine ⟨⟨by first | rfl | assumption | exact congrArg (fun n => AV.d (iD n)) e_j, rfl⟩, ?_⟩
      ·repeat' first | exact trivial | refine ⟨⟨ltB rfl, _, rfl, by first | rfl | assumption | exact congrArg some (boolB_congr hst), by first | exact below1 rfl | exact below_dblk _ _ _ | exact below_arr rfl | exact below_dblk _ _ _⟩, ?_⟩
    ·intro A_last I_last
     conv => whnf
     repeat (refine LookP.mk _ rfl ?_; conv => whnf)
     intro t ht
     cases t
     rotate_left
     ·exfalso; first | (simp at ht; done) | (simp at ht; omega)
     conv => whnf
     skip
     have hbb := boolB_eq (n := l.length) (f := fun r => if r < l.length then s.2 r != wb i r else s.2 r) (g := fun r => s.2 r != wb i r) (fun r hr => by rw [if_pos hr])
     refine N_i _ ?_ ?_
     ·first | trivial | assumption | omega
     ·refine keep_env (by first | exact Nat.zero_le _ | exact Nat.le_of_ble_eq_true rfl) ?_ ?_ trivial
      ·repeat' first | exact trivial | refine ⟨⟨by first | rfl | assumption | exact congrArg (fun n => AV.d (iD n)) e_i, rfl⟩, ?_⟩
      ·repeat' first | exact trivial | refine ⟨⟨ltB rfl, _, rfl, by first | rfl | assumption | (rw [hs]; rfl) | (rw [hs]; exact congrArg some hbb), by first | exact below1 rfl | exact below_dblk _ _ _ | exact below_arr rfl | exact below_dblk _ _ _⟩, ?_⟩
  ·have hb : ¬ (0 ≤ leadI q ∧ bitB s.1 (leadI q) = true) := fun h => h0 h.1
   rw [if_neg hb] at hs
   generalize leadI q = k at hlead h0
   conv => whnf
   repeat (refine LookP.mk _ rfl ?_; conv => whnf)
   intro t ht
   cases t
   ·exfalso; first | (simp at ht; done) | (simp at ht; omega)
   conv => whnf
   repeat' first | ((first | refine LookP.mk _ (by first | rfl | exact hgm) ?_ | refine And.intro (by first | assumption | exact ⟨by kernel_rfl, rfl⟩ | decide | omega) ?_ | refine pc_use hlead ?_); conv => whnf) | (intro t ht; cases t <;> conv => whnf)
   ·refine N_i _ ?_ ?_
    ·first | trivial | assumption | omega
    ·refine keep_env (by first | exact Nat.zero_le _ | exact Nat.le_of_ble_eq_true rfl) ?_ ?_ trivial
     ·repeat' first | exact trivial | refine ⟨⟨by first | rfl | assumption | exact congrArg (fun n => AV.d (iD n)) e_i, rfl⟩, ?_⟩
     ·repeat' first | exact trivial | refine ⟨⟨ltB rfl, _, rfl, by first | rfl | assumption | (rw [hs]; rfl), by first | exact below1 rfl | exact below_dblk _ _ _ | exact below_arr rfl | exact below_dblk _ _ _⟩, ?_⟩
   ·exfalso; simp at ht; omega
 ·intro A_last I_last
  have hsv := sb_vl hw.2 (wb := wb) hm hp (i := l.length) (by omega)
  generalize sbSt m wb p l.length = s at hsv ⊢
  unfold subD
  conv => whnf
  repeat (refine LookP.mk _ rfl ?_; conv => whnf)
  intro t ht
  cases t
  rotate_left
  ·exfalso; first | (simp at ht; done) | (simp at ht; omega)
  conv => whnf
  repeat' first | (refine LookP.mk _ rfl ?_; conv => whnf) | (intro t ht; cases t <;> conv => whnf)
  rotate_left
  ·have hz : s.1.x ≠ 0 ∨ s.1.z ≠ 0 := .inr (by simpa using ht)
   rw [if_pos hz]
   exact fin (.d _)
  ·have hz : s.1.x ≠ 0 ∨ s.1.z ≠ 0 := .inl (by simpa using ht)
   rw [if_pos hz]
   exact fin (.d _)
  have hz : ¬ (s.1.x ≠ 0 ∨ s.1.z ≠ 0) := by
   rintro (h | h)
   ·simp_all
   ·simp_all
  rw [if_neg hz]
  refine for_use pok (fun i => ⟨[(0, .d (rowsD l t)), (9, .sl 2 1 0 l.length l.length true), (13, .sl 3 1 0 (tkL s.2 i).length (tkL s.2 i).length false), (14, .d (iD i))], [(2, some (boolB l.length s.2)), (3, some (dblk 1 (numD (tkL s.2 i))))], 4⟩) (l.length) (fun _ => True) (trivial) ?_ (by kernel_rfl) ?_ ?_
  ·refine Sub.trans (sub_nil (t := 13) (S := 1) (Nat.zero_le _) rfl) ?_
   first | refine ren_env [(3, 3)] ?_ ?_ ?_ trivial | refine ren_envB [(3, 3)] rfl rfl ?_ ?_ ?_ trivial
   ·repeat' first | exact trivial | refine ⟨⟨by first | rfl | assumption, rfl⟩, ?_⟩
   ·repeat' first | exact trivial | refine ⟨⟨ltB rfl, _, rfl, by first | rfl | assumption | exact get_ren rfl (by first | rfl | assumption), by first | exact below1 rfl | exact below_dblk _ _ _ | exact below_arr rfl | exact below_dblk _ _ _⟩, ?_⟩
   ·repeat' first | exact trivial | (refine And.intro ?_ ?_) | (exact fun _ => rfl) | (exact fun h => absurd h (Nat.ne_of_beq_eq_false rfl))
  ·intro i A_i h_i I_i N_i
   have e_i : iadd .i64 (i : Int) 1 = ((i + 1 : Nat) : Int) := iadd_nat (by first | omega | (simp at *; omega))
   have hs := tkL_snoc s.2 i
   have hle := tkL_le s.2 i
   have hg1 : (fun r : Nat => [D.bool (s.2 r)]) i = [.bool (s.2 i)] := rfl
   generalize tkL s.2 i = A at hs hle
   cases hb : s.2 i with
   | false =>
    rw [hb] at hs hg1
    rw [if_neg (by simp)] at hs
    conv => whnf
    repeat (refine LookP.mk _ rfl ?_; conv => whnf)
    intro t ht
    cases t
    ·exfalso; first | (simp at ht; done) | (simp at ht; omega)
    conv => whnf
    repeat' first | ((first | refine LookP.mk _ (by first | rfl | exact get_rwE h_i hg1) ?_ | refine And.intro (by first | exact ⟨Int.natCast_nonneg _, by omega⟩ | assumption | exact ⟨by kernel_rfl, rfl⟩ | decide | omega) ?_ | fail); conv => whnf) | fail
    refine N_i _ ?_ ?_
    ·first | trivial | assumption | omega
    ·refine keep_env (by first | exact Nat.zero_le _ | exact Nat.le_of_ble_eq_true rfl) ?_ ?_ trivial
     ·repeat' first | exact trivial | refine ⟨⟨by first | rfl | assumption | exact congrArg (fun n => AV.d (iD n)) e_i | (rw [hs]; rfl), rfl⟩, ?_⟩
     ·repeat' first | exact trivial | refine ⟨⟨ltB rfl, _, rfl, by first | rfl | assumption | (rw [hs]; rfl), by first | exact below1 rfl | exact below_dblk _ _ _ | exact below_arr rfl | exact below_dblk _ _ _⟩, ?_⟩
   | true =>
    rw [hb] at hs hg1
    rw [if_pos rfl] at hs
    have hsn : numD (tkL s.2 (i + 1)) = numD A ++ [[iD i]] := by rw [hs]; simp [numD]
    have hnl : (numD A).length = A.length := by simp [numD]
    generalize numD A = M at hsn hnl
    conv => whnf
    repeat (refine LookP.mk _ rfl ?_; conv => whnf)
    intro t ht
    cases t
    ·exfalso; first | (simp at ht; done) | (simp at ht; omega)
    conv => whnf
    repeat' first | ((first | refine LookP.mk _ (by first | rfl | exact get_rwE h_i hg1) ?_ | refine ShlP.mk _ (by first | (simp only [List.set, over, List.take, List.drop, List.append_eq, List.nil_append, List.cons_append, List.length]; rfl) | rfl) ?_ | (refine And.intro (by first | exact ⟨Int.natCast_nonneg _, by omega⟩ | exact Nat.le_refl _ | exact ⟨by rw [List.length_map]; exact hnl, by decide, by show (2 * (A.length + 1) + 192) * 8 ≤ 281474976710656; omega⟩ | assumption | exact ⟨by kernel_rfl, rfl⟩ | decide | omega) ?_) | rw [nbeq] | refine HpP.force ?_); conv => whnf)
    refine N_i _ ?_ ?_
    ·first | trivial | assumption | omega
    ·first | refine ren_env [(3, 5)] ?_ ?_ ?_ trivial | refine ren_envB [(3, 5)] rfl rfl ?_ ?_ ?_ trivial
     ·repeat' first | exact trivial | refine ⟨⟨by first | rfl | assumption | exact congrArg (fun n => AV.d (iD n)) e_i | (rw [hs, List.length_append]; rfl), rfl⟩, ?_⟩
     ·repeat' first | exact trivial | refine ⟨⟨ltB rfl, _, rfl, by first | rfl | assumption | exact get_ren rfl (by first | rfl | assumption | exact get_ren rfl (by rw [hsn]; exact congrArg some (dblk_snoc rfl))) | exact get_ren rfl (by rw [hsn]; exact congrArg some (dblk_snoc rfl)), by first | exact below1 rfl | exact below_dblk _ _ _ | exact below_arr rfl | exact below_dblk _ _ _⟩, ?_⟩
     ·repeat' first | exact trivial | (refine And.intro ?_ ?_) | (exact fun _ => rfl) | (exact fun h => absurd h (Nat.ne_of_beq_eq_false rfl))
  ·intro A_last I_last
   conv => whnf
   repeat (refine LookP.mk _ rfl ?_; conv => whnf)
   intro t ht
   cases t
   rotate_left
   ·exfalso; first | (simp at ht; done) | (simp at ht; omega)
   conv => whnf
   skip
   refine fin (asD_tup2 (asD_dblk rfl (by simp [numD])) (.d _))
end Go.Tz
namespace Go.Tz
open Go Go.AL Go.Proofs Go.Ma
variable {G : Nat → Option (List D)}
theorem lendS {V : AHeap} {nm sz N : Nat} {t : Bool} {es : List (List D)} {a : D} (hg : V.get nm = some (dblk sz es)) (hN : N = es.length) : mapO (asDX V 9 []) [.d a, .sl nm sz 0 N N t] = some [a, .sl es t] := by
 have h := asDX_sl (q := 7) (vis := []) (t := t) hg hN
 have e1 : asDX V 9 [] (.d a) = some a := rfl
 simp only [mapO, e1, h]
def sbL (w : Nat) (l : List Ps) (p : Ps) : Ps × (Nat → Bool) := sbSt (redRows l (2 * w)) (redN l (2 * w)).2.1 p l.length
def tkP (l : List Ps) (f : Nat → Bool) : List Ps := (tkL f l.length).map fun n => l.getD n Ps.z0
def phR (w : Nat) (l : List Ps) (p : Ps) : Int := (isub .i64 (iadd .i64 4 p.p) (prodS w (tkP l (sbL w l p).2)).p).tmod 4
def findR (w : Nat) (l : List Ps) (p : Ps) : D := if (sbL w l p).1.x ≠ 0 ∨ (sbL w l p).1.z ≠ 0 then .tup [.any, iD 0, iD 6] else .tup [.any, iD (phR w l p), iD 0]
theorem chk123 : chkFn Tryz.f123 = true := by kernel_rfl
theorem find123 {w : Nat} {l : List Ps} (hs : SOk w l) (t : Bool) {p : Ps} (hp : Vl w p) : PC Pr G 123 [rowsD l t, p.d] (findR w l p) := by
 have hlo := hs.lo
 have hhi := hs.hi
 have hlen := hs.len
 have hpos : 0 < l.length := by omega
 have hww : ∀ q, q ∈ l → q.w = (w : Int) := fun q hq => vl_w (hs.vl q hq)
 have hi := indep90 (G := G) l t w (by omega) hpos hww (by omega) (by omega)
 rw [Int.toNat_natCast, hs.rank, decide_eq_true rfl] at hi
 have hr := red_pc (G := G) l t w (by omega) hpos hww (by omega) (by omega)
 rw [Int.toNat_natCast] at hr
 have hmv : ∀ q, q ∈ redRows l (2 * w) → Vl w q := by
  intro q hq
  obtain ⟨j, hj, rfl⟩ := List.mem_map.1 hq
  exact (red_vl hhi hs.vl _).1 j (List.mem_range.1 hj)
 have hsub := subset204 (G := G) ⟨hlo, hhi⟩ l t p (redRows l (2 * w)) (redN l (2 * w)).2.1 (by omega) (redRows_len l _) hmv hp hr
 have hsv : sbSt (redRows l (2 * w)) (redN l (2 * w)).2.1 p l.length = sbL w l p := rfl
 rw [hsv] at hsub
 unfold subD at hsub
 unfold findR phR
 generalize sbL w l p = s at hsub ⊢
 have hg0 : (l.map Ps.l)[(0 : Int).toNat]? = some (l[0]).l := get_l0 hpos
 have hwp : p.w = (l[0]).w := by rw [vl_w hp, vl_w (hs.vl _ (List.getElem_mem hpos))]
 refine pc_freezeW (isFn_of Tryz.func123 chk123) (fn_walk pok Tryz.func123 chk123 ?_)
 by_cases hz : s.1.x ≠ 0 ∨ s.1.z ≠ 0
 ·rw [if_pos hz] at hsub ⊢
  conv => whnf
  repeat' first | ((first | refine LookP.mk _ (by first | rfl | exact hg0) ?_ | refine And.intro (by first | assumption | exact ⟨by kernel_rfl, rfl⟩ | decide | omega) ?_ | refine pc_use hi ?_ | refine pc_use hsub ?_ | refine HpP.force ?_); conv => whnf) | (intro t ht; cases t <;> conv => whnf)
  ·exact fin ⟨_, .d _, dw_any3 _ _ _⟩
  ·exfalso; simp at ht; exact ht hwp
 ·rw [if_neg hz] at hsub ⊢
  have htl : ∀ n, n ∈ tkL s.2 l.length → n < l.length := fun n hn => List.mem_range.1 (List.mem_filter.1 hn).1
  have htn := tkL_le s.2 l.length
  unfold tkP
  generalize tkL s.2 l.length = A at hsub htl htn ⊢
  have hpr := prod205 (G := G) w (A.map fun n => l.getD n Ps.z0) false (by simp; omega) (by omega) (by omega) (by
   intro q hq
   obtain ⟨n, hn, rfl⟩ := List.mem_map.1 hq
   have h := htl n hn
   rw [List.getD_eq_getElem?_getD, List.getElem?_eq_getElem h]
   exact hww _ (List.getElem_mem h))
  rw [← vl_w hp] at hpr ⊢
  generalize prodS p.w (A.map fun n => l.getD n Ps.z0) = g at hpr ⊢
  conv => whnf
  repeat' first | ((first | refine LookP.mk _ (by first | rfl | exact hg0) ?_ | refine And.intro (by first | assumption | exact ⟨by kernel_rfl, rfl⟩ | decide | omega) ?_ | refine pc_use hi ?_ | refine pc_use hsub ?_ | refine HpP.force ?_); conv => whnf) | (intro t ht; cases t <;> conv => whnf)
  rotate_left
  ·exfalso; simp at ht; exact ht hwp
  refine for_use pok (fun i => ⟨[(0, .d (rowsD l t)), (3, .ptr 0 4 0 0), (7, .d (.sl (numD A) false)), (9, .sl 1 4 0 i i false), (10, .d (iD i))], [(0, some (.arr 4 [p.l.map AV.d])), (1, some (dblk 4 (((A.map fun n => l.getD n Ps.z0).take i).map Ps.l)))], 2⟩) (A.length) (fun _ => True) (trivial) ?_ (by kernel_rfl) ?_ ?_
  ·refine Sub.trans (sub_nil (t := 9) (S := 4) (Nat.zero_le _) rfl) ?_
   refine keep_env (by first | exact Nat.zero_le _ | exact Nat.le_of_ble_eq_true rfl) ?_ ?_ trivial
   ·repeat' first | exact trivial | refine ⟨⟨by first | rfl | assumption, rfl⟩, ?_⟩
   ·repeat' first | exact trivial | refine ⟨⟨ltB rfl, _, rfl, by first | rfl | assumption, by first | exact below1 rfl | exact below_dblk _ _ _ | exact below_arr rfl⟩, ?_⟩
  ·intro i A_i h_i I_i N_i
   have e_i : iadd .i64 (i : Int) 1 = ((i + 1 : Nat) : Int) := iadd_nat (by first | omega | (simp at *; omega))
   have hai := htl _ (List.getElem_mem h_i)
   have hnum : (numD A)[(i : Int).toNat]? = some [iD (A[i] : Nat)] := by simp [numD, List.getElem?_eq_getElem h_i]
   have hsn : ((A.map fun n => l.getD n Ps.z0).take (i + 1)).map Ps.l = ((A.map fun n => l.getD n Ps.z0).take i).map Ps.l ++ [(l[A[i]]).l] := by
    rw [take_snoc (by simpa using h_i), List.map_append]
    simp [List.getD_eq_getElem?_getD, List.getElem?_eq_getElem hai]
   have hml : (((A.map fun n => l.getD n Ps.z0).take i).map Ps.l).length = i := by simp; omega
   have hgl : (l.map Ps.l)[((A[i] : Nat) : Int).toNat]? = some (l[A[i]]).l := get_l hai
   generalize ((A.map fun n => l.getD n Ps.z0).take i).map Ps.l = M at hsn hml
   generalize l[A[i]] = q at hsn hgl
   generalize A[i] = a at hai hnum hgl
   have hlen2 : (numD A).length = A.length := by simp [numD]
   conv => whnf
   repeat' first | ((first | refine LookP.mk _ (by first | rfl | exact hnum | exact hgl) ?_ | refine ShlP.mk _ (by first | (simp only [List.set, over, List.take, List.drop, List.append_eq, List.nil_append, List.cons_append, List.length]; rfl) | rfl) ?_ | (refine And.intro (by first | exact ⟨Int.natCast_nonneg _, by omega⟩ | exact Nat.le_refl _ | exact ⟨by rw [List.length_map]; exact hml, by decide, by show (2 * (i + 1) + 192) * 32 ≤ 281474976710656; omega⟩ | assumption | exact ⟨by kernel_rfl, rfl⟩ | decide | omega) ?_) | rw [nbeq] | refine HpP.force ?_); conv => whnf) | (intro t ht; cases t <;> conv => whnf)
   ·exfalso; simp [numD] at ht; omega
   ·refine N_i _ ?_ ?_
    ·first | trivial | assumption | omega
    ·first | refine ren_env [(1, 3)] ?_ ?_ ?_ trivial | refine ren_envB [(1, 3)] rfl rfl ?_ ?_ ?_ trivial
     ·repeat' first | exact trivial | refine ⟨⟨by first | rfl | assumption | exact congrArg (fun n => AV.d (iD n)) e_i, rfl⟩, ?_⟩
     ·repeat' first | exact trivial | refine ⟨⟨ltB rfl, _, rfl, by first | rfl | assumption | exact get_ren rfl (by first | rfl | assumption | exact get_ren rfl (by rw [hsn]; exact congrArg some (dblk_snoc rfl))) | exact get_ren rfl (by rw [hsn]; exact congrArg some (dblk_snoc rfl)), by first | exact below1 rfl | exact below_dblk _ _ _ | exact below_arr rfl⟩, ?_⟩
     ·repeat' first | exact trivial | (refine And.intro ?_ ?_) | (exact fun _ => rfl) | (exact fun h => absurd h (Nat.ne_of_beq_eq_false rfl))
  ·intro A_last I_last
   have hlen2 : (numD A).length = A.length := by simp [numD]
   have hT : (A.map fun n => l.getD n Ps.z0).take A.length = A.map fun n => l.getD n Ps.z0 := List.take_of_length_le (by simp)
   rw [hT]
   have hTl : (A.map fun n => l.getD n Ps.z0).length = A.length := by simp
   generalize (A.map fun n => l.getD n Ps.z0) = T at hpr hTl ⊢
   conv => whnf
   repeat (refine LookP.mk _ rfl ?_; conv => whnf)
   intro t ht
   cases t
   rotate_left
   ·exfalso; first | (simp at ht; done) | (simp at ht; omega)
   conv => whnf
   repeat' first | ((first | refine LookP.mk _ (by first | rfl | exact lendS rfl (by simp [hTl])) ?_ | refine And.intro (by first | assumption | exact ⟨by kernel_rfl, rfl⟩ | decide | omega) ?_ | refine spine_rd (l := [1]) (rd_call rfl rfl (show _ = some (dblk 4 (T.map Ps.l)) from rfl)) ?_ | refine pc_head hpr ?_ | refine HpP.force ?_); conv => whnf)
   refine fin ⟨_, .d _, ?_⟩
   exact dw_any3 _ _ _
theorem chk45 : chkFn Tryz.f45 = true := by kernel_rfl
def expR (w : Nat) (l : List Ps) (p : Ps) : Int := if (sbL w l p).1.x ≠ 0 ∨ (sbL w l p).1.z ≠ 0 then 0 else if phR w l p = 0 then 1 else -1
theorem expect45 {w : Nat} {l : List Ps} (hs : SOk w l) (t : Bool) {p : Ps} (hp : Vl w p) : PC Pr G 45 [stD w l t, p.d] (iD (expR w l p)) := by
 have hf := find123 (G := G) hs t hp
 unfold findR at hf
 unfold expR
 generalize phR w l p = n at hf ⊢
 by_cases hz : (sbL w l p).1.x ≠ 0 ∨ (sbL w l p).1.z ≠ 0
 ·rw [if_pos hz] at hf ⊢
  refine pc_walk pok Tryz.func45 chk45 ?_
  conv => whnf
  repeat' first | ((first | refine LookP.mk _ rfl ?_ | refine pc_use hf ?_); conv => whnf) | (intro t ht; cases t <;> conv => whnf)
  all_goals first | exact fin rfl | exact absurd ht (by decide) | (exfalso; simp_all)
 ·rw [if_neg hz] at hf ⊢
  refine pc_walk pok Tryz.func45 chk45 ?_
  conv => whnf
  repeat' first | ((first | refine LookP.mk _ rfl ?_ | refine pc_use hf ?_); conv => whnf) | (intro t ht; cases t <;> conv => whnf)
  ·rw [if_neg (by simpa using ht)]; exact fin rfl
  ·rw [if_pos (by simpa using ht)]; exact fin rfl
  ·exact absurd ht (by decide)
end Go.Tz
namespace Go.Tz
open Go Go.AL Go.Proofs Go.Ma
variable {G : Nat → Option (List D)}
def prjL (p : Ps) : List Ps → List Ps
 | [] => []
 | q :: l => if comV q p = true then q :: prjL p l else p :: l.map fun r => if comV r p = true then r else mulS q r
theorem prjL_len (p : Ps) : ∀ l, (prjL p l).length = l.length
 | [] => rfl
 | q :: l => by
  unfold prjL
  split
  ·simp [prjL_len p l]
  ·simp
theorem prjL_snoc (p q : Ps) : ∀ A : List Ps, prjL p (A ++ [q]) = prjL p A ++ [if comV q p = true then q else match A.find? (fun r => !comV r p) with
  | some f => mulS f q
  | none => p]
 | [] => by
  simp only [List.nil_append, prjL, List.find?_nil, List.map_nil]
  split <;> rfl
 | a :: A => by
  rw [List.cons_append]
  unfold prjL
  by_cases h : comV a p = true
  ·rw [if_pos h, if_pos h, prjL_snoc p q A, List.find?_cons_of_neg (by simp [h])]; rfl
  ·rw [if_neg h, if_neg h, List.map_append, List.find?_cons_of_pos (by simpa using h)]; rfl
def orSt (w : Nat) (l' : List Ps) (P : List Ps) : Nat → List Ps × Nat
 | 0 => (l', 0)
 | k + 1 => if expR w (orSt w l' P k).1 (P.getD k Ps.z0) = 1 then orSt w l' P k else (prjL (P.getD k Ps.z0) (orSt w l' P k).1, (orSt w l' P k).2 + 1)
def orEx (w : Nat) (l' P : List Ps) (k : Nat) : Int := expR w (orSt w l' P k).1 (P.getD k Ps.z0)
def ovR (w : Nat) (l' P : List Ps) : Int := if (List.range P.length).any (fun k => decide (orEx w l' P k = -1)) then -1 else ((orSt w l' P P.length).2 : Nat)
theorem idxI_snocF {α : Type} {p : α → Bool} {l : List α} {i : Nat} (h : i < l.length) (h1 : p l[i] = false) : idxI p (l.take (i + 1)) = idxI p (l.take i) := by
 unfold idxI
 rw [take_snoc h, List.findIdx?_append]
 cases l.take i |>.findIdx? p with
 | some j => rfl
 | none => simp [List.findIdx?_cons, h1]
theorem idx_case {α : Type} (p : α → Bool) (l : List α) : (l.find? p = none ∧ idxI p l = -1) ∨ ∃ i, ∃ h : i < l.length, idxI p l = (i : Nat) ∧ l.find? p = some l[i] := by
 unfold idxI
 rw [List.find?_eq_bind_findIdx?_getElem?]
 cases h : l.findIdx? p with
 | none => exact .inl ⟨rfl, rfl⟩
 | some i =>
  have hi := (List.findIdx?_eq_some_iff_getElem.1 h).1
  exact .inr ⟨i, hi, rfl, by simp [hi]⟩
theorem idxI_new {α : Type} {p : α → Bool} {l : List α} {i : Nat} (h : i < l.length) (h1 : p l[i] = true) (h2 : idxI p (l.take i) = -1) : idxI p (l.take (i + 1)) = i := by
 rw [take_snoc h]
 unfold idxI at h2 ⊢
 rw [List.findIdx?_append]
 cases hx : (l.take i).findIdx? p with
 | some j => rw [hx] at h2; exact absurd h2 (by show ¬ ((j : Int) = -1); omega)
 | none =>
  simp [List.findIdx?_cons, h1]
  omega
theorem idxI_old {α : Type} {p : α → Bool} {l : List α} {i k : Nat} (h : i < l.length) (h2 : idxI p (l.take i) = (k : Nat)) : idxI p (l.take (i + 1)) = k := by
 rw [take_snoc h]
 unfold idxI at h2 ⊢
 rw [List.findIdx?_append]
 cases hx : (l.take i).findIdx? p with
 | some j => rw [hx] at h2; exact h2
 | none => rw [hx] at h2; exact absurd h2 (by show ¬ ((-1 : Int) = k); omega)
end Go.Tz
namespace Go.Tz
open Go Go.AL Go.Proofs
variable {G : Nat → Option (List D)}
theorem chk99 : chkFn Tryz.f99 = true := by kernel_rfl
theorem idx99 (l : List Int) (t : Bool) (v : Int) (hn : l.length ≤ 1000000) : PC Pr G 99 [intsD l t, iD v] (iD (idxI (fun k => decide (v = k)) l)) := by
 refine pc_walk pok Tryz.func99 chk99 ?_
 conv => whnf
 skip
 refine for_use pok (fun k => ⟨[(0, .d (intsD l t)), (1, .d (iD v)), (7, .d (iD (l.map fun k => [iD k]).length)), (8, .d (iD k))], [], 0⟩) (l.length) (fun k => ∀ q, q ∈ l.take k → decide (v = q) = false) (by simp) ?_ (by kernel_rfl) ?_ ?_
 ·refine keep_env (by first | exact Nat.zero_le _ | exact Nat.le_of_ble_eq_true rfl) ?_ ?_ trivial
  ·repeat' first | exact trivial | refine ⟨⟨by first | rfl | assumption, rfl⟩, ?_⟩
  ·repeat' first | exact trivial | refine ⟨⟨ltB rfl, _, rfl, by first | rfl | assumption, by first | exact below1 rfl | exact below_dblk _ _ _ | exact below_arr rfl⟩, ?_⟩
 ·intro k A_k h_k I_k N_k
  have e_k : iadd .i64 (k : Int) 1 = ((k + 1 : Nat) : Int) := iadd_nat (by first | omega | (simp at *; omega))
  have hg := get_i h_k
  conv => whnf
  repeat (refine LookP.mk _ rfl ?_; conv => whnf)
  intro t ht
  cases t
  ·exfalso; first | (simp at ht; done) | (simp at ht; omega)
  conv => whnf
  repeat' first | ((first | refine LookP.mk _ (by first | rfl | exact hg) ?_ | refine And.intro (by first | assumption | exact ⟨by kernel_rfl, rfl⟩ | decide | omega) ?_ | fail); conv => whnf) | (intro t ht; cases t <;> conv => whnf)
  ·have hnx : ∀ q, q ∈ l.take (k + 1) → decide (v = q) = false := by
    rw [take_snoc h_k]
    intro q hq
    rcases List.mem_append.1 hq with h | h
    ·exact I_k q h
    ·rw [List.mem_singleton.1 h]; simpa using ht
   refine N_k _ ?_ ?_
   ·first | trivial | assumption | omega
   ·refine keep_env (by first | exact Nat.zero_le _ | exact Nat.le_of_ble_eq_true rfl) ?_ ?_ trivial
    ·repeat' first | exact trivial | refine ⟨⟨by first | rfl | assumption | exact congrArg (fun n => AV.d (iD n)) e_k, rfl⟩, ?_⟩
    ·repeat' first | exact trivial | refine ⟨⟨ltB rfl, _, rfl, by first | rfl | assumption, by first | exact below1 rfl | exact below_dblk _ _ _ | exact below_arr rfl⟩, ?_⟩
  ·rw [idxI_some h_k (by simpa using ht) I_k]
   exact fin rfl
 ·intro A_last I_last
  rw [List.take_length] at I_last
  conv => whnf
  repeat (refine LookP.mk _ rfl ?_; conv => whnf)
  intro t ht
  cases t
  rotate_left
  ·exfalso; first | (simp at ht; done) | (simp at ht; omega)
  conv => whnf
  skip
  rw [idxI_none I_last]
  exact fin rfl
theorem chk25 : chkFn Tryz.f25 = true := by kernel_rfl
theorem has25 (l : List Int) (t : Bool) (v : Int) (hn : l.length ≤ 1000000) : PC Pr G 25 [intsD l t, iD v] (.bool (decide (v ∈ l))) := by
 have hi := idx99 (G := G) l t v hn
 have e : decide (v ∈ l) = decide (idxI (fun k => decide (v = k)) l ≥ 0) := by
  rw [idxI_ge, Bool.eq_iff_iff, decide_eq_true_eq, List.any_eq_true]
  constructor
  ·intro h; exact ⟨v, h, by simp⟩
  ·rintro ⟨q, hq, h⟩; rw [of_decide_eq_true h]; exact hq
 rw [e]
 generalize idxI (fun k => decide (v = k)) l = i at hi ⊢
 refine pc_walk pok Tryz.func25 chk25 ?_
 conv => whnf
 repeat' first | (refine pc_use hi ?_; conv => whnf) | (intro t ht; cases t <;> conv => whnf)
 all_goals (rw [ht]; exact fin rfl)
end Go.Tz
namespace Go.Tz
open Go Go.AL Go.Proofs Go.Ma
variable {G : Nat → Option (List D)}
abbrev ownV (w : Nat) (n : Nat) (t : Bool) : AV := .tup [.agg [.d (iD w), .sl 0 4 0 n n t], .d (iD 0)]
theorem chk110 : chkFn Tryz.f110 = true := by kernel_rfl
theorem zero110a {w : Nat} (hw : 1 ≤ w ∧ w ≤ 12) : ACall Pr GG 110 ([iD w].map .d) [] 0 fun v H _ => v = .agg [.d (iD w), .sl 2 4 0 w w false] ∧ H.get 2 = some (dblk 4 ((zeroS w).map Ps.l)) := by
 refine fn_walk pok Tryz.func110 chk110 ?_
 conv => whnf
 repeat' first | ((first | refine LookP.mk _ rfl ?_ | refine ShlP.mk _ (by first | (simp only [List.set, over, List.take, List.drop, List.append_eq, List.nil_append, List.cons_append, List.length]; rfl) | rfl) ?_ | refine And.intro (by first | assumption | exact ⟨by kernel_rfl, rfl⟩ | decide | omega | exact ⟨rfl, by decide, by simp only [List.length_map, Nat.zero_add]; omega⟩) ?_ | refine HpP.force ?_); conv => whnf) | (intro t ht; cases t <;> conv => whnf)
 refine for_use pok (fun i => ⟨[(0, .d (iD w)), (2, .ptr 0 2 0 0), (3, .ptr 1 2 0 0), (7, .d (iD w)), (8, .d (iD i))], [(0, some (.arr 2 [[.d (iD 0), .d (.sl [] true)]])), (1, some (.arr 2 [[.d (iD w), .sl 2 4 0 i i false]])), (2, some (dblk 4 (((zeroS w).take i).map Ps.l)))], 3⟩) (w) (fun _ => True) (trivial) ?_ (by kernel_rfl) ?_ ?_
 ·refine Sub.trans (sub_nilH2 (nm := 1) (S := 4) (Nat.zero_le _) rfl) ?_
  refine keep_env (by first | exact Nat.zero_le _ | exact Nat.le_of_ble_eq_true rfl) ?_ ?_ trivial
  ·repeat' first | exact trivial | refine ⟨⟨by first | rfl | assumption, rfl⟩, ?_⟩
  ·repeat' first | exact trivial | refine ⟨⟨ltB rfl, _, rfl, by first | rfl | assumption, by first | exact below1 rfl | exact below_dblk _ _ _ | exact below_arr rfl⟩, ?_⟩
 ·intro i A_i h_i I_i N_i
  have e_i : iadd .i64 (i : Int) 1 = ((i + 1 : Nat) : Int) := iadd_nat (by first | omega | (simp at *; omega))
  have hil : i < (zeroS w).length := by simpa [zeroS] using h_i
  have hsn : ((zeroS w).take (i + 1)).map Ps.l = ((zeroS w).take i).map Ps.l ++ [[iD w, iD 0, iD (2 ^ i : Nat), iD 0]] := by
   rw [take_snoc hil, List.map_append]; simp [zeroS, Ps.l]
  have hml : (((zeroS w).take i).map Ps.l).length = i := by rw [List.length_map, List.length_take]; omega
  have hp : ishl .i64 1 (i : Int) = ((2 ^ i : Nat) : Int) := pow_nat (by omega)
  generalize ((zeroS w).take i).map Ps.l = M at hsn hml
  conv => whnf
  repeat (refine LookP.mk _ rfl ?_; conv => whnf)
  intro t ht
  cases t
  ·exfalso; first | (simp at ht; done) | (simp at ht; omega)
  conv => whnf
  repeat' first | ((first | refine LookP.mk _ rfl ?_ | refine ShlP.mk _ (by first | (simp only [List.set, over, List.take, List.drop, List.append_eq, List.nil_append, List.cons_append, List.length]; rfl) | rfl) ?_ | (refine And.intro (by first | exact Nat.le_refl _ | exact Int.natCast_nonneg _ | exact ⟨by rw [List.length_map]; exact hml, by decide, by show (2 * (i + 1) + 192) * 32 ≤ 281474976710656; omega⟩ | assumption | exact ⟨by kernel_rfl, rfl⟩ | decide | omega | exact ⟨rfl, by decide, by simp only [List.length_map, Nat.zero_add]; omega⟩) ?_) | rw [nbeq] | rw [hp] | refine HpP.force ?_); conv => whnf) | (intro t ht; cases t <;> conv => whnf)
  refine N_i _ ?_ ?_
  ·first | trivial | assumption | omega
  ·first | refine ren_env [(2, 4)] ?_ ?_ ?_ trivial | refine ren_envB [(2, 4)] rfl rfl ?_ ?_ ?_ trivial
   ·repeat' first | exact trivial | refine ⟨⟨by first | rfl | assumption | exact congrArg (fun n => AV.d (iD n)) e_i, rfl⟩, ?_⟩
   ·repeat' first | exact trivial | refine ⟨⟨ltB rfl, _, rfl, by first | rfl | assumption | exact get_ren rfl (by first | rfl | assumption | exact get_ren rfl (by rw [hsn]; exact congrArg some (dblk_snoc rfl))) | exact get_ren rfl (by rw [hsn]; exact congrArg some (dblk_snoc rfl)), by first | exact below1 rfl | exact below_dblk _ _ _ | exact below_arr rfl⟩, ?_⟩
   ·repeat' first | exact trivial | (refine And.intro ?_ ?_) | (exact fun _ => rfl) | (exact fun h => absurd h (Nat.ne_of_beq_eq_false rfl))
 ·intro A_last I_last
  have hT : (zeroS w).take w = zeroS w := List.take_of_length_le (by simp [zeroS])
  rw [hT]
  conv => whnf
  repeat (refine LookP.mk _ rfl ?_; conv => whnf)
  intro t ht
  cases t
  rotate_left
  ·exfalso; first | (simp at ht; done) | (simp at ht; omega)
  conv => whnf
  repeat' first | ((first | refine LookP.mk _ rfl ?_ | refine ShlP.mk _ (by first | (simp only [List.set, over, List.take, List.drop, List.append_eq, List.nil_append, List.cons_append, List.length]; rfl) | rfl) ?_ | refine And.intro (by first | assumption | exact ⟨by kernel_rfl, rfl⟩ | decide | omega | exact ⟨rfl, by decide, by simp only [List.length_map, Nat.zero_add]; omega⟩) ?_ | refine HpP.force ?_); conv => whnf) | (intro t ht; cases t <;> conv => whnf)
  exact fin ⟨rfl, rfl⟩
theorem zero110p {w : Nat} (hw : 1 ≤ w ∧ w ≤ 12) : PO Pr GG 110 [iD w] (.agg [.d (iD w), .sl 0 4 0 w w false]) [(0, some (dblk 4 ((zeroS w).map Ps.l)))] 1 := by
 refine ⟨isFn_of Tryz.func110 chk110, acall_sub (zero110a hw) ?_⟩
 rintro v H n ⟨rfl, h2⟩
 refine ⟨_, _, 1, ?_, rfl, rfl, rfl⟩
 first | refine ren_env [(0, 2)] ?_ ?_ ?_ trivial | refine ren_envB [(0, 2)] rfl rfl ?_ ?_ ?_ trivial
 ·repeat' first | exact trivial | refine ⟨⟨by first | rfl | assumption, rfl⟩, ?_⟩
 ·repeat' first | exact trivial | refine ⟨⟨ltB rfl, _, rfl, by first | rfl | assumption | exact get_ren rfl (by first | rfl | assumption | exact get_ren rfl h2) | exact get_ren rfl h2, by first | exact below1 rfl | exact below_dblk _ _ _ | exact below_arr rfl⟩, ?_⟩
 ·repeat' first | exact trivial | (refine And.intro ?_ ?_) | (exact fun _ => rfl) | (exact fun h => absurd h (Nat.ne_of_beq_eq_false rfl))
end Go.Tz
namespace Go.Tz
open Go Go.AL Go.Ma
theorem eok_nf {w : Nat} (hw : w ≤ 12) {q : Ps} (h : Vl w q) : eok (nf q) ↔ q.p.tmod 2 = 0 := by
 obtain ⟨X, Z, P, rfl, h1, h2, h3⟩ := h
 have hp : (2 : Nat) ^ w ≤ 2 ^ 12 := Nat.pow_le_pow_right (by decide) hw
 have e : (mk w X Z P).p.tmod 2 = ((P % 2 : Nat) : Int) := by show ((P : Int)).tmod 2 = _; rfl
 rw [e]
 unfold eok
 rw [nf_mk]
 dsimp only
 rw [vec_bt (by omega) (by omega), Nat.and_comm Z X]
 generalize pop 12 (X &&& Z) = k
 have : (decide (k % 2 = 1)).toNat = k % 2 := by
  by_cases q : k % 2 = 1
  ·rw [decide_eq_true q, q]; rfl
  ·rw [decide_eq_false q]; simp; omega
 rw [this]
 constructor
 ·rintro ⟨_, h⟩; omega
 ·intro h; exact ⟨Nat.mod_lt _ (by decide), by omega⟩
theorem revl_rfv0 (l : List Ps) : revl (rfv l 0) l.length = (l.map vec).reverse := by
 have key : ∀ n, n ≤ l.length → revl (rfv l 0) n = ((l.take n).map vec).reverse := by
  intro n
  induction n with
  | zero => intro _; rfl
  | succ n ih =>
   intro hn
   rw [take_snoc (by omega), List.map_append, List.reverse_append, revl, ih (by omega)]
   have : rfv l 0 n = vec l[n] := by
    unfold rfv
    simp only [redN, List.getD_eq_getElem?_getD, List.getElem?_eq_getElem (show n < l.length by omega), Option.getD_some]
   rw [this]; rfl
 rw [key _ (Nat.le_refl _), List.take_length]
theorem rk_rev {l : List Nat} (h : ∀ a, a ∈ l → a < 2 ^ 24) : rk l.reverse = rk l :=
 rk_eq (k := 24) (fun a ha => h a (List.mem_reverse.1 ha)) h (sp_ext (fun a ha => sp_mem _ _ (List.mem_reverse.1 ha)) (fun a ha => sp_mem _ _ (List.mem_reverse.2 ha)))
theorem rank_ind {w : Nat} (hw : w ≤ 12) {l : List Ps} (hv : ∀ q, q ∈ l → Vl w q) : rankN (redRows l (2 * w)) = l.length ↔ Ind ((l.map nf).map (·.2)) := by
 rw [rank_rk hw hv, revl_rfv0, rk_rev]
 ·unfold Ind
  rw [List.map_map, List.length_map]; rfl
 ·intro a ha
  obtain ⟨q, hq, rfl⟩ := List.mem_map.1 ha
  exact vec_lt hw (hv q hq)
theorem badAt_ok {l : List Ps} {i : Nat} (h : i < l.length) : badAt l i = false ↔ l[i].p.tmod 2 = 0 ∧ ∀ r, r ∈ l.take i → mulS l[i] r = mulS r l[i] := by
 unfold badAt
 rw [List.getElem?_eq_getElem h]
 dsimp only
 rw [Bool.or_eq_false_iff, List.any_eq_false]
 simp
theorem good_iff {w : Nat} (hw : w ≤ 12) {l : List Ps} (hv : ∀ q, q ∈ l → Vl w q) : badS l = false ↔ Good (l.map nf) := by
 have hb : badS l = false ↔ ∀ i (h : i < l.length), l[i].p.tmod 2 = 0 ∧ ∀ r, r ∈ l.take i → mulS l[i] r = mulS r l[i] := by
  unfold badS
  rw [List.any_eq_false]
  constructor
  ·intro h i hi
   exact (badAt_ok hi).1 (by simpa using h i (List.mem_range.2 hi))
  ·intro h i hi
   have hi := List.mem_range.1 hi
   rw [(badAt_ok hi).2 (h i hi)]; simp
 rw [hb]
 constructor
 ·intro h
  refine ⟨fun a ha => ?_, fun a b ha hb => ?_⟩
  ·obtain ⟨q, hq, rfl⟩ := List.mem_map.1 ha
   obtain ⟨i, hi, rfl⟩ := List.getElem_of_mem hq
   exact (eok_nf hw (hv _ hq)).2 (h i hi).1
  ·obtain ⟨q, hq, rfl⟩ := List.mem_map.1 ha
   obtain ⟨r, hr, rfl⟩ := List.mem_map.1 hb
   obtain ⟨i, hi, rfl⟩ := List.getElem_of_mem hq
   obtain ⟨j, hj, rfl⟩ := List.getElem_of_mem hr
   rcases Nat.lt_trichotomy i j with e | e | e
   ·exact ecom_symm ((com_iff hw (hv _ hr) (hv _ hq)).1 ((h j hj).2 _ (List.mem_take_iff_getElem.2 ⟨i, by omega, rfl⟩)))
   ·subst e; exact ecom_self _
   ·exact (com_iff hw (hv _ hq) (hv _ hr)).1 ((h i hi).2 _ (List.mem_take_iff_getElem.2 ⟨j, by omega, rfl⟩))
 ·intro h i hi
  have hm := List.getElem_mem hi
  refine ⟨(eok_nf hw (hv _ hm)).1 (h.ok _ (List.mem_map.2 ⟨_, hm, rfl⟩)), fun r hr => ?_⟩
  have hr2 := List.mem_of_mem_take hr
  exact (com_iff hw (hv _ hm) (hv _ hr2)).2 (h.com _ _ (List.mem_map.2 ⟨_, hm, rfl⟩) (List.mem_map.2 ⟨_, hr2, rfl⟩))
theorem sok_sta {w : Nat} {l : List Ps} (h : SOk w l) : Sta w (l.map nf) :=
 ⟨(good_iff h.hi h.vl).1 h.good, (rank_ind h.hi h.vl).1 h.rank, by rw [List.length_map, h.len], fun a ha => by
  obtain ⟨q, hq, rfl⟩ := List.mem_map.1 ha
  exact vec_in h.hi (h.vl q hq)⟩
theorem sta_sok {w : Nat} (hw : 1 ≤ w ∧ w ≤ 12) {l : List Ps} (hv : ∀ q, q ∈ l → Vl w q) (h : Sta w (l.map nf)) : SOk w l :=
 ⟨hw.1, hw.2, by have := h.len; rwa [List.length_map] at this, hv, (good_iff hw.2 hv).2 h.good, (rank_ind hw.2 hv).2 h.ind⟩
end Go.Tz
namespace Go.Tz
open Go Go.AL Go.Ma
theorem xr_congrm {v : Nat → Nat} {m m' : Nat → Bool} {n : Nat} (h : ∀ j, j < n → m j = m' j) : xr v m n = xr v m' n := xr_congr (fun _ _ => rfl) h
theorem swp_vec (rf : Nat → Ps) (a f j : Nat) : vec (swapF rf a f j) = swp (fun j => vec (rf j)) a f j := by
 unfold swapF swp
 dsimp only
 split
 ·rfl
 ·split <;> rfl
theorem redN_sum {w : Nat} (hw : w ≤ 12) {l : List Ps} (hv : ∀ q, q ∈ l → Vl w q) : ∀ {c : Nat}, c ≤ 2 * w → ∀ j, j < l.length → rfv l c j = xr (rfv l 0) ((redN l c).2.1 j) l.length
 | 0, _, j, hj => (xr_one hj).symm
 | c + 1, hc, j, hj => by
  have ih := redN_sum hw hv (c := c) (by omega)
  obtain ⟨q1, q2⟩ := red_vl hw hv c
  rcases rfv_step hw hv (c := c) (by omega) with ⟨_, h2, _⟩ | ⟨f, f1, f2, _, f4, _, f5⟩
  ·unfold rfv at ih ⊢
   rw [h2]; exact ih j hj
  ·rw [f5 j hj, f4]
   have ha : (redN l c).2.2 < l.length := by omega
   have hS : ∀ i, i < l.length → swp (rfv l c) (redN l c).2.2 f i = xr (rfv l 0) (swapF (redN l c).2.1 (redN l c).2.2 f i) l.length := by
    intro i hi
    unfold swp swapF
    split
    ·exact ih f f2
    ·split
     ·exact ih _ ha
     ·exact ih i hi
   have hb : bitB (swapF (redN l c).1 (redN l c).2.2 f j) c = cb (swp (rfv l c) (redN l c).2.2 f j) c := by
    have : Vl w (swapF (redN l c).1 (redN l c).2.2 f j) := by
     unfold swapF
     split
     ·exact q1 f f2
     ·split
      ·exact q1 _ ha
      ·exact q1 j hj
    rw [bitB_cb hw (by omega) this, swp_vec]; rfl
   unfold clr clrB
   by_cases e : j ≠ (redN l c).2.2 ∧ cb (swp (rfv l c) (redN l c).2.2 f j) c = true
   ·rw [if_pos e, if_pos ⟨hj, e.1, by rw [hb]; exact e.2⟩, hS j hj, hS _ ha, ← xr_xor]
    exact xr_congrm fun q hq => by rw [if_pos hq]
   ·rw [if_neg e, if_neg (fun h => e ⟨h.2.1, by rw [← hb]; exact h.2.2⟩)]
    exact hS j hj
def SameG (L M : List E) : Prop := ∀ g, Gen L g ↔ Gen M g
theorem sameG_of {L M : List E} (hL : Good L) (h1 : ∀ a, a ∈ M → Gen L a) (h2 : ∀ a, a ∈ L → Gen M a) : SameG L M := fun _ => ⟨gen_sub (good_of hL h1) h2, gen_sub hL h1⟩
theorem sta_same {w : Nat} (hw : w ≤ 12) {L M : List E} (hL : Sta w L) (hM : M.length = w) (h1 : ∀ a, a ∈ M → Gen L a) (h2 : ∀ a, a ∈ L → Gen M a) : Sta w M := by
 have hlt : ∀ v, inV w v → v < 2 ^ 24 := fun v hv => sp_lt _ (U_lt hw) _ hv
 have hin : ∀ a, a ∈ M → inV w a.2 := fun a ha => by
  have := gen_span (h1 a ha)
  refine sp_sub _ _ (fun b hb => ?_) _ this
  obtain ⟨q, hq, rfl⟩ := List.mem_map.1 hb
  exact hL.inv q hq
 refine ⟨good_of hL.good h1, ?_, hM, hin⟩
 have : rk (M.map (·.2)) = rk (L.map (·.2)) := by
  refine rk_eq (k := 24) ?_ ?_ (sp_ext ?_ ?_)
  ·intro a ha
   obtain ⟨q, hq, rfl⟩ := List.mem_map.1 ha; exact hlt _ (hin q hq)
  ·intro a ha
   obtain ⟨q, hq, rfl⟩ := List.mem_map.1 ha; exact hlt _ (hL.inv q hq)
  ·intro a ha
   obtain ⟨q, hq, rfl⟩ := List.mem_map.1 ha; exact gen_span (h1 q hq)
  ·intro a ha
   obtain ⟨q, hq, rfl⟩ := List.mem_map.1 ha; exact gen_span (h2 q hq)
 unfold Ind
 rw [this, hL.ind]; simp [hL.len, hM]
theorem redRows_gen {w : Nat} (hw : w ≤ 12) {l : List Ps} (hv : ∀ q, q ∈ l → Vl w q) (hG : Good (l.map nf)) : ∀ {c : Nat}, c ≤ 2 * w → (∀ j, j < l.length → Gen (l.map nf) (nf ((redN l c).1 j))) ∧ ∀ a, a ∈ l.map nf → Gen ((redRows l c).map nf) a
 | 0, _ => by
  have e : ∀ j (h : j < l.length), (redN l 0).1 j = l[j] := fun j h => by
   show l.getD j Ps.z0 = l[j]
   rw [List.getD_eq_getElem?_getD, List.getElem?_eq_getElem h]; rfl
  refine ⟨fun j hj => ?_, fun a ha => ?_⟩
  ·rw [e j hj]; exact gen_mem' hG (List.mem_map.2 ⟨_, List.getElem_mem hj, rfl⟩)
  ·obtain ⟨q, hq, rfl⟩ := List.mem_map.1 ha
   obtain ⟨j, hj, rfl⟩ := List.getElem_of_mem hq
   refine gen_mem (fun b hb => ?_) (List.mem_map.2 ⟨(redN l 0).1 j, List.mem_map.2 ⟨j, List.mem_range.2 hj, rfl⟩, by rw [e j hj]⟩)
   obtain ⟨r, _, rfl⟩ := List.mem_map.1 hb
   exact nf_lt r
 | c + 1, hc => by
  obtain ⟨h1, h2⟩ := redRows_gen hw hv hG (c := c) (by omega)
  obtain ⟨q1, q2⟩ := red_vl hw hv c
  have hmem : ∀ (f : Nat → Ps) j, j < l.length → nf (f j) ∈ ((List.range l.length).map f).map nf := fun f j hj => List.mem_map.2 ⟨f j, List.mem_map.2 ⟨j, List.mem_range.2 hj, rfl⟩, rfl⟩
  simp only [redRows, redN, colS]
  cases hf : fndO (redN l c).1 l.length c (redN l c).2.2 with
  | none => exact ⟨h1, h2⟩
  | some f =>
   obtain ⟨f1, f2, f3, f4⟩ := fndO_some hf
   have ha : (redN l c).2.2 < l.length := by omega
   dsimp only
   generalize (redN l c).2.2 = a at f1 ha ⊢
   have sV : ∀ j, j < l.length → Vl w (swapF (redN l c).1 a f j) := fun j hj => by
    unfold swapF
    split
    ·exact q1 f f2
    ·split
     ·exact q1 _ ha
     ·exact q1 j hj
   have sG : ∀ j, j < l.length → Gen (l.map nf) (nf (swapF (redN l c).1 a f j)) := fun j hj => by
    unfold swapF
    split
    ·exact h1 f f2
    ·split
     ·exact h1 _ ha
     ·exact h1 j hj
   have sB : ∀ j, j < l.length → ∃ i, i < l.length ∧ (redN l c).1 j = swapF (redN l c).1 a f i := fun j hj => by
    by_cases e1 : j = f
    ·exact ⟨a, ha, by unfold swapF; rw [if_pos rfl, e1]⟩
    ·by_cases e2 : j = a
     ·exact ⟨f, f2, by unfold swapF; rw [if_neg (by omega), if_pos rfl, e2]⟩
     ·exact ⟨j, hj, by unfold swapF; rw [if_neg e2, if_neg e1]⟩
   generalize swapF (redN l c).1 a f = s at sV sG sB
   have cG : ∀ j, j < l.length → Gen (l.map nf) (nf (clrR s a c l.length j)) := fun j hj => by
    unfold clrR
    split
    ·rw [nf_mul hw (sV j hj) (sV a ha)]; exact gen_mul' hG (sG j hj) (sG a ha)
    ·exact sG j hj
   have hM : Good (((List.range l.length).map (clrR s a c l.length)).map nf) := good_of hG fun b hb => by
    obtain ⟨r, hr, rfl⟩ := List.mem_map.1 hb
    obtain ⟨j, hj, rfl⟩ := List.mem_map.1 hr
    exact cG j (List.mem_range.1 hj)
   have gA : Gen (((List.range l.length).map (clrR s a c l.length)).map nf) (nf (s a)) := by
    have := gen_mem' hM (hmem (clrR s a c l.length) a ha)
    rwa [clrR_a] at this
   have gS : ∀ j, j < l.length → Gen (((List.range l.length).map (clrR s a c l.length)).map nf) (nf (s j)) := fun j hj => by
    have h := gen_mem' hM (hmem (clrR s a c l.length) j hj)
    unfold clrR at h
    skip
    split at h
    ·rw [nf_mul hw (sV j hj) (sV a ha)] at h
     have h3 := gen_mul' hM h gA
     rw [emul_assoc, emul_self (gen_ok hG (sG a ha)), emul_one _ (nf_lt _)] at h3
     exact h3
    ·exact h
   refine ⟨cG, fun b hb => ?_⟩
   refine gen_sub hM (fun x hx => ?_) (h2 b hb)
   obtain ⟨r, hr, rfl⟩ := List.mem_map.1 hx
   obtain ⟨j, hj, rfl⟩ := List.mem_map.1 hr
   obtain ⟨i, hi, e⟩ := sB j (List.mem_range.1 hj)
   rw [e]; exact gS i hi
theorem redRows_ok {w : Nat} {l : List Ps} (h : SOk w l) : SOk w (redRows l (2 * w)) ∧ SameG (l.map nf) ((redRows l (2 * w)).map nf) := by
 have hs := sok_sta h
 obtain ⟨h1, h2⟩ := redRows_gen h.hi h.vl hs.good (Nat.le_refl (2 * w))
 have h1' : ∀ a, a ∈ (redRows l (2 * w)).map nf → Gen (l.map nf) a := fun a ha => by
  obtain ⟨r, hr, rfl⟩ := List.mem_map.1 ha
  obtain ⟨j, hj, rfl⟩ := List.mem_map.1 hr
  exact h1 j (List.mem_range.1 hj)
 refine ⟨sta_sok ⟨h.lo, h.hi⟩ (fun q hq => ?_) (sta_same h.hi hs (by rw [List.length_map, redRows_len, h.len]) h1' h2), sameG_of hs.good h1' h2⟩
 obtain ⟨j, hj, rfl⟩ := List.mem_map.1 hq
 exact (red_vl h.hi h.vl _).1 j (List.mem_range.1 hj)
end Go.Tz
namespace Go.Tz
open Go Go.AL Go.Ma
theorem lead_eq {w : Nat} (hw : w ≤ 12) {q : Ps} (h : Vl w q) {d : Nat} (hd : d < 2 * w) (h1 : cb (vec q) d = true) (h2 : ∀ e, e < d → cb (vec q) e = false) : leadI q = d := by
 have key : ∀ f k, k + f = 2 * w → k ≤ d → leadF q f k = d := by
  intro f
  induction f with
  | zero => intro k e1 e2; omega
  | succ f ih =>
   intro k e1 e2
   simp only [leadF]
   rw [bitB_cb hw (by omega) h]
   by_cases e : k = d
   ·subst e; rw [if_pos h1]
   ·rw [h2 k (by omega), if_neg (by simp)]; exact ih (k + 1) (by omega) (by omega)
 unfold leadI
 rw [vl_w h, Int.toNat_natCast]
 exact key _ _ (by omega) (by omega)
theorem rows_at (l : List Ps) {c i : Nat} (hi : i < l.length) : (redRows l c).getD i Ps.z0 = (redN l c).1 i := by
 unfold redRows
 simp [List.getD_eq_getElem?_getD, hi]
theorem sb_inv {w : Nat} (hw : w ≤ 12) {l : List Ps} (hv : ∀ q, q ∈ l → Vl w q) {p : Ps} (hp : Vl w p) {pc : Nat → Nat} (h1 : RR l.length (2 * w) (redN l (2 * w)).2.2 (rfv l (2 * w)) pc) (h2 : Piv l.length (rfv l (2 * w)) (fun i => pos (pc i)) fun i => decide (i < (redN l (2 * w)).2.2)) :
  ∀ i, i ≤ l.length → Vl w (sbSt (redRows l (2 * w)) (redN l (2 * w)).2.1 p i).1 ∧ vec (sbSt (redRows l (2 * w)) (redN l (2 * w)).2.1 p i).1 = slv (rfv l (2 * w)) (fun i => pos (pc i)) (fun i => decide (i < (redN l (2 * w)).2.2)) (vec p) i ∧
   vec (sbSt (redRows l (2 * w)) (redN l (2 * w)).2.1 p i).1 = vec p ^^^ xr (rfv l 0) (sbSt (redRows l (2 * w)) (redN l (2 * w)).2.1 p i).2 l.length
 | 0, _ => ⟨hp, rfl, by show vec p = vec p ^^^ xr (rfv l 0) (fun _ => false) l.length; rw [xr_none fun _ _ => rfl, Nat.xor_zero]⟩
 | i + 1, hi => by
  obtain ⟨g1, g2, g3⟩ := sb_inv hw hv hp h1 h2 i (by omega)
  have hqv := (red_vl hw hv (2 * w)).1 i (by omega)
  have hsum := redN_sum hw hv (Nat.le_refl (2 * w)) i (by omega)
  simp only [sbSt, sbStep, rows_at l (show i < l.length by omega), slv]
  have hr : rfv l (2 * w) i = vec ((redN l (2 * w)).1 i) := rfl
  by_cases ha : i < (redN l (2 * w)).2.2
  ·have hld : leadI ((redN l (2 * w)).1 i) = pc i := lead_eq hw hqv (h1.lt i ha) (h1.own i ha) (fun e he => h1.lead i e ha he)
   have hb : bitB (sbSt (redRows l (2 * w)) (redN l (2 * w)).2.1 p i).1 (leadI ((redN l (2 * w)).1 i)) = (slv (rfv l (2 * w)) (fun i => pos (pc i)) (fun i => decide (i < (redN l (2 * w)).2.2)) (vec p) i).testBit (pos (pc i)) := by
    rw [hld, bitB_cb hw (h1.lt i ha) g1, g2]; rfl
   by_cases e : (slv (rfv l (2 * w)) (fun i => pos (pc i)) (fun i => decide (i < (redN l (2 * w)).2.2)) (vec p) i).testBit (pos (pc i)) = true
   ·rw [if_pos (show 0 ≤ leadI ((redN l (2 * w)).1 i) ∧ bitB (sbSt (redRows l (2 * w)) (redN l (2 * w)).2.1 p i).1 (leadI ((redN l (2 * w)).1 i)) = true from ⟨by rw [hld]; omega, hb.trans e⟩)]
    rw [if_pos (show (decide (i < (redN l (2 * w)).2.2) && (slv (rfv l (2 * w)) (fun i => pos (pc i)) (fun i => decide (i < (redN l (2 * w)).2.2)) (vec p) i).testBit (pos (pc i))) = true by rw [decide_eq_true ha, e]; rfl)]
    refine ⟨mul_vl hw g1 hqv, ?_, ?_⟩
    ·rw [vec_mul hw g1 hqv, g2]; rfl
    ·rw [vec_mul hw g1 hqv, g3, xr_xor, Nat.xor_assoc, ← hsum]; rfl
   ·rw [if_neg (show ¬ (0 ≤ leadI ((redN l (2 * w)).1 i) ∧ bitB (sbSt (redRows l (2 * w)) (redN l (2 * w)).2.1 p i).1 (leadI ((redN l (2 * w)).1 i)) = true) from fun h => e (hb.symm.trans h.2))]
    rw [if_neg (show ¬ (decide (i < (redN l (2 * w)).2.2) && (slv (rfv l (2 * w)) (fun i => pos (pc i)) (fun i => decide (i < (redN l (2 * w)).2.2)) (vec p) i).testBit (pos (pc i))) = true from fun h => e (Bool.and_eq_true_iff.1 h).2)]
    exact ⟨g1, g2, g3⟩
  ·have hz : vec ((redN l (2 * w)).1 i) = 0 := h2.zero i (by omega) (by simpa using ha)
   have hn : ¬ 0 ≤ leadI ((redN l (2 * w)).1 i) := fun h => (lead_nz hw hqv).1 h hz
   rw [if_neg (show ¬ (0 ≤ leadI ((redN l (2 * w)).1 i) ∧ bitB (sbSt (redRows l (2 * w)) (redN l (2 * w)).2.1 p i).1 (leadI ((redN l (2 * w)).1 i)) = true) from fun h => hn h.1)]
   rw [if_neg (show ¬ (decide (i < (redN l (2 * w)).2.2) && (slv (rfv l (2 * w)) (fun i => pos (pc i)) (fun i => decide (i < (redN l (2 * w)).2.2)) (vec p) i).testBit (pos (pc i))) = true from fun h => ha (by simpa using (Bool.and_eq_true_iff.1 h).1))]
   exact ⟨g1, g2, g3⟩
theorem vec_z {w : Nat} {q : Ps} (h : Vl w q) : (q.x ≠ 0 ∨ q.z ≠ 0) ↔ vec q ≠ 0 := by
 obtain ⟨X, Z, P, rfl, h1, h2, h3⟩ := h
 unfold vec
 rw [nf_mk]
 show ((X : Int) ≠ 0 ∨ (Z : Int) ≠ 0) ↔ X + 4096 * Z ≠ 0
 omega
theorem vl_one (w : Nat) : Vl w ⟨w, 0, 0, 0⟩ := ⟨0, 0, 0, rfl, Nat.two_pow_pos w, Nat.two_pow_pos w, by decide⟩
theorem nf_one (w : Nat) : nf ⟨w, 0, 0, 0⟩ = e1 := by
 show nf (mk w 0 0 0) = e1
 rw [nf_mk]; decide
theorem span_l {l : List Ps} {v : Nat} : spB (revl (rfv l 0) l.length) v = spB ((l.map nf).map (·.2)) v := by
 rw [revl_rfv0]
 have e : l.map vec = (l.map nf).map (·.2) := by rw [List.map_map]; rfl
 rw [e]
 exact sp_ext (fun a ha => sp_mem _ _ (List.mem_reverse.1 ha)) (fun a ha => sp_mem _ _ (List.mem_reverse.2 ha)) v
theorem rfv_0 (l : List Ps) {i : Nat} (hi : i < l.length) : rfv l 0 i = vec l[i] := by
 unfold rfv
 simp only [redN, List.getD_eq_getElem?_getD, List.getElem?_eq_getElem hi, Option.getD_some]
theorem prod_tk {w : Nat} (hw : w ≤ 12) {l : List Ps} (hv : ∀ q, q ∈ l → Vl w q) (hG : Good (l.map nf)) (f : Nat → Bool) : ∀ i, i ≤ l.length → Vl w (prodS w ((tkL f i).map fun n => l.getD n Ps.z0)) ∧ Gen (l.map nf) (nf (prodS w ((tkL f i).map fun n => l.getD n Ps.z0))) ∧ vec (prodS w ((tkL f i).map fun n => l.getD n Ps.z0)) = xr (rfv l 0) f i
 | 0, _ => ⟨vl_one w, by show Gen _ (nf ⟨w, 0, 0, 0⟩); rw [nf_one]; exact .one, rfl⟩
 | i + 1, hi => by
  obtain ⟨g1, g2, g3⟩ := prod_tk hw hv hG f i (by omega)
  rw [tkL_snoc]
  simp only [xr]
  by_cases e : f i = true
  ·rw [if_pos e, if_pos e, List.map_append, List.map_singleton, prodS_snoc]
   have hq : l.getD i Ps.z0 = l[i] := by rw [List.getD_eq_getElem?_getD, List.getElem?_eq_getElem (show i < l.length by omega)]; rfl
   rw [hq]
   have hm := List.getElem_mem (show i < l.length by omega)
   refine ⟨mul_vl hw g1 (hv _ hm), ?_, ?_⟩
   ·rw [nf_mul hw g1 (hv _ hm)]; exact gen_mul' hG g2 (gen_mem' hG (List.mem_map.2 ⟨_, hm, rfl⟩))
   ·rw [vec_mul hw g1 (hv _ hm), g3, rfv_0 l (by omega)]
  ·rw [if_neg e, if_neg e]; exact ⟨g1, g2, g3⟩
theorem p_eq {w : Nat} (hw : w ≤ 12) {q r : Ps} (hq : Vl w q) (hr : Vl w r) (hv : vec q = vec r) : q.p = r.p ↔ nf q = nf r := by
 obtain ⟨X, Z, P, rfl, h1, h2, h3⟩ := hq
 obtain ⟨X', Z', P', rfl, h4, h5, h6⟩ := hr
 unfold vec at hv
 rw [nf_mk, nf_mk] at hv ⊢
 dsimp only at hv
 have hp : (2 : Nat) ^ w ≤ 2 ^ 12 := Nat.pow_le_pow_right (by decide) hw
 have e1 : X = X' := by omega
 have e2 : Z = Z' := by omega
 subst e1 e2
 show (P : Int) = (P' : Int) ↔ _
 constructor
 ·intro h
  have : P = P' := by omega
  rw [this]
 ·intro h
  have := congrArg Prod.fst h
  dsimp only at this
  omega
structure ExpOk (L : List E) (g : E) (e : Int) : Prop where
 pos : Gen L g → e = 1
 neg : Gen L (eneg g) → e = -1
 zero : ¬ Gen L g → ¬ Gen L (eneg g) → e = 0
theorem expOk_uniq {L M : List E} (h : SameG L M) {g : E} {e e' : Int} (h1 : ExpOk L g e) (h2 : ExpOk M g e') : e = e' := by
 by_cases a : Gen L g
 ·rw [h1.pos a, h2.pos ((h g).1 a)]
 ·by_cases b : Gen L (eneg g)
  ·rw [h1.neg b, h2.neg ((h _).1 b)]
  ·rw [h1.zero a b, h2.zero (fun c => a ((h g).2 c)) (fun c => b ((h _).2 c))]
theorem expR_ok {w : Nat} {l : List Ps} (h : SOk w l) {p : Ps} (hp : Vl w p) (hk : eok (nf p)) : ExpOk (l.map nf) (nf p) (expR w l p) := by
 have hst := sok_sta h
 obtain ⟨pc, r1, r2⟩ := rfv_piv h.hi h.vl
 obtain ⟨g1, g2, g3⟩ := sb_inv h.hi h.vl hp r1 r2 l.length (Nat.le_refl _)
 have hz := slv_zero r2 (vec p)
 rw [← g2, rfv_span h.hi h.vl _ (Nat.le_refl _), span_l] at hz
 have hx := vec_z g1
 unfold expR phR tkP
 have hsv : sbL w l p = sbSt (redRows l (2 * w)) (redN l (2 * w)).2.1 p l.length := rfl
 rw [hsv]
 generalize sbSt (redRows l (2 * w)) (redN l (2 * w)).2.1 p l.length = s at g1 g2 g3 hz hx ⊢
 by_cases e : vec s.1 = 0
 ·rw [if_neg (fun q => hx.1 q e)]
  rw [e] at g3
  have hxr : xr (rfv l 0) s.2 l.length = vec p := by
   have := congrArg (· ^^^ xr (rfv l 0) s.2 l.length) g3
   simpa only [xor_cancel, Nat.zero_xor] using this
  obtain ⟨k1, k2, k3⟩ := prod_tk h.hi h.vl hst.good s.2 l.length (Nat.le_refl _)
  rw [hxr] at k3
  generalize prodS w ((tkL s.2 l.length).map fun n => l.getD n Ps.z0) = g at k1 k2 k3 ⊢
  have hpe := p_eq h.hi hp k1 k3.symm
  have hph : (isub .i64 (iadd .i64 4 p.p) g.p).tmod 4 = 0 ↔ p.p = g.p := by
   obtain ⟨X, Z, P, rfl, _, _, a3⟩ := hp
   obtain ⟨X', Z', P', rfl, _, _, b3⟩ := k1
   show (isub .i64 (iadd .i64 4 (P : Int)) (P' : Int)).tmod 4 = 0 ↔ (P : Int) = P'
   have e1 : iadd .i64 4 (P : Int) = ((4 + P : Nat) : Int) := iadd_nat (a := 4) (by omega)
   rw [e1, isub_nat (by omega) (by omega)]
   have e2 : (((4 + P - P' : Nat) : Int)).tmod 4 = (((4 + P - P') % 4 : Nat) : Int) := rfl
   rw [e2]
   omega
  refine ⟨fun q => ?_, fun q => ?_, fun a b => ?_⟩
  ·rw [if_pos (hph.2 (hpe.2 (gen_uniq hst.good hst.ind q k2 k3.symm)))]
  ·rw [if_neg fun c => ?_]
   have e1 := hpe.1 (hph.1 c)
   have e2 := gen_uniq hst.good hst.ind q k2 k3.symm
   rw [← e1] at e2
   exact eneg_ne hk.1 e2
  ·exfalso
   rcases e_or_neg hk (gen_ok hst.good k2) k3.symm with q | q
   ·rw [q] at a; exact a k2
   ·rw [q, eneg_neg (gen_ok hst.good k2).1] at b; exact b k2
 ·rw [if_pos (hx.2 e)]
  refine ⟨fun q => absurd (hz.2 (gen_span q)) e, fun q => absurd (hz.2 (gen_span (g := eneg (nf p)) q)) e, fun _ _ => rfl⟩
end Go.Tz
namespace Go.Tz
open Go Go.AL Go.Ma
theorem redF_sum (l : List Ps) : ∀ m, m ≤ l.length → ∀ j, j < l.length → (redW (rowN l) m j).1 = xr (rfv l 0) (fun q => (redW (rowN l) m j).2.testBit q) l.length
 | 0, _, j, hj => by
  have h0 : redW (rowN l) 0 j = (vec l[j], 2 ^ j) := by
   show (rowN l).getD j (0, 0) = _
   rw [List.getD_eq_getElem?_getD, List.getElem?_eq_getElem (by rw [rowN_len]; exact hj)]
   simp [rowN, vec]
  rw [h0]
  dsimp only
  rw [xr_congrm (m' := fun q => q == j) fun q _ => by rw [Nat.testBit_two_pow, Bool.eq_iff_iff]; simp; exact eq_comm, xr_one hj, rfv_0 l hj]
 | m + 1, hm, j, hj => by
  have ih := redF_sum l m (by omega)
  simp only [redW]
  by_cases e : (redW (rowN l) m m).1 ≠ 0
  ·rw [if_pos e]
   unfold clrW
   by_cases c : j < (rowN l).length ∧ j ≠ m ∧ (redW (rowN l) m j).1.testBit (lowN (redW (rowN l) m m).1) = true
   ·rw [if_pos c]
    dsimp only
    rw [ih j hj, ih m (by omega), ← xr_xor]
    exact xr_congrm fun q _ => by rw [Nat.testBit_xor]
   ·rw [if_neg c]; exact ih j hj
  ·rw [if_neg e]; exact ih j hj
theorem oth_bit (r : Rn) (j : Nat) : ∀ l : List Rn, (oth r l).testBit j = l.any fun x => decide (x ≠ r) && x.1.testBit j := by
 have key : ∀ (l : List Rn) (o : Nat), (l.foldl (fun o x => if x = r then o else o ||| x.1) o).testBit j = (o.testBit j || l.any fun x => decide (x ≠ r) && x.1.testBit j) := by
  intro l
  induction l with
  | nil => intro o; simp
  | cons x l ih =>
   intro o
   rw [List.foldl_cons, ih, List.any_cons]
   by_cases e : x = r
   ·rw [if_pos e]; simp [e]
   ·rw [if_neg e, Nat.testBit_or]; simp [e, Bool.or_assoc]
 intro l
 unfold oth
 rw [key, Nat.zero_testBit, Bool.false_or]
theorem lf_all {l : List Ps} (h : gnW (redF l) l.length = []) : lfW (redF l) l.length = (List.range l.length).map (redF l) := by
 unfold gnW at h
 unfold lfW
 rw [List.filter_eq_self]
 intro r hr
 rw [List.filter_eq_nil_iff] at h
 have := h r hr
 simpa using this
theorem own_piv {w : Nat} {l : List Ps} (h : SOk w l) : Piv l.length (rwv l l.length) (fun i => ownN (lfW (redF l) l.length) (redF l i)) fun _ => true := by
 have hg : gnW (redF l) l.length = [] := List.length_eq_zero_iff.1 ((ind_iff h.hi h.vl (by have := h.len; have := h.hi; omega)).2 h.rank)
 have hn : l.length ≤ 24 := by have := h.len; have := h.hi; omega
 obtain ⟨p, hp⟩ := rwv_Piv h.hi h.vl hn
 have hall := lf_all hg
 have hlt := redW_lt (rowN_lt h.hi h.vl hn) l.length
 have hnz : ∀ i, i < l.length → rwv l l.length i ≠ 0 := fun i hi e => by
  unfold gnW at hg
  rw [List.filter_eq_nil_iff] at hg
  have := hg (redF l i) (List.mem_map.2 ⟨i, List.mem_range.2 hi, rfl⟩)
  simp at this
  exact this e
 have hbit : ∀ i, i < l.length → (andn (redF l i).1 (oth (redF l i) (lfW (redF l) l.length))).testBit (ownN (lfW (redF l) l.length) (redF l i)) = true := by
  intro i hi
  have h0 : andn (redF l i).1 (oth (redF l i) (lfW (redF l) l.length)) ≠ 0 := fun e => by
   have h1 : (andn (redF l i).1 (oth (redF l i) (lfW (redF l) l.length))).testBit (p i) = true := by
    rw [andn_bit, oth_bit]
    have a1 : (redF l i).1.testBit (p i) = true := hp.own i hi (by simpa using hnz i hi)
    rw [a1, Bool.true_and, Bool.not_eq_true', List.any_eq_false]
    intro x hx
    rw [hall] at hx
    obtain ⟨j, hj, rfl⟩ := List.mem_map.1 hx
    have hj := List.mem_range.1 hj
    by_cases q : j = i
    ·subst q; simp
    ·have := hp.other j i hj hi q (by simpa using hnz i hi)
     have t : (redF l j).1.testBit (p i) = false := this
     rw [t]; simp
   rw [e, Nat.zero_testBit] at h1; cases h1
  unfold ownN tzN
  rw [if_neg h0]
  exact (low_spec h0 (andn_lt (hlt i).1)).2.1
 refine ⟨fun i hi _ => ?_, fun i j hi hj hij _ => ?_, fun i _ h => by cases h⟩
 ·have := hbit i hi
  rw [andn_bit] at this
  exact (Bool.and_eq_true_iff.1 this).1
 ·have := hbit j hj
  rw [andn_bit] at this
  have h2 := (Bool.and_eq_true_iff.1 this).2
  rw [Bool.not_eq_true', oth_bit, List.any_eq_false] at h2
  have h3 := h2 (redF l i) (by rw [hall]; exact List.mem_map.2 ⟨i, List.mem_range.2 hi, rfl⟩)
  have hne : redF l i ≠ redF l j := fun e => by
   have a1 : (redF l j).1.testBit (p j) = true := hp.own j hj (by simpa using hnz j hj)
   have a2 : (redF l i).1.testBit (p j) = false := hp.other i j hi hj hij (by simpa using hnz j hj)
   rw [e, a1] at a2; cases a2
  have : (redF l i).1.testBit (ownN (lfW (redF l) l.length) (redF l j)) = false := by simpa [hne] using h3
  exact this
theorem fnd_inv {w : Nat} {l : List Ps} (h : SOk w l) (v : Nat) : ∀ i, i ≤ l.length → (fndS (lfW (redF l) l.length) v i).1 = slv (rwv l l.length) (fun i => ownN (lfW (redF l) l.length) (redF l i)) (fun _ => true) v i ∧
  (fndS (lfW (redF l) l.length) v i).1 = v ^^^ xr (rfv l 0) (fun q => (fndS (lfW (redF l) l.length) v i).2.testBit q) l.length
 | 0, _ => ⟨rfl, by show v = v ^^^ xr (rfv l 0) (fun q => (0 : Nat).testBit q) l.length; rw [xr_none fun _ _ => Nat.zero_testBit _, Nat.xor_zero]⟩
 | i + 1, hi => by
  have hg : gnW (redF l) l.length = [] := List.length_eq_zero_iff.1 ((ind_iff h.hi h.vl (by have := h.len; have := h.hi; omega)).2 h.rank)
  have hall := lf_all hg
  obtain ⟨g1, g2⟩ := fnd_inv h v i (by omega)
  have hs := redF_sum l l.length (Nat.le_refl _) i (by omega)
  have hil : i < (lfW (redF l) l.length).length := by rw [hall]; simp; omega
  have hgi : (lfW (redF l) l.length)[i] = redF l i := by simp [hall]
  rw [fnd_snoc hil, hgi]
  simp only [slv, fstp, Bool.true_and]
  rw [g1] at g2 ⊢
  by_cases e : (slv (rwv l l.length) (fun i => ownN (lfW (redF l) l.length) (redF l i)) (fun _ => true) v i).testBit (ownN (lfW (redF l) l.length) (redF l i)) = true
  ·rw [if_pos e, if_pos e]
   refine ⟨rfl, ?_⟩
   dsimp only
   rw [xr_congrm (m' := fun q => (fndS (lfW (redF l) l.length) v i).2.testBit q != (redF l i).2.testBit q) fun q _ => by rw [Nat.testBit_xor], xr_xor, ← Nat.xor_assoc, ← g2]
   congr 1
  ·rw [if_neg e, if_neg e]
   exact ⟨g1, by rw [g1]; exact g2⟩
theorem all_tk {w : Nat} (hw : w ≤ 12) {l : List Ps} (hv : ∀ q, q ∈ l → Vl w q) (hG : Good (l.map nf)) (m : Nat) : ∀ i, i ≤ l.length → Vl w (allS w l m i) ∧ Gen (l.map nf) (nf (allS w l m i)) ∧ vec (allS w l m i) = xr (rfv l 0) (fun q => m.testBit q) i
 | 0, _ => ⟨vl_one w, by show Gen _ (nf ⟨w, 0, 0, 0⟩); rw [nf_one]; exact .one, rfl⟩
 | i + 1, hi => by
  obtain ⟨g1, g2, g3⟩ := all_tk hw hv hG m i (by omega)
  simp only [xr, allS]
  by_cases e : m.testBit i = true
  ·rw [if_pos e, if_pos e]
   have hq : l.getD i Ps.z0 = l[i] := by rw [List.getD_eq_getElem?_getD, List.getElem?_eq_getElem (show i < l.length by omega)]; rfl
   have hm := List.getElem_mem (show i < l.length by omega)
   rw [hq, tim_mul hw g1 (hv _ hm)]
   refine ⟨mul_vl hw g1 (hv _ hm), ?_, ?_⟩
   ·rw [nf_mul hw g1 (hv _ hm)]; exact gen_mul' hG g2 (gen_mem' hG (List.mem_map.2 ⟨_, hm, rfl⟩))
   ·rw [vec_mul hw g1 (hv _ hm), g3, rfv_0 l (by omega)]
  ·rw [if_neg e, if_neg e]; exact ⟨g1, g2, g3⟩
theorem expP_ok {w : Nat} {l : List Ps} (h : SOk w l) {p : Ps} (hp : Vl w p) (hk : eok (nf p)) : ExpOk (l.map nf) (nf p) (expP l p) := by
 have hst := sok_sta h
 have hn : l.length ≤ 24 := by have := h.len; have := h.hi; omega
 have hg : gnW (redF l) l.length = [] := List.length_eq_zero_iff.1 ((ind_iff h.hi h.vl hn).2 h.rank)
 have hll : (lfW (redF l) l.length).length = l.length := by rw [lf_all hg]; simp
 obtain ⟨g2, g3⟩ := fnd_inv h (nf p).2 l.length (Nat.le_refl _)
 have hz := slv_zero (own_piv h) (nf p).2
 rw [← g2, rwv_span h.hi h.vl hn _ (Nat.le_refl _), span_l] at hz
 unfold expP
 rw [hll, vl_w hp]
 generalize fndS (lfW (redF l) l.length) (nf p).2 l.length = s at g2 g3 hz ⊢
 by_cases e : s.1 = 0
 ·rw [if_pos e]
  rw [e] at g3
  have hxr : xr (rfv l 0) (fun q => s.2.testBit q) l.length = (nf p).2 := by
   have := congrArg (· ^^^ xr (rfv l 0) (fun q => s.2.testBit q) l.length) g3
   simpa only [xor_cancel, Nat.zero_xor] using this
  obtain ⟨k1, k2, k3⟩ := all_tk h.hi h.vl hst.good s.2 l.length (Nat.le_refl _)
  have hxr : xr (rfv l 0) (fun q => s.2.testBit q) l.length = vec p := hxr
  rw [hxr] at k3
  generalize allS w l s.2 l.length = g at k1 k2 k3 ⊢
  have hpe := p_eq h.hi hp k1 k3.symm
  have hkp := (eok_nf h.hi hp).1 hk
  have hkg := (eok_nf h.hi k1).1 (gen_ok hst.good k2)
  have hph : (p.p = g.p → isub .i64 1 ((iadd .i64 (isub .i64 p.p g.p) 4).tmod 4) = 1) ∧ (p.p ≠ g.p → isub .i64 1 ((iadd .i64 (isub .i64 p.p g.p) 4).tmod 4) = -1) := by
   obtain ⟨X, Z, P, rfl, _, _, a3⟩ := hp
   obtain ⟨X', Z', P', rfl, _, _, b3⟩ := k1
   have c1 : P = 0 ∨ P = 1 ∨ P = 2 ∨ P = 3 := by omega
   have c2 : P' = 0 ∨ P' = 1 ∨ P' = 2 ∨ P' = 3 := by omega
   have d1 : ((P : Int)).tmod 2 = 0 := hkp
   have d2 : ((P' : Int)).tmod 2 = 0 := hkg
   show ((P : Int) = P' → isub .i64 1 ((iadd .i64 (isub .i64 (P : Int) (P' : Int)) 4).tmod 4) = 1) ∧ ((P : Int) ≠ P' → isub .i64 1 ((iadd .i64 (isub .i64 (P : Int) (P' : Int)) 4).tmod 4) = -1)
   clear hpe k3 k2 hxr g3
   rcases c1 with rfl | rfl | rfl | rfl <;> rcases c2 with rfl | rfl | rfl | rfl <;> revert d1 d2 <;> decide
  refine ⟨fun q => hph.1 (hpe.2 (gen_uniq hst.good hst.ind q k2 k3.symm)), fun q => hph.2 fun c => ?_, fun a b => ?_⟩
  ·have e1 := hpe.1 c
   have e2 := gen_uniq hst.good hst.ind q k2 k3.symm
   rw [← e1] at e2
   exact eneg_ne hk.1 e2
  ·exfalso
   rcases e_or_neg hk (gen_ok hst.good k2) k3.symm with q | q
   ·rw [q] at a; exact a k2
   ·rw [q, eneg_neg (gen_ok hst.good k2).1] at b; exact b k2
 ·rw [if_neg e]
  exact ⟨fun q => absurd (hz.2 (gen_span q)) e, fun q => absurd (hz.2 (gen_span (g := eneg (nf p)) q)) e, fun _ _ => rfl⟩
end Go.Tz
namespace Go.Tz
open Go Go.AL Go.Ma
open Classical in
theorem ovl_cons (L : List E) (p : E) (P : List E) (n : Int) : ovlE L (p :: P) n = if Gen L p then ovlE L P n else if Gen L (eneg p) then -1 else ovlE (proj p L) P (n + 1) := rfl
open Classical in
theorem ov_run {w : Nat} (hw : w ≤ 12) (P L : List E) (S : Nat → List E × Nat) (ex : Nat → Int) (hL : Sta w L) (hP : ∀ p, p ∈ P → inV w p.2 ∧ eok p) (h0 : S 0 = (L, 0))
  (he : ∀ k (h : k < P.length), Sta w (S k).1 → ExpOk (S k).1 P[k] (ex k)) (h1 : ∀ k (_ : k < P.length), ex k = 1 → S (k + 1) = S k)
  (h2 : ∀ k (h : k < P.length), Sta w (S k).1 → ex k = 0 → (∃ q, q ∈ (S k).1 ∧ ¬ ecom q P[k]) → S (k + 1) = (proj P[k] (S k).1, (S k).2 + 1)) :
  (∀ k, k ≤ P.length → (∀ j, j < k → ex j ≠ -1) → Sta w (S k).1 ∧ ovlE L P 0 = ovlE (S k).1 (P.drop k) ((S k).2 : Nat)) ∧ ovlE L P 0 = if (List.range P.length).any (fun k => decide (ex k = -1)) then (-1 : Int) else ((S P.length).2 : Nat) := by
 have key : ∀ k, k ≤ P.length → (∀ j, j < k → ex j ≠ -1) → Sta w (S k).1 ∧ ovlE L P 0 = ovlE (S k).1 (P.drop k) ((S k).2 : Nat) := by
  intro k
  induction k with
  | zero => intro _ _; rw [h0]; exact ⟨hL, rfl⟩
  | succ k ih =>
   intro hk hj
   obtain ⟨a, b⟩ := ih (by omega) fun j h => hj j (by omega)
   have hx := he k hk a
   have hp := hP P[k] (List.getElem_mem hk)
   rw [List.drop_eq_getElem_cons hk] at b
   rw [ovl_cons] at b
   by_cases c1 : Gen (S k).1 P[k]
   ·rw [if_pos c1] at b
    rw [h1 k hk (hx.pos c1)]
    exact ⟨a, b⟩
   ·rw [if_neg c1] at b
    by_cases c2 : Gen (S k).1 (eneg P[k])
    ·exact absurd (hx.neg c2) (hj k (by omega))
    ·rw [if_neg c2] at b
     rw [h2 k hk a (hx.zero c1 c2) (sta_anti hw a hp.1 hp.2 c1 c2)]
     refine ⟨proj_sta hw a hp.1 hp.2 c1 c2, ?_⟩
     rw [b]; rfl
 refine ⟨key, ?_⟩
 by_cases hn : (List.range P.length).any (fun k => decide (ex k = -1)) = true
 ·rw [if_pos hn]
  obtain ⟨k, hk, he1⟩ := List.any_eq_true.1 hn
  have hk := List.mem_range.1 hk
  have he1 : ex k = -1 := by simpa using he1
  -- the first of them
  have hex : ∃ k, k < P.length ∧ ex k = -1 ∧ ∀ j, j < k → ex j ≠ -1 := by
   have : ∀ m, (∃ k, k < m ∧ k < P.length ∧ ex k = -1) → ∃ k, k < P.length ∧ ex k = -1 ∧ ∀ j, j < k → ex j ≠ -1 := by
    intro m
    induction m with
    | zero => rintro ⟨k, h, _⟩; omega
    | succ m ih =>
     rintro ⟨k, h, h2, h3⟩
     by_cases q : ∃ k, k < m ∧ k < P.length ∧ ex k = -1
     ·exact ih q
     ·refine ⟨k, h2, h3, fun j hj e => q ⟨j, by omega, by omega, e⟩⟩
   exact this (k + 1) ⟨k, by omega, hk, he1⟩
  obtain ⟨k, hk, he1, hf⟩ := hex
  obtain ⟨a, b⟩ := key k (by omega) hf
  have hx := he k hk a
  rw [List.drop_eq_getElem_cons hk] at b
  rw [ovl_cons] at b
  by_cases c1 : Gen (S k).1 P[k]
  ·have := hx.pos c1; omega
  ·by_cases c2 : Gen (S k).1 (eneg P[k])
   ·rw [if_neg c1, if_pos c2] at b; exact b
   ·have := hx.zero c1 c2; omega
 ·rw [if_neg hn]
  obtain ⟨a, b⟩ := key P.length (Nat.le_refl _) fun j hj e => hn (List.any_eq_true.2 ⟨j, List.mem_range.2 hj, by simpa using e⟩)
  rw [b, List.drop_length]; rfl
theorem comV_ecom {q r : Ps} : comV q r = true ↔ ecom (nf q) (nf r) := by
 unfold comV
 rw [cm_ecom]
 cases cm (nf q).2 (nf r).2 <;> simp
theorem prjL_vl {w : Nat} (hw : w ≤ 12) {p : Ps} (hp : Vl w p) : ∀ {l : List Ps}, (∀ q, q ∈ l → Vl w q) → ∀ q, q ∈ prjL p l → Vl w q
 | [], _, q, hq => by cases hq
 | a :: l, hv, q, hq => by
  unfold prjL at hq
  split at hq
  ·rcases List.mem_cons.1 hq with e | e
   ·subst e; exact hv _ (by simp)
   ·exact prjL_vl hw hp (fun q h => hv q (List.mem_cons_of_mem _ h)) q e
  ·rcases List.mem_cons.1 hq with e | e
   ·subst e; exact hp
   ·obtain ⟨r, hr, rfl⟩ := List.mem_map.1 e
    have hr := hv r (List.mem_cons_of_mem _ hr)
    split
    ·exact hr
    ·exact mul_vl hw (hv a (by simp)) hr
theorem prjL_nf {w : Nat} (hw : w ≤ 12) {p : Ps} : ∀ {l : List Ps}, (∀ q, q ∈ l → Vl w q) → Good (l.map nf) → (prjL p l).map nf = proj (nf p) (l.map nf)
 | [], _, _ => rfl
 | a :: l, hv, hG => by
  have ih := prjL_nf hw (p := p) (l := l) (fun q h => hv q (List.mem_cons_of_mem _ h)) (good_tl hG)
  simp only [List.map_cons, prjL, proj]
  by_cases e : comV a p = true
  ·rw [if_pos e, if_pos (comV_ecom.1 e), List.map_cons, ih]
  ·rw [if_neg e, if_neg (fun h => e (comV_ecom.2 h)), List.map_cons, projR, List.map_map, List.map_map]
   congr 1
   refine List.map_congr_left fun r hr => ?_
   show nf (if comV r p = true then r else mulS a r) = if ecom (nf r) (nf p) then nf r else emul (nf r) (nf a)
   by_cases c : comV r p = true
   ·rw [if_pos c, if_pos (comV_ecom.1 c)]
   ·rw [if_neg c, if_neg (fun h => c (comV_ecom.2 h)), nf_mul hw (hv a (by simp)) (hv r (List.mem_cons_of_mem _ hr))]
    exact emul_comm (hG.com _ _ (by simp) (by simp; right; exact ⟨r, hr, rfl⟩))
theorem orSt_vl {w : Nat} (hw : w ≤ 12) {l' P : List Ps} (hv : ∀ q, q ∈ l' → Vl w q) (hP : ∀ q, q ∈ P → Vl w q) : ∀ k, k ≤ P.length → ∀ q, q ∈ (orSt w l' P k).1 → Vl w q
 | 0, _, q, hq => hv q hq
 | k + 1, hk, q, hq => by
  have ih := orSt_vl hw hv hP k (by omega)
  simp only [orSt] at hq
  have hg : P.getD k Ps.z0 = P[k] := by rw [List.getD_eq_getElem?_getD, List.getElem?_eq_getElem hk]; rfl
  rw [hg] at hq
  split at hq
  ·exact ih q hq
  ·exact prjL_vl hw (hP _ (List.getElem_mem hk)) ih q hq
theorem ovR_run {w : Nat} {l l' : List Ps} (h : SOk w l) (h' : SOk w l') : (∀ k, k ≤ l.length → (∀ j, j < k → orEx w l' l j ≠ -1) → SOk w (orSt w l' l k).1) ∧ ovR w l' l = ovlE (l'.map nf) (l.map nf) 0 := by
 have hs := sok_sta h
 have hs' := sok_sta h'
 have hvl := orSt_vl h.hi h'.vl h.vl
 have hsok : ∀ k, k ≤ l.length → Sta w ((orSt w l' l k).1.map nf) → SOk w (orSt w l' l k).1 := fun k hk hS => sta_sok ⟨h.lo, h.hi⟩ (hvl k hk) hS
 have hgd : ∀ k (_ : k < l.length), l.getD k Ps.z0 = l[k] := fun k hk => by rw [List.getD_eq_getElem?_getD, List.getElem?_eq_getElem hk]; rfl
 have hlen : (l.map nf).length = l.length := List.length_map _
 obtain ⟨r1, r2⟩ := ov_run h.hi (l.map nf) (l'.map nf) (fun k => ((orSt w l' l k).1.map nf, (orSt w l' l k).2)) (orEx w l' l) hs'
  (fun p hp => ⟨hs.inv p hp, hs.good.ok p hp⟩) rfl
  (fun k hk hS => by
   have hk' : k < l.length := by omega
   have hv := h.vl l[k] (List.getElem_mem hk')
   rw [List.getElem_map]
   unfold orEx
   rw [hgd k hk']
   exact expR_ok (hsok k (by omega) hS) hv (hs.good.ok _ (List.mem_map.2 ⟨_, List.getElem_mem hk', rfl⟩)))
  (fun k hk e => by
   unfold orEx at e
   simp only [orSt]
   rw [if_pos e])
  (fun k hk hS e hx => by
   have hk' : k < l.length := by omega
   unfold orEx at e
   simp only [orSt]
   rw [if_neg (by rw [e]; decide), List.getElem_map, hgd k hk']
   dsimp only
   rw [prjL_nf h.hi (hvl k (by omega)) hS.good])
 rw [hlen] at r1 r2
 exact ⟨fun k hk hj => hsok k hk (r1 k hk hj).1, r2.symm⟩
end Go.Tz
namespace Go.Tz
open Go Go.AL Go.Ma
theorem proj_get {p : E} : ∀ (L : List E) (a : Nat) (ha : a < L.length), (∀ j (_ : j < a), ecom (L[j]'(by omega)) p) → ¬ ecom L[a] p → ∀ j, (proj p L)[j]? = L[j]?.map fun q => if j < a then q else if j = a then p else if ecom q p then q else emul q L[a]
 | [], a, ha, _, _, _ => by simp at ha
 | b :: L, 0, ha, h1, h2, j => by
  have h2 : ¬ ecom b p := h2
  simp only [proj, if_neg h2]
  cases j with
  | zero => simp
  | succ j =>
   simp only [List.getElem?_cons_succ, projR, List.getElem?_map]
   simp
 | b :: L, a + 1, ha, h1, h2, j => by
  have h0 : ecom b p := h1 0 (by omega)
  simp only [proj, if_pos h0]
  cases j with
  | zero => simp
  | succ j =>
   have ih := proj_get L a (by simpa using ha) (fun j hj => h1 (j + 1) (by omega)) h2 j
   simp only [List.getElem?_cons_succ, ih]
   simp
theorem ant_spec {p : Ps} {rf : Nat → Ps} {N a0 : Nat} {R : List Nat} (h : antL p rf N = a0 :: R) : a0 < N ∧ comV p (rf a0) = false ∧ (∀ j, j < a0 → comV p (rf j) = true) ∧ ∀ j, j < N → a0 < j → (j ∈ R ↔ comV p (rf j) = false) ∧ (∀ j, j ∈ R → a0 < j) := by
 have hm : ∀ j, j ∈ a0 :: R ↔ j < N ∧ comV p (rf j) = false := fun j => by
  rw [← h]; unfold antL; rw [List.mem_filter, List.mem_range]; simp
 have hs : (a0 :: R).Pairwise (· < ·) := by
  rw [← h]; exact List.Pairwise.filter _ List.pairwise_lt_range
 have hlt := (List.pairwise_cons.1 hs).1
 obtain ⟨q1, q2⟩ := (hm a0).1 (by simp)
 refine ⟨q1, q2, fun j hj => ?_, fun j hj hlj => ⟨?_, hlt⟩⟩
 ·cases hc : comV p (rf j) with
  | true => rfl
  | false =>
   rcases List.mem_cons.1 ((hm j).2 ⟨by omega, hc⟩) with e | e
   ·omega
   ·have := hlt j e; omega
 ·constructor
  ·intro hR; exact ((hm j).1 (List.mem_cons_of_mem _ hR)).2
  ·intro hc
   rcases List.mem_cons.1 ((hm j).2 ⟨hj, hc⟩) with e | e
   ·omega
   ·exact e
theorem comV_false {q r : Ps} : comV q r = false ↔ ¬ ecom (nf q) (nf r) := by rw [← comV_ecom]; simp
theorem prjF_nf {w : Nat} (hw : w ≤ 12) {p : Ps} {rf : Nat → Ps} {N a0 : Nat} {R : List Nat} (hv : ∀ j, j < N → Vl w (rf j)) (h : antL p rf N = a0 :: R) : (rowsL N (prjF rf p a0 R)).map nf = proj (nf p) ((rowsL N rf).map nf) := by
 obtain ⟨h1, h2, h3, h4⟩ := ant_spec h
 have hg : ∀ j (hj : j < ((rowsL N rf).map nf).length), ((rowsL N rf).map nf)[j] = nf (rf j) := fun j hj => by simp [rowsL]
 have hl : ((rowsL N rf).map nf).length = N := by simp [rowsL]
 apply List.ext_getElem?
 intro j
 rw [proj_get ((rowsL N rf).map nf) a0 (by omega) (fun j hj => by rw [hg]; exact ecom_symm (comV_ecom.1 (h3 j hj))) (by rw [hg]; exact fun e => comV_false.1 h2 (ecom_symm e)), hg]
 simp only [rowsL, List.getElem?_map]
 by_cases hj : j < N
 ·rw [List.getElem?_range hj]
  simp only [Option.map_some]
  congr 1
  unfold prjF prjR
  rcases Nat.lt_trichotomy j a0 with e | e | e
  ·have hR : j ∉ R := fun hR => by
    have hs : (a0 :: R).Pairwise (· < ·) := by
     rw [← h]; exact List.Pairwise.filter _ List.pairwise_lt_range
    have := (List.pairwise_cons.1 hs).1 j hR
    omega
   rw [if_neg (show ¬ j = a0 by omega), if_neg hR, if_pos e]
  ·rw [if_pos e, if_neg (show ¬ j < a0 by omega), if_pos e]
  ·rw [if_neg (show ¬ j = a0 by omega), if_neg (show ¬ j < a0 by omega), if_neg (show ¬ j = a0 by omega)]
   have hiff := (h4 j hj e).1
   by_cases hR : j ∈ R
   ·rw [if_pos hR, if_neg (show ¬ ecom (nf (rf j)) (nf p) from fun c => comV_false.1 (hiff.1 hR) (ecom_symm c)), nf_mul hw (hv j hj) (hv a0 h1)]
   ·have hc : ecom (nf (rf j)) (nf p) := by
     refine ecom_symm (comV_ecom.1 ?_)
     cases hc : comV p (rf j) with
     | true => rfl
     | false => exact absurd (hiff.2 hc) hR
    rw [if_neg hR, if_pos hc]
 ·rw [List.getElem?_eq_none (by simpa using hj)]; rfl
theorem ovSt_vl {w : Nat} (hw : w ≤ 12) {N : Nat} {rf0 : Nat → Ps} {P : List Ps} (hv : ∀ j, j < N → Vl w (rf0 j)) (hP : ∀ q, q ∈ P → Vl w q) : ∀ k, k ≤ P.length → ∀ j, j < N → Vl w ((ovSt N rf0 P k).1 j)
 | 0, _, j, hj => hv j hj
 | k + 1, hk, j, hj => by
  have ih := ovSt_vl hw hv hP k (by omega)
  have hg : P.getD k Ps.z0 = P[k] := by rw [List.getD_eq_getElem?_getD, List.getElem?_eq_getElem hk]; rfl
  have hp := hP _ (List.getElem_mem hk)
  simp only [ovSt, hg, ovStep]
  split
  ·cases hA : antL P[k] (ovSt N rf0 P k).1 N with
   | cons a0 R =>
    have ha := (ant_spec hA).1
    dsimp only
    unfold prjF prjR
    split
    ·exact hp
    ·split
     ·exact mul_vl hw (ih j hj) (ih a0 ha)
     ·exact ih j hj
   | nil => exact ih j hj
  ·exact ih j hj
theorem ant_ne {p : Ps} {rf : Nat → Ps} {N : Nat} (h : ∃ q, q ∈ (rowsL N rf).map nf ∧ ¬ ecom q (nf p)) : antL p rf N ≠ [] := by
 obtain ⟨q, hq, hc⟩ := h
 obtain ⟨r, hr, rfl⟩ := List.mem_map.1 hq
 obtain ⟨j, hj, rfl⟩ := List.mem_map.1 hr
 intro e
 have : j ∈ antL p rf N := by
  unfold antL
  rw [List.mem_filter]
  refine ⟨hj, ?_⟩
  have := comV_false.2 (fun c => hc (ecom_symm c))
  rw [this]; rfl
 rw [e] at this; cases this
theorem ovP_run {w N : Nat} {P : List Ps} {rf0 : Nat → Ps} (h : SOk w P) (h' : SOk w (rowsL N rf0)) :
  (∀ k, k ≤ P.length → (∀ j, j < k → ovEx N rf0 P j ≠ -1) → SOk w (rowsL N (ovSt N rf0 P k).1)) ∧ (∀ k, k < P.length → (∀ j, j < k → ovEx N rf0 P j ≠ -1) → ovEx N rf0 P k = 0 → antL (P.getD k Ps.z0) (ovSt N rf0 P k).1 N ≠ []) ∧ ovP N rf0 P = ovlE ((rowsL N rf0).map nf) (P.map nf) 0 := by
 have hs := sok_sta h
 have hs' := sok_sta h'
 have hv0 : ∀ j, j < N → Vl w (rf0 j) := fun j hj => h'.vl _ (List.mem_map.2 ⟨j, List.mem_range.2 hj, rfl⟩)
 have hvl := ovSt_vl h.hi hv0 h.vl
 have hsok : ∀ k, k ≤ P.length → Sta w ((rowsL N (ovSt N rf0 P k).1).map nf) → SOk w (rowsL N (ovSt N rf0 P k).1) := fun k hk hS => sta_sok ⟨h.lo, h.hi⟩ (fun q hq => by
  obtain ⟨j, hj, rfl⟩ := List.mem_map.1 hq
  exact hvl k hk j (List.mem_range.1 hj)) hS
 have hgd : ∀ k (_ : k < P.length), P.getD k Ps.z0 = P[k] := fun k hk => by rw [List.getD_eq_getElem?_getD, List.getElem?_eq_getElem hk]; rfl
 have hlen : (P.map nf).length = P.length := List.length_map _
 have hexp : ∀ k (hk : k < P.length), Sta w ((rowsL N (ovSt N rf0 P k).1).map nf) → ExpOk ((rowsL N (ovSt N rf0 P k).1).map nf) (nf P[k]) (ovEx N rf0 P k) := fun k hk hS => by
  unfold ovEx
  rw [hgd k hk]
  exact expP_ok (hsok k (by omega) hS) (h.vl _ (List.getElem_mem hk)) (hs.good.ok _ (List.mem_map.2 ⟨_, List.getElem_mem hk, rfl⟩))
 obtain ⟨r1, r2⟩ := ov_run h.hi (P.map nf) ((rowsL N rf0).map nf) (fun k => ((rowsL N (ovSt N rf0 P k).1).map nf, (ovSt N rf0 P k).2)) (ovEx N rf0 P) hs'
  (fun p hp => ⟨hs.inv p hp, hs.good.ok p hp⟩) rfl
  (fun k hk hS => by rw [List.getElem_map]; exact hexp k (by omega) hS)
  (fun k hk e => by
   unfold ovEx at e
   simp only [ovSt, ovStep]
   rw [if_neg (by rw [e]; decide)])
  (fun k hk hS e hx => by
   have hk' : k < P.length := by omega
   rw [List.getElem_map] at hx ⊢
   have hne := ant_ne hx
   unfold ovEx at e
   simp only [ovSt, ovStep]
   rw [if_pos e, hgd k hk']
   cases hA : antL P[k] (ovSt N rf0 P k).1 N with
   | nil => exact absurd hA hne
   | cons a0 R =>
    dsimp only
    rw [prjF_nf h.hi (hvl k (by omega)) hA])
 rw [hlen] at r1 r2
 refine ⟨fun k hk hj => hsok k hk (r1 k hk hj).1, fun k hk hj e => ?_, r2.symm⟩
 have hS := (r1 k (by omega) hj).1
 have hx := hexp k hk hS
 rw [hgd k hk]
 have hp := hs.good.ok _ (List.mem_map.2 ⟨_, List.getElem_mem hk, rfl⟩)
 have hpi := hs.inv _ (List.mem_map.2 ⟨_, List.getElem_mem hk, rfl⟩)
 refine ant_ne (sta_anti h.hi hS hpi hp (fun c => ?_) fun c => ?_)
 ·have := hx.pos c; omega
 ·have := hx.neg c; omega
theorem rowsL_get (l : List Ps) {n : Nat} (hn : l.length = n) : rowsL n (fun j => l.getD j Ps.z0) = l := by
 subst hn
 apply List.ext_getElem
 ·simp [rowsL]
 ·intro i h1 h2; simp [rowsL, List.getD_eq_getElem?_getD, List.getElem?_eq_getElem h2]
theorem ovl_ok {w : Nat} {l l' : List Ps} (h : SOk w l) (h' : SOk w l') : OvOk w l l' ∧ ovP l'.length (fun j => (redRows l' (2 * w)).getD j Ps.z0) (redRows l (2 * w)) = ovR w l' l := by
 obtain ⟨a1, a2⟩ := redRows_ok h
 obtain ⟨b1, b2⟩ := redRows_ok h'
 have er := rowsL_get (redRows l' (2 * w)) (redRows_len l' (2 * w))
 obtain ⟨q1, q2, q3⟩ := ovP_run (N := l'.length) (rf0 := fun j => (redRows l' (2 * w)).getD j Ps.z0) a1 (by rw [er]; exact b1)
 rw [redRows_len] at q1 q2
 refine ⟨⟨q1, q2⟩, ?_⟩
 rw [q3, (ovR_run h h').2, er]
 exact ovl_eq h.hi (sok_sta b1) (sok_sta h') (sok_sta a1) (sok_sta h) (fun g => (b2 g).symm) fun g => (a2 g).symm
end Go.Tz
namespace Go.Tz
open Go Go.AL Go.Proofs Go.Ma
theorem lendA {V : AHeap} {nm sz N : Nat} {t : Bool} {es : List (List D)} {a : D} (hg : V.get nm = some (dblk sz es)) (hN : N = es.length) : mapO (asDX V 9 []) [.agg [.d a, .sl nm sz 0 N N t]] = some [.agg [a, .sl es t]] := by
 have h := asDX_sl (q := 6) (vis := []) (t := t) hg hN
 have e1 : asDX V 8 [] (.d a) = some a := rfl
 have e3 : asDX V 9 [] (.agg [.d a, .sl nm sz 0 N N t]) = some (.agg [a, .sl es t]) := by
  unfold asDX
  simp only [mapO, e1, h]
 simp only [mapO, e3]
theorem flat_rows (m : List Ps) : Blk.flat (dblk 4 (m.map Ps.l)) = true := by
 unfold dblk Blk.flat
 refine List.all_eq_true.2 fun el hel => ?_
 obtain ⟨x, hx, rfl⟩ := List.mem_map.1 hel
 obtain ⟨q, _, rfl⟩ := List.mem_map.1 hx
 rfl
theorem flOf_rows (a : D) (n : Nat) (t : Bool) (m : List Ps) : flOf (.agg [.d a, .sl 0 4 0 n n t]) [(0, some (dblk 4 (m.map Ps.l)))] = [(0, some (dblk 4 (m.map Ps.l)))] := by
 show AHeap.fl [(0, some (dblk 4 (m.map Ps.l)))] = _
 unfold AHeap.fl
 rw [flat_rows]; rfl
end Go.Tz
namespace Go.Tz
open Go Go.AL Go.Ma
theorem pop_x (N a : Nat) : ∀ k, pop k (N ^^^ 2 ^ a) + (if a < k then (N.testBit a).toNat else 0) = pop k N + (if a < k then (!N.testBit a).toNat else 0)
 | 0 => by simp [pop]
 | k + 1 => by
  have ih := pop_x N a k
  simp only [pop, Nat.testBit_xor, Nat.testBit_two_pow]
  by_cases h : a = k
  ·subst h
   rw [if_neg (by omega), if_neg (by omega)] at ih
   rw [if_pos (by omega), if_pos (by omega)]
   cases N.testBit a <;> simp <;> omega
  ·rw [decide_eq_false h, Bool.xor_false]
   by_cases h2 : a < k
   ·rw [if_pos h2, if_pos h2] at ih
    rw [if_pos (by omega), if_pos (by omega)]; omega
   ·rw [if_neg h2, if_neg h2] at ih
    rw [if_neg (by omega), if_neg (by omega)]; omega
theorem and_set {X Z a : Nat} (x' z' : Bool) : (X ^^^ cd (X.testBit a != x') (2 ^ a)) &&& (Z ^^^ cd (Z.testBit a != z') (2 ^ a)) = (X &&& Z) ^^^ cd ((X.testBit a && Z.testBit a) != (x' && z')) (2 ^ a) := by
 refine Nat.eq_of_testBit_eq fun j => ?_
 simp only [Nat.testBit_and, Nat.testBit_xor, tb_cd, Nat.testBit_two_pow]
 by_cases e : a = j
 ·subst e
  rw [decide_eq_true (show a = a from rfl)]
  cases X.testBit a <;> cases Z.testBit a <;> cases x' <;> cases z' <;> rfl
 ·rw [decide_eq_false e]; simp
theorem pop_cd {N a : Nat} (ha : a < 12) (t : Bool) : pop 12 (N ^^^ cd (N.testBit a != t) (2 ^ a)) + (N.testBit a).toNat = pop 12 N + t.toNat := by
 have := pop_x N a 12
 rw [if_pos ha, if_pos ha] at this
 cases e : N.testBit a <;> cases t <;> simp [cd, e] at this ⊢ <;> omega
theorem vec_split {A B : Nat} (hA : A < 4096) : A + 4096 * B = A ^^^ 4096 * B := by
 have := vec_xor (X := A) (Z := 0) (X' := 0) (Z' := B) hA (by decide)
 simp at this
 exact this.symm
theorem vecb_x {X Z a : Nat} (hX : X < 4096) (ha : a < 12) : (X + 4096 * Z).testBit a = X.testBit a := by rw [vec_bit hX, if_pos ha]
theorem vecb_z {X Z a : Nat} (hX : X < 4096) : (X + 4096 * Z).testBit (12 + a) = Z.testBit a := by
 rw [vec_bit hX, if_neg (by omega)]
 congr 1; omega
theorem nf_set {w X Z P a : Nat} (hX : X < 4096) (_hZ : Z < 4096) (ha : a < 12) (x' z' : Bool) :
  nf (mk w (X ^^^ cd (X.testBit a != x') (2 ^ a)) (Z ^^^ cd (Z.testBit a != z') (2 ^ a)) P) = emul (eclr a (nf (mk w X Z P))) (eL a x' z') := by
 have hp : ∀ t, cd t (2 ^ a) < 4096 := fun t => by
  cases t
  ·show 0 < 4096; decide
  ·exact (Nat.pow_lt_pow_right (by decide) ha : (2 : Nat) ^ a < 2 ^ 12)
 rw [nf_mk, nf_mk]
 refine e_ext ?_ ?_
 ·simp only [emul, eclr, eL]
  rw [vecb_x hX ha, vecb_z hX, and_set]
  have q := pop_cd (N := X &&& Z) ha (x' && z')
  rw [Nat.testBit_and] at q
  have hb : bt ((X + 4096 * Z) ^^^ (cd (X.testBit a) (2 ^ a) ^^^ cd (Z.testBit a) (2 ^ (12 + a)))) (cd x' (2 ^ a) ^^^ cd z' (2 ^ (12 + a))) = false := by
   have q2 : decide (a = 12 + a) = false := decide_eq_false (by omega)
   simp only [bt_xorr, bt_cdr, bt_rlo ha, bt_rhi, Nat.testBit_xor, tb_cd, Nat.testBit_two_pow, q2, vecb_z hX]
   simp
  rw [hb]
  generalize pop 12 ((X &&& Z) ^^^ cd ((X.testBit a && Z.testBit a) != (x' && z')) (2 ^ a)) = u at *
  generalize pop 12 (X &&& Z) = v at *
  generalize (X.testBit a && Z.testBit a).toNat = s at *
  generalize (x' && z').toNat = t at *
  show (P + u) % 4 = _
  simp only [Bool.toNat_false]
  omega
 ·simp only [emul, eclr, eL]
  rw [vecb_x hX ha, vecb_z hX, ← vec_xor hX (hp _), cd_xor, cd_xor, vec_split (A := cd (X.testBit a) (2 ^ a) ^^^ cd x' (2 ^ a)) (Nat.xor_lt_two_pow (n := 12) (hp _) (hp _))]
  have d : 4096 * (cd (Z.testBit a) (2 ^ a) ^^^ cd z' (2 ^ a)) = cd (Z.testBit a) (2 ^ (12 + a)) ^^^ cd z' (2 ^ (12 + a)) := by
   cases Z.testBit a <;> cases z' <;> simp [cd, Nat.pow_add]
  rw [d]; ac_rfl
theorem nf_letter {w n l : Nat} (hn : n < 12) (_hl : l ≤ 3) : nf (oneS w n l) = eL n (decide (l = 1) || decide (l = 2)) (decide (l = 2) || decide (l = 3)) := by
 have hs : oneS w n l = mk w (0 ^^^ cd ((0 : Nat).testBit n != (decide (l = 1) || decide (l = 2))) (2 ^ n)) (0 ^^^ cd ((0 : Nat).testBit n != (decide (l = 2) || decide (l = 3))) (2 ^ n)) 0 := by
  unfold oneS mk
  rw [pow_nat (by omega)]
  have c1 : ((l : Int) = 1 ∨ (l : Int) = 2) ↔ ((decide (l = 1) || decide (l = 2)) = true) := by simp; omega
  have c2 : ((l : Int) = 3 ∨ (l : Int) = 2) ↔ ((decide (l = 2) || decide (l = 3)) = true) := by simp; omega
  simp only [c1, c2, Nat.zero_testBit]
  cases (decide (l = 1) || decide (l = 2)) <;> cases (decide (l = 2) || decide (l = 3)) <;> simp [cd]
 rw [hs, nf_set (by decide) (by decide) hn]
 have h0 : eclr n (nf (mk w 0 0 0)) = e1 := by
  rw [nf_mk]
  simp [eclr, pop_zero, cd, e1]
 rw [h0, one_emul _ (eL_lt _ _ _)]
theorem one_vl {w n l : Nat} (hn : n < w) (hw : w ≤ 12) : Vl w (oneS w n l) := by
 have hp : (2 : Nat) ^ n < 2 ^ w := Nat.pow_lt_pow_right (by decide) hn
 refine ⟨if (l : Int) = 1 ∨ (l : Int) = 2 then 2 ^ n else 0, if (l : Int) = 3 ∨ (l : Int) = 2 then 2 ^ n else 0, 0, ?_, ?_, ?_, by decide⟩
 ·unfold oneS mk
  rw [pow_nat (by omega)]
  simp only [Ps.mk.injEq, true_and]
  refine ⟨?_, ?_, rfl⟩ <;> split <;> rfl
 ·split
  ·exact hp
  ·exact Nat.two_pow_pos w
 ·split
  ·exact hp
  ·exact Nat.two_pow_pos w
def dec (w : Nat) (e : E) : Ps := mk w (e.2 % 4096) (e.2 / 4096) ((e.1 + 3 * pop 12 ((e.2 % 4096) &&& (e.2 / 4096))) % 4)
theorem nf_dec (w : Nat) {e : E} (h : e.1 < 4) : nf (dec w e) = e := by
 unfold dec
 rw [nf_mk]
 refine e_ext ?_ ?_
 ·dsimp only; omega
 ·dsimp only; omega
theorem dec_vl {w : Nat} {e : E} (hw : w ≤ 12) (h : ∀ j, (w ≤ j ∧ j < 12) ∨ 12 + w ≤ j → e.2.testBit j = false) : Vl w (dec w e) := by
 refine ⟨_, _, _, rfl, ?_, ?_, Nat.mod_lt _ (by decide)⟩
 ·refine Nat.lt_pow_two_of_testBit _ fun j hj => ?_
  rw [show (4096 : Nat) = 2 ^ 12 from rfl, Nat.testBit_mod_two_pow]
  by_cases h12 : j < 12
  ·rw [h j (by omega)]; simp
  ·simp [h12]
 ·refine Nat.lt_pow_two_of_testBit _ fun j hj => ?_
  rw [show (4096 : Nat) = 2 ^ 12 from rfl, ← Nat.shiftRight_eq_div_pow, Nat.testBit_shiftRight]
  exact h _ (by omega)
theorem vl_bits {w : Nat} {q : Ps} (hw : w ≤ 12) (h : Vl w q) {j : Nat} (hj : (w ≤ j ∧ j < 12) ∨ 12 + w ≤ j) : (nf q).2.testBit j = false := by
 obtain ⟨X, Z, P, rfl, h1, h2, h3⟩ := h
 have hp : (2 : Nat) ^ w ≤ 2 ^ 12 := Nat.pow_le_pow_right (by decide) hw
 rw [nf_mk]
 dsimp only
 rw [vec_bit (by omega)]
 split
 ·exact Nat.testBit_lt_two_pow (Nat.lt_of_lt_of_le h1 (Nat.pow_le_pow_right (by decide) (by omega)))
 ·exact Nat.testBit_lt_two_pow (Nat.lt_of_lt_of_le h2 (Nat.pow_le_pow_right (by decide) (by omega)))
def thrS (w k a b : Nat) (q : Ps) : Ps := dec w (gE k a b (nf q))
def gR (w k a b : Nat) : Prop := (1 ≤ k ∧ k ≤ 6 ∧ a < w) ∨ (9 ≤ k ∧ k ≤ 11 ∧ a < w ∧ b < w ∧ a ≠ b)
theorem gR_ok {w k a b : Nat} (hw : w ≤ 12) (h : gR w k a b) : gOk k a b := by unfold gR at h; unfold gOk; omega
theorem thr_vl {w k a b : Nat} (hw : w ≤ 12) (h : gR w k a b) {q : Ps} (hq : Vl w q) : Vl w (thrS w k a b q) :=
 dec_vl hw fun j hj => gL_bits (gR_ok hw h) (w := w) (by unfold gR at h; omega) (by unfold gR at h; omega) hj (vl_bits hw hq hj)
theorem nf_thr (w k a b : Nat) (q : Ps) : nf (thrS w k a b q) = gE k a b (nf q) := nf_dec w (gE_lt _ _ _ _)
def ptS (w X Z P n : Nat) : Ps := mk w (X % 2 ^ n) (Z % 2 ^ n) P
theorem nf_pt {w X Z P n : Nat} (hn : n < 12) : nf (ptS w X Z P (n + 1)) = emul (nf (ptS w X Z P n)) (eL n (X.testBit n) (Z.testBit n)) := by
 have hp : (2 : Nat) ^ (n + 1) ≤ 2 ^ 12 := Nat.pow_le_pow_right (by decide) hn
 have hX : X % 2 ^ (n + 1) < 4096 := Nat.lt_of_lt_of_le (Nat.mod_lt _ (Nat.two_pow_pos _)) hp
 have hZ : Z % 2 ^ (n + 1) < 4096 := Nat.lt_of_lt_of_le (Nat.mod_lt _ (Nat.two_pow_pos _)) hp
 have hb : ∀ Y : Nat, (Y % 2 ^ (n + 1)).testBit n = Y.testBit n := fun Y => by rw [Nat.testBit_mod_two_pow]; simp
 have hc : ∀ Y : Nat, Y % 2 ^ (n + 1) ^^^ cd ((Y % 2 ^ (n + 1)).testBit n != false) (2 ^ n) = Y % 2 ^ n := fun Y => by
  refine Nat.eq_of_testBit_eq fun j => ?_
  rw [hb, Nat.testBit_xor, tb_cd, Nat.testBit_two_pow, Nat.testBit_mod_two_pow, Nat.testBit_mod_two_pow]
  by_cases e : n = j
  ·subst e; simp
  ·rw [decide_eq_false e]
   have : decide (j < n + 1) = decide (j < n) := decide_eq_decide.2 (by omega)
   rw [this]; simp
 have h1 := nf_set (w := w) (P := P) hX hZ hn false false
 rw [hc, hc] at h1
 have h2 : eL n false false = e1 := by simp [eL, cd, e1]
 rw [h2, emul_one _ (eclr_lt _ _)] at h1
 unfold ptS
 rw [h1]
 have h3 := eclr_mul hn (nf_lt (mk w (X % 2 ^ (n + 1)) (Z % 2 ^ (n + 1)) P))
 have hx : (nf (mk w (X % 2 ^ (n + 1)) (Z % 2 ^ (n + 1)) P)).2.testBit n = X.testBit n := by rw [nf_mk]; dsimp only; rw [vecb_x hX hn, hb]
 have hz : (nf (mk w (X % 2 ^ (n + 1)) (Z % 2 ^ (n + 1)) P)).2.testBit (12 + n) = Z.testBit n := by rw [nf_mk]; dsimp only; rw [vecb_z hX, hb]
 rw [hx, hz] at h3
 exact h3.symm
theorem pt_0 {w X Z P k a b : Nat} (h : gOk k a b) : nf (ptS w X Z P 0) = gE k a b (nf (ptS w X Z P 0)) := by
 refine (gE_fix h (nf_lt _) ?_ ?_ fun _ => ⟨?_, ?_⟩).symm <;> (unfold ptS; rw [nf_mk, Nat.pow_zero, Nat.mod_one, Nat.mod_one]; simp)
theorem pt_all {w X Z P n : Nat} (hX : X < 2 ^ n) (hZ : Z < 2 ^ n) : ptS w X Z P n = mk w X Z P := by
 unfold ptS; rw [Nat.mod_eq_of_lt hX, Nat.mod_eq_of_lt hZ]
theorem pt_step {w X Z P k a b n : Nat} (h : gOk k a b) (hn : n < 12) {e : E} (he : e = gE k a b (nf (ptS w X Z P n))) : emul e (gE k a b (eL n (X.testBit n) (Z.testBit n))) = gE k a b (nf (ptS w X Z P (n + 1))) := by
 rw [he, ← gE_mul h, ← nf_pt hn]
theorem pt_skip {w X Z P k a b n : Nat} (h : gOk k a b) (hn : n < 12) (hx : X.testBit n = false) (hz : Z.testBit n = false) {e : E} (he : e = gE k a b (nf (ptS w X Z P n))) : e = gE k a b (nf (ptS w X Z P (n + 1))) := by
 have h0 : eL n false false = e1 := by simp [eL, cd, e1]
 have := pt_step h hn he
 rw [hx, hz, h0, gE_one h, emul_one _ (by rw [he]; exact gE_lt _ _ _ _)] at this
 exact this
end Go.Tz
namespace Go.Tz
open Go Go.AL Go.Ma
theorem red_full {w : Nat} {l : List Ps} (h : SOk w l) : ∃ pc, RR l.length (2 * w) l.length (rfv l (2 * w)) pc := by
 obtain ⟨pc, r1, r2⟩ := rfv_piv h.hi h.vl
 have hb : ∀ c, ∀ a, a ∈ revl (rfv l c) l.length → a < 2 ^ 24 := by
  intro c a ha
  obtain ⟨j, hj, rfl⟩ := revl_mem.1 ha
  exact vec_lt h.hi ((red_vl h.hi h.vl c).1 j hj)
 have e1 := rk_eq (hb (2 * w)) (hb 0) fun v => rfv_span h.hi h.vl v (Nat.le_refl _)
 have e2 := h.rank
 rw [rank_rk h.hi h.vl, ← e1, rk_piv r2, cnt_all] at e2
 have han := r1.an
 have : (redN l (2 * w)).2.2 = l.length := by
  refine Classical.byContradiction fun hn => ?_
  have := e2 (redN l (2 * w)).2.2 (by omega)
  simp at this
 exact ⟨pc, by rw [this] at r1; exact r1⟩
theorem same_span {L M : List E} (h : SameG L M) (v : Nat) : spB (L.map (·.2)) v = spB (M.map (·.2)) v := by
 have key : ∀ {A B : List E}, SameG A B → spB (A.map (·.2)) v = true → spB (B.map (·.2)) v = true := fun hab ha => by
  obtain ⟨g, hg, rfl⟩ := span_gen _ v ha
  exact gen_span ((hab g).1 hg)
 cases e : spB (M.map (·.2)) v with
 | true => exact key (fun g => (h g).symm) e
 | false =>
  cases e2 : spB (L.map (·.2)) v with
  | false => rfl
  | true => rw [key h e2] at e; cases e
theorem red_uniq {w : Nat} {l m : List Ps} (h : SOk w l) (h' : SOk w m) (hg : SameG (l.map nf) (m.map nf)) : redRows l (2 * w) = redRows m (2 * w) := by
 obtain ⟨pc, r1⟩ := red_full h
 obtain ⟨pc', r2⟩ := red_full h'
 have hlen : l.length = m.length := by rw [h.len, h'.len]
 rw [← hlen] at r2
 have hs : ∀ v, spB (revl (rfv l (2 * w)) l.length) v = spB (revl (rfv m (2 * w)) l.length) v := fun v => by
  have e2 := rfv_span h'.hi h'.vl v (Nat.le_refl (2 * w))
  rw [← hlen] at e2
  have e3 := span_l (l := m) (v := v)
  rw [← hlen] at e3
  rw [rfv_span h.hi h.vl v (Nat.le_refl _), e2, e3, span_l, same_span hg]
 obtain ⟨a1, a2⟩ := redRows_ok h
 obtain ⟨b1, b2⟩ := redRows_ok h'
 have hA := sok_sta h'
 unfold redRows
 rw [← hlen]
 refine List.map_congr_left fun j hj => ?_
 have hj := List.mem_range.1 hj
 have hv := rr_uniq r1 r2 hs hj
 have mem : ∀ {l : List Ps}, j < l.length → nf ((redN l (2 * w)).1 j) ∈ (redRows l (2 * w)).map nf := fun hj => List.mem_map.2 ⟨_, List.mem_map.2 ⟨j, List.mem_range.2 hj, rfl⟩, rfl⟩
 have g1 : Gen (m.map nf) (nf ((redN l (2 * w)).1 j)) := (hg _).1 ((a2 _).2 (gen_mem' (sok_sta a1).good (mem hj)))
 have g2 : Gen (m.map nf) (nf ((redN m (2 * w)).1 j)) := (b2 _).2 (gen_mem' (sok_sta b1).good (mem (by omega)))
 exact nf_inj h.hi ((red_vl h.hi h.vl _).1 j hj) ((red_vl h'.hi h'.vl _).1 j (by omega)) (gen_uniq hA.good hA.ind g1 g2 hv)
theorem red_red {w : Nat} {l : List Ps} (h : SOk w l) : redRows (redRows l (2 * w)) (2 * w) = redRows l (2 * w) :=
 (red_uniq h (redRows_ok h).1 (redRows_ok h).2).symm
def appS (w k a b : Nat) (l : List Ps) : List Ps := redRows (l.map (thrS w k a b)) (2 * w)
theorem map_thr_nf (w k a b : Nat) (l : List Ps) : (l.map (thrS w k a b)).map nf = (l.map nf).map (gE k a b) := by
 rw [List.map_map, List.map_map]
 exact List.map_congr_left fun q _ => nf_thr w k a b q
theorem thr_all_vl {w k a b : Nat} (hw : w ≤ 12) (hg : gR w k a b) {l : List Ps} (hv : ∀ q, q ∈ l → Vl w q) : ∀ q, q ∈ l.map (thrS w k a b) → Vl w q := fun q hq => by
 obtain ⟨r, hr, rfl⟩ := List.mem_map.1 hq
 exact thr_vl hw hg (hv r hr)
theorem map_thr_sok {w k a b : Nat} (hg : gR w k a b) {l : List Ps} (h : SOk w l) : SOk w (l.map (thrS w k a b)) := by
 refine sta_sok ⟨h.lo, h.hi⟩ (thr_all_vl h.hi hg h.vl) ?_
 rw [map_thr_nf]
 exact gE_sta h.hi (gR_ok h.hi hg) (by unfold gR at hg; omega) (by unfold gR at hg; omega) (sok_sta h)
theorem app_sok {w k a b : Nat} (hg : gR w k a b) {l : List Ps} (h : SOk w l) : SOk w (appS w k a b l) := (redRows_ok (map_thr_sok hg h)).1
theorem red_all_vl {w : Nat} (hw : w ≤ 12) {l : List Ps} (hv : ∀ q, q ∈ l → Vl w q) (c : Nat) : ∀ q, q ∈ redRows l c → Vl w q := fun q hq => by
 obtain ⟨j, hj, rfl⟩ := List.mem_map.1 hq
 exact (red_vl hw hv c).1 j (List.mem_range.1 hj)
theorem proj_sub {w : Nat} {L M : List E} (hL : Sta w L) (hM : Sta w M) {p : E} (hok : eok p) (h : SameG L M) (hxL : ∃ q, q ∈ L ∧ ¬ ecom q p) (hxM : ∃ q, q ∈ M ∧ ¬ ecom q p) {g : E} (hg : Gen (proj p L) g) : Gen (proj p M) g := by
 obtain ⟨k, hk, hc, e⟩ := proj_back hL.good hok hxL hg
 obtain ⟨f, hf, hfp, hkeep⟩ := proj_keep hM.good hok hxM
 have h1 := (hkeep k ((h k).1 hk)).1 hc
 have hgd := proj_good hM.good hok hxM
 rcases e with rfl | rfl
 ·exact h1
 ·exact gen_mul' hgd (gen_mem' hgd (proj_has hxM)) h1
theorem proj_same {w : Nat} {L M : List E} (hw : w ≤ 12) (hL : Sta w L) (hM : Sta w M) {p : E} (hp : inV w p.2) (hok : eok p) (h : SameG L M) (h1 : ¬ Gen L p) (h2 : ¬ Gen L (eneg p)) : SameG (proj p L) (proj p M) := by
 have hxL := sta_anti hw hL hp hok h1 h2
 have hxM := sta_anti hw hM hp hok (fun q => h1 ((h p).2 q)) (fun q => h2 ((h _).2 q))
 exact fun g => ⟨proj_sub hL hM hok h hxL hxM, proj_sub hM hL hok (fun g => (h g).symm) hxM hxL⟩
end Go.Tz
namespace Go.Tz
open Go Go.AL Go.Ma
def zP (w n o : Nat) : Ps := mk w 0 (2 ^ n) (2 * o)
theorem zP_vl {w n o : Nat} (hn : n < w) (ho : o ≤ 1) : Vl w (zP w n o) := ⟨0, 2 ^ n, 2 * o, rfl, Nat.two_pow_pos w, Nat.pow_lt_pow_right (by decide) hn, by omega⟩
theorem zP_ok {w n o : Nat} (hw : w ≤ 12) (hn : n < w) (ho : o ≤ 1) : eok (nf (zP w n o)) := by
 rw [eok_nf hw (zP_vl hn ho)]
 show ((2 * o : Nat) : Int).tmod 2 = 0
 rw [Int.tmod_eq_emod_of_nonneg (by omega)]; omega
theorem expOk_cases {L : List E} {g : E} {e : Int} (h : ExpOk L g e) : (e = 1 ∧ Gen L g) ∨ (e = -1 ∧ Gen L (eneg g)) ∨ (e = 0 ∧ ¬ Gen L g ∧ ¬ Gen L (eneg g)) := by
 by_cases a : Gen L g
 ·exact .inl ⟨h.pos a, a⟩
 ·by_cases b : Gen L (eneg g)
  ·exact .inr (.inl ⟨h.neg b, b⟩)
  ·exact .inr (.inr ⟨h.zero a b, a, b⟩)
theorem prjF_vl {w N : Nat} (hw : w ≤ 12) {rf : Nat → Ps} {p : Ps} {a0 : Nat} {R : List Nat} (hv : ∀ j, j < N → Vl w (rf j)) (hp : Vl w p) (ha : a0 < N) : ∀ j, j < N → Vl w (prjF rf p a0 R j) := by
 intro j hj
 unfold prjF prjR
 split
 ·exact hp
 ·split
  ·exact mul_vl hw (hv j hj) (hv a0 ha)
  ·exact hv j hj
theorem mea_gen {w : Nat} {l r : List Ps} (h : SOk w l) (h' : SOk w r) (hg : SameG (r.map nf) (l.map nf)) {p : Ps} (hp : Vl w p) (hk : eok (nf p)) :
  expP r p = expR w l p ∧ (expR w l p = 0 → SOk w (prjL p l) ∧ ∃ a0 R, antL p (fun j => r.getD j Ps.z0) w = a0 :: R ∧ a0 < w ∧ redRows (rowsL w (prjF (fun j => r.getD j Ps.z0) p a0 R)) (2 * w) = redRows (prjL p l) (2 * w)) := by
 have x1 := expP_ok h' hp hk
 have x2 := expR_ok h hp hk
 refine ⟨expOk_uniq hg x1 x2, fun h0 => ?_⟩
 have hs := sok_sta h
 have hs' := sok_sta h'
 have hpin : inV w (nf p).2 := vec_in h.hi hp
 have hn : ¬ Gen (l.map nf) (nf p) ∧ ¬ Gen (l.map nf) (eneg (nf p)) := by
  rcases expOk_cases x2 with ⟨a, _⟩ | ⟨a, _⟩ | ⟨_, b⟩
  ·rw [a] at h0; cases h0
  ·rw [a] at h0; cases h0
  ·exact b
 have hn' : ¬ Gen (r.map nf) (nf p) ∧ ¬ Gen (r.map nf) (eneg (nf p)) := ⟨fun q => hn.1 ((hg _).1 q), fun q => hn.2 ((hg _).1 q)⟩
 have er := rowsL_get r h'.len
 have hx := sta_anti h.hi hs' hpin hk hn'.1 hn'.2
 rw [← er] at hx
 have hne := ant_ne hx
 have hS : SOk w (prjL p l) := by
  refine sta_sok ⟨h.lo, h.hi⟩ (prjL_vl h.hi hp h.vl) ?_
  rw [prjL_nf h.hi h.vl hs.good]
  exact proj_sta h.hi hs hpin hk hn.1 hn.2
 refine ⟨hS, ?_⟩
 cases hA : antL p (fun j => r.getD j Ps.z0) w with
 | nil => exact absurd hA hne
 | cons a0 R =>
  have hv : ∀ j, j < w → Vl w (r.getD j Ps.z0) := fun j hj => by
   rw [List.getD_eq_getElem?_getD, List.getElem?_eq_getElem (by rw [h'.len]; exact hj), Option.getD_some]
   exact h'.vl _ (List.getElem_mem _)
  have ha := (ant_spec hA).1
  refine ⟨a0, R, rfl, ha, ?_⟩
  have hf := prjF_nf h.hi hv hA
  rw [er] at hf
  have hS2 : SOk w (rowsL w (prjF (fun j => r.getD j Ps.z0) p a0 R)) := by
   refine sta_sok ⟨h.lo, h.hi⟩ (fun q hq => ?_) ?_
   ·obtain ⟨j, hj, rfl⟩ := List.mem_map.1 hq
    exact prjF_vl h.hi hv hp ha j (List.mem_range.1 hj)
   ·rw [hf]
    exact proj_sta h.hi hs' hpin hk hn'.1 hn'.2
  refine red_uniq hS2 hS ?_
  rw [hf, prjL_nf h.hi h.vl hs.good]
  exact proj_same h.hi hs' hs hpin hk hg hn'.1 hn'.2
end Go.Tz
namespace Go.Tz
open Go Go.AL Go.Proofs
variable {G : Nat → Option (List D)}
structure Gt where
 (k : Int)
 (ws : List Int)
 (u : Bool)
 (b i : Int)
def Gt.l (g : Gt) : List D := [iD g.k, intsD g.ws g.u, iD g.b, iD g.i]
abbrev Gt.d (g : Gt) : D := .agg g.l
abbrev gatesD (l : List Gt) (t : Bool) : D := .sl (l.map Gt.l) t
abbrev circD (w b : Int) (l : List Gt) (t : Bool) : D := .agg [iD w, iD b, gatesD l t]
theorem get_g {l : List Gt} {k : Nat} (h : k < l.length) : (l.map Gt.l)[(k : Int).toNat]? = some (l[k]).l := by simp [h]
theorem chk201 : chkFn Tryz.f201 = true := by kernel_rfl
theorem idx201 (l : List Gt) (t : Bool) (f : FuncId) (first cap : List D) (p : Gt → Bool) (hn : l.length ≤ 1000) (hf : ∀ q, q ∈ l → PC Pr G f (first ++ [q.d] ++ cap) (.bool (p q))) : PC Pr G 201 [gatesD l t, .fn f first cap] (iD (idxI p l)) := by
 refine pc_walk pok Tryz.func201 chk201 ?_
 conv => whnf
 skip
 refine for_use pok (fun i => ⟨[(0, .d (gatesD l t)), (1, .d (.fn f first cap)), (7, .d (iD (l.map Gt.l).length)), (8, .d (iD i))], [], 0⟩) (l.length) (fun i => ∀ q, q ∈ l.take i → p q = false) (by simp) ?_ (by kernel_rfl) ?_ ?_
 ·refine keep_env (by first | exact Nat.zero_le _ | exact Nat.le_of_ble_eq_true rfl) ?_ ?_ trivial
  ·repeat' first | exact trivial | refine ⟨⟨by first | rfl | assumption, rfl⟩, ?_⟩
  ·repeat' first | exact trivial | refine ⟨⟨ltB rfl, _, rfl, by first | rfl | assumption, by first | exact below1 rfl | exact below_dblk _ _ _ | exact below_arr rfl⟩, ?_⟩
 ·intro i A_i h_i I_i N_i
  have e_i : iadd .i64 (i : Int) 1 = ((i + 1 : Nat) : Int) := iadd_nat (by first | omega | (simp at *; omega))
  have hq := hf l[i] (List.getElem_mem h_i)
  conv => whnf
  repeat' first | ((first | refine LookP.mk _ (by first | rfl | exact get_g h_i) ?_ | refine And.intro (by first | assumption | exact ⟨by kernel_rfl, rfl⟩ | decide | omega) ?_ | rw [forceL_eq] | refine pc_use3B hq rfl ?_); conv => whnf) | (intro t ht; cases t <;> conv => whnf)
  ·exfalso; simp at ht; omega
  ·refine N_i _ ?_ ?_
   ·exact take_none h_i ht I_i
   ·refine keep_env (by first | exact Nat.zero_le _ | exact Nat.le_of_ble_eq_true rfl) ?_ ?_ trivial
    ·repeat' first | exact trivial | refine ⟨⟨by first | rfl | assumption | exact congrArg (fun n => AV.d (iD n)) e_i, rfl⟩, ?_⟩
    ·repeat' first | exact trivial | refine ⟨⟨ltB rfl, _, rfl, by first | rfl | assumption, by first | exact below1 rfl | exact below_dblk _ _ _ | exact below_arr rfl⟩, ?_⟩
  ·refine fin ?_
   rw [idxI_some h_i ht I_i]
 ·intro A_last I_last
  conv => whnf
  repeat' first | ((first | refine And.intro (by first | assumption | exact ⟨by kernel_rfl, rfl⟩ | decide | omega) ?_ | fail); conv => whnf) | (intro t ht; cases t <;> conv => whnf)
  ·rw [List.take_length] at I_last
   rw [idxI_none I_last]; exact fin rfl
  ·exfalso; simp at ht
theorem chk116 : chkFn Tryz.f116 = true := by kernel_rfl
theorem has116 (l : List Gt) (t : Bool) (f : FuncId) (first cap : List D) (p : Gt → Bool) (hn : l.length ≤ 1000) (hf : ∀ q, q ∈ l → PC Pr G f (first ++ [q.d] ++ cap) (.bool (p q))) : PC Pr G 116 [gatesD l t, .fn f first cap] (.bool (l.any p)) := by
 have hi := idx201 l t f first cap p hn hf
 rw [← idxI_ge]
 generalize idxI p l = i at hi ⊢
 refine pc_walk pok Tryz.func116 chk116 ?_
 conv => whnf
 repeat' first | (refine pc_use hi ?_; conv => whnf) | (intro t ht; cases t <;> conv => whnf)
 all_goals rw [ht]; exact fin rfl
theorem chk253 : chkFn Tryz.f253 = true := by kernel_rfl
theorem ev253 (q : Gt) (f : FuncId) (first cap : List D) (b : Bool) (hf : PC Pr G f (first ++ [q.d] ++ cap) (.bool b)) : PC Pr G 253 [q.d, .rop [.fn f first cap] 0] (.bool (!b)) := by
 refine pc_walk pok Tryz.func253 chk253 ?_
 conv => whnf
 repeat' first | ((first | refine LookP.mk _ rfl ?_ | rw [forceL_eq] | refine pc_use3B hf rfl ?_); conv => whnf) | (intro t ht; cases t <;> conv => whnf)
 all_goals rw [ht]; exact fin rfl
theorem chk206 : chkFn Tryz.f206 = true := by kernel_rfl
theorem every206 (l : List Gt) (t : Bool) (f : FuncId) (first cap : List D) (p : Gt → Bool) (hn : l.length ≤ 1000) (hf : ∀ q, q ∈ l → PC Pr G f (first ++ [q.d] ++ cap) (.bool (p q))) : PC Pr G 206 [gatesD l t, .fn f first cap] (.bool (l.all p)) := by
 have hi := has116 (G := G) l t 253 [] [.rop [.fn f first cap] 0] (fun q => !p q) hn fun q hq => ev253 q f first cap (p q) (hf q hq)
 refine pc_walk pok Tryz.func206 chk206 ?_
 conv => whnf
 have e : l.all p = !l.any (fun q => !p q) := by
  rw [List.all_eq_not_any_not]
 rw [e]
 repeat' first | (refine pc_lendcB hi rfl ?_) | (intro t ht; cases t <;> conv => whnf)
 all_goals rw [ht]; exact fin rfl
theorem chk256 : chkFn Tryz.f256 = true := by kernel_rfl
theorem idx256 (l : List Int) (t : Bool) (f : FuncId) (first cap : List D) (p : Int → Bool) (hn : l.length ≤ 1000) (hf : ∀ q, q ∈ l → PC Pr G f (first ++ [iD q] ++ cap) (.bool (p q))) : PC Pr G 256 [intsD l t, .fn f first cap] (iD (idxI p l)) := by
 refine pc_walk pok Tryz.func256 chk256 ?_
 conv => whnf
 skip
 refine for_use pok (fun i => ⟨[(0, .d (intsD l t)), (1, .d (.fn f first cap)), (7, .d (iD (l.map fun k => [iD k]).length)), (8, .d (iD i))], [], 0⟩) (l.length) (fun i => ∀ q, q ∈ l.take i → p q = false) (by simp) ?_ (by kernel_rfl) ?_ ?_
 ·refine keep_env (by first | exact Nat.zero_le _ | exact Nat.le_of_ble_eq_true rfl) ?_ ?_ trivial
  ·repeat' first | exact trivial | refine ⟨⟨by first | rfl | assumption, rfl⟩, ?_⟩
  ·repeat' first | exact trivial | refine ⟨⟨ltB rfl, _, rfl, by first | rfl | assumption, by first | exact below1 rfl | exact below_dblk _ _ _ | exact below_arr rfl⟩, ?_⟩
 ·intro i A_i h_i I_i N_i
  have e_i : iadd .i64 (i : Int) 1 = ((i + 1 : Nat) : Int) := iadd_nat (by first | omega | (simp at *; omega))
  have hq := hf l[i] (List.getElem_mem h_i)
  conv => whnf
  repeat' first | ((first | refine LookP.mk _ (by first | rfl | exact get_i h_i) ?_ | refine And.intro (by first | assumption | exact ⟨by kernel_rfl, rfl⟩ | decide | omega) ?_ | rw [forceL_eq] | refine pc_use3B hq rfl ?_); conv => whnf) | (intro t ht; cases t <;> conv => whnf)
  ·exfalso; simp at ht; omega
  ·refine N_i _ ?_ ?_
   ·exact take_none h_i ht I_i
   ·refine keep_env (by first | exact Nat.zero_le _ | exact Nat.le_of_ble_eq_true rfl) ?_ ?_ trivial
    ·repeat' first | exact trivial | refine ⟨⟨by first | rfl | assumption | exact congrArg (fun n => AV.d (iD n)) e_i, rfl⟩, ?_⟩
    ·repeat' first | exact trivial | refine ⟨⟨ltB rfl, _, rfl, by first | rfl | assumption, by first | exact below1 rfl | exact below_dblk _ _ _ | exact below_arr rfl⟩, ?_⟩
  ·refine fin ?_
   rw [idxI_some h_i ht I_i]
 ·intro A_last I_last
  conv => whnf
  repeat' first | ((first | refine And.intro (by first | assumption | exact ⟨by kernel_rfl, rfl⟩ | decide | omega) ?_ | fail); conv => whnf) | (intro t ht; cases t <;> conv => whnf)
  ·rw [List.take_length] at I_last
   rw [idxI_none I_last]; exact fin rfl
  ·exfalso; simp at ht
theorem chk209 : chkFn Tryz.f209 = true := by kernel_rfl
theorem has209 (l : List Int) (t : Bool) (f : FuncId) (first cap : List D) (p : Int → Bool) (hn : l.length ≤ 1000) (hf : ∀ q, q ∈ l → PC Pr G f (first ++ [iD q] ++ cap) (.bool (p q))) : PC Pr G 209 [intsD l t, .fn f first cap] (.bool (l.any p)) := by
 have hi := idx256 l t f first cap p hn hf
 rw [← idxI_ge]
 generalize idxI p l = i at hi ⊢
 refine pc_walk pok Tryz.func209 chk209 ?_
 conv => whnf
 repeat' first | (refine pc_use hi ?_; conv => whnf) | (intro t ht; cases t <;> conv => whnf)
 all_goals rw [ht]; exact fin rfl
theorem chk272 : chkFn Tryz.f272 = true := by kernel_rfl
theorem ev272 (q : Int) (f : FuncId) (first cap : List D) (b : Bool) (hf : PC Pr G f (first ++ [iD q] ++ cap) (.bool b)) : PC Pr G 272 [iD q, .rop [.fn f first cap] 0] (.bool (!b)) := by
 refine pc_walk pok Tryz.func272 chk272 ?_
 conv => whnf
 repeat' first | ((first | rw [forceL_eq] | refine pc_use3B hf rfl ?_); conv => whnf) | (intro t ht; cases t <;> conv => whnf)
 all_goals rw [ht]; exact fin rfl
theorem chk255 : chkFn Tryz.f255 = true := by kernel_rfl
theorem every255 (l : List Int) (t : Bool) (f : FuncId) (first cap : List D) (p : Int → Bool) (hn : l.length ≤ 1000) (hf : ∀ q, q ∈ l → PC Pr G f (first ++ [iD q] ++ cap) (.bool (p q))) : PC Pr G 255 [intsD l t, .fn f first cap] (.bool (l.all p)) := by
 have hi := has209 (G := G) l t 272 [] [.rop [.fn f first cap] 0] (fun q => !p q) hn fun q hq => ev272 q f first cap (p q) (hf q hq)
 refine pc_walk pok Tryz.func255 chk255 ?_
 conv => whnf
 have e : l.all p = !l.any (fun q => !p q) := by
  rw [List.all_eq_not_any_not]
 rw [e]
 repeat' first | (refine pc_lendcB hi rfl ?_) | (intro t ht; cases t <;> conv => whnf)
 all_goals rw [ht]; exact fin rfl
end Go.Tz
namespace Go.Tz
open Go Go.AL Go.Proofs
variable {G : Nat → Option (List D)}
theorem fiI {a b : Int} (h : a = b) : AV.d (.int .i64 a) = AV.d (iD b) := by rw [h]
theorem fiB {a b : Bool} (h : a = b) : AV.d (.bool a) = AV.d (.bool b) := by rw [h]
def arI (k : Int) : Int := if (1 ≤ k ∧ k ≤ 8) ∨ k = 13 ∨ k = 14 then 1 else if 9 ≤ k ∧ k ≤ 11 then 2 else if k = 12 then 3 else 0
theorem ari1 {k : Int} (h : (1 ≤ k ∧ k ≤ 8) ∨ k = 13 ∨ k = 14) : arI k = 1 := by unfold arI; rw [if_pos h]
theorem ari2 {k : Int} (h : 9 ≤ k ∧ k ≤ 11) : arI k = 2 := by unfold arI; rw [if_neg (by omega), if_pos h]
theorem ari3 {k : Int} (h : k = 12) : arI k = 3 := by unfold arI; rw [if_neg (by omega), if_neg (by omega), if_pos h]
theorem ari0 {k : Int} (h : k < 1 ∨ k > 14) : arI k = 0 := by unfold arI; rw [if_neg (by omega), if_neg (by omega), if_neg (by omega)]
theorem chk159 : chkFn Tryz.f159 = true := by kernel_rfl
theorem ar159 (k : Int) : PC Pr G 159 [iD k] (iD (arI k)) := by
 refine pc_walk pok Tryz.func159 chk159 ?_
 conv => whnf
 repeat' first | (intro t ht; cases t <;> conv => whnf)
 all_goals refine fin ?_
 all_goals refine fiI ?_
 all_goals simp at *
 all_goals first | exact (ari1 (by omega)).symm | exact (ari2 (by omega)).symm | exact (ari3 (by omega)).symm | exact (ari0 (by omega)).symm
def dupAt (ws : List Int) (i : Nat) : Bool := match ws[i]? with
 | some n => decide (n ∈ ws.take i)
 | none => false
def dupB (ws : List Int) : Bool := (List.range ws.length).any (dupAt ws)
theorem dupAt_lt {ws : List Int} {i : Nat} (h : i < ws.length) : dupAt ws i = decide (ws[i] ∈ ws.take i) := by
 unfold dupAt; rw [List.getElem?_eq_getElem h]
theorem dupB_of {ws : List Int} {i : Nat} (h : i < ws.length) (h1 : dupAt ws i = true) : dupB ws = true := List.any_eq_true.2 ⟨i, List.mem_range.2 h, h1⟩
theorem dupB_no {ws : List Int} (h : ∀ j, j < ws.length → dupAt ws j = false) : dupB ws = false := List.any_eq_false.2 fun j hj => by rw [h j (List.mem_range.1 hj)]; simp
def outB (w : Int) (ws : List Int) : Bool := ws.any fun n => decide (n < 0 ∨ n ≥ w)
def bitE (g : Gt) (bits : Int) : Int := if g.i < 0 ∨ g.i > bits ∨ (g.k = 13 ∧ (g.b < 0 ∨ g.b ≥ bits)) then 1 else if ((g.k = 13 ∨ g.k = 14) ∧ g.i ≠ 0) ∨ (g.k ≠ 13 ∧ g.b ≠ 0) then 7 else 0
def gchk (g : Gt) (w bits : Int) : Int := if arI g.k = 0 then 3 else if (g.ws.length : Int) ≠ arI g.k then 2 else if outB w g.ws = true then 1 else if dupB g.ws = true then 5 else bitE g bits
theorem chk254 : chkFn Tryz.f254 = true := by kernel_rfl
theorem wire254 (n w b : Int) (gd : D) : PC Pr G 254 [iD n, .rop [iD w, iD b, gd, .nilf] 0] (.bool (!decide (n < 0 ∨ n ≥ w))) := by
 refine pc_walk pok Tryz.func254 chk254 ?_
 conv => whnf
 repeat' first | (intro t ht; cases t <;> conv => whnf)
 all_goals refine fin ?_
 all_goals refine fiB ?_
 all_goals simp at *
 all_goals omega
theorem bitE1 {g : Gt} {bits : Int} (h : g.i < 0 ∨ g.i > bits ∨ (g.k = 13 ∧ (g.b < 0 ∨ g.b ≥ bits))) : bitE g bits = 1 := by unfold bitE; rw [if_pos h]
theorem bitE7 {g : Gt} {bits : Int} (h : ¬ (g.i < 0 ∨ g.i > bits ∨ (g.k = 13 ∧ (g.b < 0 ∨ g.b ≥ bits)))) (h2 : ((g.k = 13 ∨ g.k = 14) ∧ g.i ≠ 0) ∨ (g.k ≠ 13 ∧ g.b ≠ 0)) : bitE g bits = 7 := by unfold bitE; rw [if_neg h, if_pos h2]
theorem bitE0 {g : Gt} {bits : Int} (h : ¬ (g.i < 0 ∨ g.i > bits ∨ (g.k = 13 ∧ (g.b < 0 ∨ g.b ≥ bits)))) (h2 : ¬ (((g.k = 13 ∨ g.k = 14) ∧ g.i ≠ 0) ∨ (g.k ≠ 13 ∧ g.b ≠ 0))) : bitE g bits = 0 := by unfold bitE; rw [if_neg h, if_neg h2]
theorem ar_le {k : Int} (h : arI k ≠ 0) : k ≤ 14 := by
 refine Classical.byContradiction fun hn => h (ari0 (by omega))
theorem out_no {w : Int} {ws : List Int} (h : ∀ n, n ∈ ws → ¬ (n < 0 ∨ n ≥ w)) : outB w ws = false := List.any_eq_false.2 fun n hn => by simpa using h n hn
end Go.Tz
namespace Go.Tz
open Go Go.AL Go.Proofs
variable {G : Nat → Option (List D)}
theorem all_out (w : Int) (ws : List Int) : (ws.all fun n => !decide (n < 0 ∨ n ≥ w)) = !outB w ws := by
 unfold outB; rw [List.not_any_eq_all_not]
theorem chk207 : chkFn Tryz.f207 = true := by kernel_rfl
theorem gate207 (g : Gt) (w bits : Int) (gd : D) (hn : g.ws.length ≤ 1000) : PC Pr G 207 [.agg [iD w, iD bits, gd, .nilf], g.d] (iD (gchk g w bits)) := by
 obtain ⟨k, ws, u, b, f⟩ := g
 have hn : ws.length ≤ 1000 := hn
 have h159 := ar159 (G := G) k
 have hev := every255 (G := G) ws u 254 [] [.rop [iD w, iD bits, gd, .nilf] 0] (fun n => !decide (n < 0 ∨ n ≥ w)) hn fun n _ => wire254 n w bits gd
 rw [all_out] at hev
 refine pc_walk pok Tryz.func207 chk207 ?_
 conv => whnf
 repeat' first | ((first | refine LookP.mk _ rfl ?_ | refine pc_use h159 ?_ | refine pc_head h159 ?_); conv => whnf) | (refine pc_lendcB hev rfl ?_) | (refine HpP.force ?_; conv => whnf) | (intro t ht; cases t <;> conv => whnf)
 ·refine fin ?_
  rename_i hA hL
  have hA : arI k ≠ 0 := by simpa using hA
  have hL : (ws.length : Int) = arI k := by simpa using hL
  have : gchk ⟨k, ws, u, b, f⟩ w bits = 1 := by unfold gchk; rw [if_neg hA, if_neg (by simpa using hL), if_pos (by simpa using ht)]
  rw [this]
 ·rename_i hA hL
  have hA : arI k ≠ 0 := by simpa using hA
  have hL : (ws.length : Int) = arI k := by simpa using hL
  have hO : outB w ws = false := by simpa using ht
  refine for_use pok (fun i => ⟨[(2, .ptr 0 4 0 0), (3, .ptr 1 4 0 0), (30, .d (intsD ws u)), (31, .d (iD (ws.map fun k => [iD k]).length)), (32, .d (iD i))], [(0, some (.arr 4 [[.d (iD w), .d (iD bits), .d gd, .d .nilf]])), (1, some (.arr 4 [[.d (iD k), .d (intsD ws u), .d (iD b), .d (iD f)]]))], 2⟩) (ws.length) (fun i => ∀ j, j < i → dupAt ws j = false) (by omega) ?_ (by kernel_rfl) ?_ ?_
  ·refine keep_env (by first | exact Nat.zero_le _ | exact Nat.le_of_ble_eq_true rfl) ?_ ?_ trivial
   ·repeat' first | exact trivial | refine ⟨⟨by first | rfl | assumption, rfl⟩, ?_⟩
   ·repeat' first | exact trivial | refine ⟨⟨ltB rfl, _, rfl, by first | rfl | assumption, by first | exact below1 rfl | exact below_dblk _ _ _ | exact below_arr rfl⟩, ?_⟩
  ·intro i A_i h_i I_i N_i
   have e_i : iadd .i64 (i : Int) 1 = ((i + 1 : Nat) : Int) := iadd_nat (by first | omega | (simp at *; omega))
   have hm : ∀ t, PC Pr G 25 [.sl (List.take ((i : Int).toNat - 0) (List.drop 0 (ws.map fun k => [iD k]))) t, iD ws[i]] (.bool (dupAt ws i)) := by
    intro t
    rw [Nat.sub_zero, List.drop_zero, Int.toNat_natCast, ← List.map_take, dupAt_lt h_i]
    exact has25 (G := G) (ws.take i) t ws[i] (by simp; omega)
   conv => whnf
   repeat (refine LookP.mk _ rfl ?_; conv => whnf)
   intro t ht
   cases t
   ·exfalso; first | (simp at ht; done) | (simp at ht; omega)
   conv => whnf
   repeat' first | ((first | refine LookP.mk _ (by first | rfl | exact get_i h_i) ?_ | refine And.intro (by first | exact ⟨Nat.zero_le _, by simp; omega, by simp⟩ | assumption | exact ⟨by kernel_rfl, rfl⟩ | decide | omega) ?_ | fail); conv => whnf) | (refine pc_useB ((hm _)) ?_) | (intro t ht; cases t <;> conv => whnf)
   ·refine N_i _ ?_ ?_
    ·(intro j hj; rcases Nat.lt_or_ge j i with q | q; exact I_i j q; rw [show j = i by omega]; exact ht)
    ·refine keep_env (by first | exact Nat.zero_le _ | exact Nat.le_of_ble_eq_true rfl) ?_ ?_ trivial
     ·repeat' first | exact trivial | refine ⟨⟨by first | rfl | assumption | exact congrArg (fun n => AV.d (iD n)) e_i, rfl⟩, ?_⟩
     ·repeat' first | exact trivial | refine ⟨⟨ltB rfl, _, rfl, by first | rfl | assumption, by first | exact below1 rfl | exact below_dblk _ _ _ | exact below_arr rfl⟩, ?_⟩
   ·refine fin ?_
    have : gchk ⟨k, ws, u, b, f⟩ w bits = 5 := by unfold gchk; rw [if_neg hA, if_neg (by simpa using hL), if_neg (by rw [hO]; simp), if_pos (dupB_of h_i ht)]
    rw [this]
  ·intro A_last I_last
   have hD := dupB_no I_last
   have hg : gchk ⟨k, ws, u, b, f⟩ w bits = bitE ⟨k, ws, u, b, f⟩ bits := by unfold gchk; rw [if_neg hA, if_neg (by simpa using hL), if_neg (by rw [hO]; simp), if_neg (by rw [hD]; simp)]
   rw [hg]
   have hk := ar_le hA
   conv => whnf
   repeat (refine LookP.mk _ rfl ?_; conv => whnf)
   intro t ht
   cases t
   rotate_left
   ·exfalso; first | (simp at ht; done) | (simp at ht; omega)
   conv => whnf
   repeat' first | (refine LookP.mk _ rfl ?_; conv => whnf) | (intro t ht; cases t <;> conv => whnf)
   all_goals refine fin ?_
   all_goals refine fiI ?_
   all_goals simp at *
   all_goals first | exact (bitE1 (by dsimp only; omega)).symm | exact (bitE7 (by dsimp only; omega) (by dsimp only; omega)).symm | exact (bitE0 (by dsimp only; omega) (by dsimp only; omega)).symm
 ·refine fin ?_
  rename_i hA
  have hA : arI k ≠ 0 := by simpa using hA
  have : gchk ⟨k, ws, u, b, f⟩ w bits = 2 := by unfold gchk; rw [if_neg hA, if_pos (by simpa using ht)]
  rw [this]
 ·refine fin ?_
  have : gchk ⟨k, ws, u, b, f⟩ w bits = 3 := by unfold gchk; rw [if_pos (by simpa using ht)]
  rw [this]
theorem find_atG {α : Type} {l : List α} {p : α → Bool} {i : Nat} (h : i < l.length) (hz : ∀ q, q ∈ l.take i → p q = false) (hp : p l[i] = true) : l.find? p = some l[i] := by
 rw [List.find?_eq_some_iff_getElem]
 refine ⟨hp, i, h, rfl, fun j hj => ?_⟩
 rw [hz _ (List.mem_take_iff_getElem.2 ⟨j, by omega, rfl⟩)]; rfl
def cchk (w bits : Int) (l : List Gt) : Int := if w < 1 ∨ w > 12 ∨ bits < 0 ∨ bits > 8 then 3 else if l.length > 120 then 2 else match l.find? (fun g => decide (gchk g w bits ≠ 0)) with
 | some g => gchk g w bits
 | none => 0
theorem cchk3 {w bits : Int} {l : List Gt} (h : w < 1 ∨ w > 12 ∨ bits < 0 ∨ bits > 8) : cchk w bits l = 3 := by unfold cchk; rw [if_pos h]
theorem cchk2 {w bits : Int} {l : List Gt} (h : ¬ (w < 1 ∨ w > 12 ∨ bits < 0 ∨ bits > 8)) (h2 : l.length > 120) : cchk w bits l = 2 := by unfold cchk; rw [if_neg h, if_pos h2]
theorem cchk_at {w bits : Int} {l : List Gt} (h : ¬ (w < 1 ∨ w > 12 ∨ bits < 0 ∨ bits > 8)) (h2 : ¬ l.length > 120) {i : Nat} (hi : i < l.length) (h3 : ∀ g, g ∈ l.take i → gchk g w bits = 0) (h4 : gchk l[i] w bits ≠ 0) : cchk w bits l = gchk l[i] w bits := by
 unfold cchk
 rw [if_neg h, if_neg h2, find_atG (p := fun g => decide (gchk g w bits ≠ 0)) hi (fun q hq => by simp [h3 q hq]) (by simpa using h4)]
theorem cchk0 {w bits : Int} {l : List Gt} (h : ¬ (w < 1 ∨ w > 12 ∨ bits < 0 ∨ bits > 8)) (h2 : ¬ l.length > 120) (h3 : ∀ g, g ∈ l → gchk g w bits = 0) : cchk w bits l = 0 := by
 unfold cchk
 rw [if_neg h, if_neg h2, List.find?_eq_none.2 (by intro q hq; simp [h3 q hq])]
theorem cchk_ok {w bits : Int} {l : List Gt} (h : cchk w bits l = 0) : (1 ≤ w ∧ w ≤ 12) ∧ (0 ≤ bits ∧ bits ≤ 8) ∧ l.length ≤ 120 ∧ ∀ g, g ∈ l → gchk g w bits = 0 := by
 by_cases h1 : w < 1 ∨ w > 12 ∨ bits < 0 ∨ bits > 8
 ·rw [cchk3 h1] at h; cases h
 ·by_cases h2 : l.length > 120
  ·rw [cchk2 h1 h2] at h; cases h
  ·refine ⟨by omega, by omega, by omega, fun g hg => ?_⟩
   unfold cchk at h
   rw [if_neg h1, if_neg h2] at h
   cases e : l.find? (fun g => decide (gchk g w bits ≠ 0)) with
   | none =>
    have := List.find?_eq_none.1 e g hg
    simpa using this
   | some x =>
    have h5 := List.find?_some e
    rw [e] at h
    simp only [ne_eq, decide_not, Bool.not_eq_eq_eq_not, Bool.not_true, decide_eq_false_iff_not] at h5
    exact absurd h h5
theorem chk129 : chkFn Tryz.f129 = true := by kernel_rfl
theorem check129 (w bits : Int) (l : List Gt) (t : Bool) (hn : l.length ≤ 1000) (hws : ∀ g, g ∈ l → g.ws.length ≤ 1000) : PC Pr G 129 [circD w bits l t] (iD (cchk w bits l)) := by
 refine pc_walk pok Tryz.func129 chk129 ?_
 conv => whnf
 repeat' first | (refine LookP.mk _ rfl ?_; conv => whnf) | (intro t ht; cases t <;> conv => whnf)
 ·have hR : ¬ (w < 1 ∨ w > 12 ∨ bits < 0 ∨ bits > 8) := by simp at *; omega
  have hL : ¬ l.length > 120 := by simp at ht; omega
  refine for_use pok (fun i => ⟨[(3, .d (.fn 207 [.agg [iD w, iD bits, gatesD l t, .nilf]] [])), (35, .d (gatesD l t)), (36, .d (iD (l.map Gt.l).length)), (37, .d (iD i))], [], 0⟩) (l.length) (fun i => ∀ g, g ∈ l.take i → gchk g w bits = 0) (by simp) ?_ (by kernel_rfl) ?_ ?_
  ·refine keep_env (by first | exact Nat.zero_le _ | exact Nat.le_of_ble_eq_true rfl) ?_ ?_ trivial
   ·repeat' first | exact trivial | refine ⟨⟨by first | rfl | assumption, rfl⟩, ?_⟩
   ·repeat' first | exact trivial | refine ⟨⟨ltB rfl, _, rfl, by first | rfl | assumption, by first | exact below1 rfl | exact below_dblk _ _ _ | exact below_arr rfl⟩, ?_⟩
  ·intro i A_i h_i I_i N_i
   have e_i : iadd .i64 (i : Int) 1 = ((i + 1 : Nat) : Int) := iadd_nat (by first | omega | (simp at *; omega))
   have hc := gate207 (G := G) l[i] w bits (gatesD l t) (hws _ (List.getElem_mem h_i))
   have hst : gchk l[i] w bits = 0 → ∀ g, g ∈ l.take (i + 1) → gchk g w bits = 0 := fun h g hg => by
    rw [take_snoc h_i, List.mem_append, List.mem_singleton] at hg
    rcases hg with q | q
    ·exact I_i g q
    ·rw [q]; exact h
   have hat := cchk_at hR hL h_i I_i
   generalize gchk l[i] w bits = e at hc hst hat
   conv => whnf
   repeat (refine LookP.mk _ rfl ?_; conv => whnf)
   intro t ht
   cases t
   ·exfalso; first | (simp at ht; done) | (simp at ht; omega)
   conv => whnf
   repeat' first | ((first | refine LookP.mk _ (by first | rfl | exact get_g h_i) ?_ | refine ShlP.mk _ (by first | (simp only [List.set, over, List.take, List.drop, List.append_eq, List.nil_append, List.cons_append, List.length]; rfl) | rfl) ?_ | refine And.intro (by first | assumption | exact ⟨by kernel_rfl, rfl⟩ | decide | omega) ?_ | refine pc_use hc ?_ | refine HpP.force ?_); conv => whnf) | (intro t ht; cases t <;> conv => whnf)
   ·refine N_i _ ?_ ?_
    ·exact hst (by simpa using ht)
    ·refine keep_env (by first | exact Nat.zero_le _ | exact Nat.le_of_ble_eq_true rfl) ?_ ?_ trivial
     ·repeat' first | exact trivial | refine ⟨⟨by first | rfl | assumption | exact congrArg (fun n => AV.d (iD n)) e_i, rfl⟩, ?_⟩
     ·repeat' first | exact trivial | refine ⟨⟨ltB rfl, _, rfl, by first | rfl | assumption, by first | exact below1 rfl | exact below_dblk _ _ _ | exact below_arr rfl⟩, ?_⟩
   ·refine fin ?_
    rw [hat (by simpa using ht)]
  ·intro A_last I_last
   rw [List.take_length] at I_last
   conv => whnf
   repeat (refine LookP.mk _ rfl ?_; conv => whnf)
   intro t ht
   cases t
   rotate_left
   ·exfalso; first | (simp at ht; done) | (simp at ht; omega)
   conv => whnf
   skip
   refine fin ?_
   rw [cchk0 hR hL I_last]
 all_goals refine fin ?_
 all_goals refine fiI ?_
 all_goals simp at *
 all_goals first | exact (cchk3 (by omega)).symm | exact (cchk2 (by omega) (by omega)).symm
end Go.Tz
namespace Go.Tz
open Go Go.AL Go.Proofs Go.Ma
variable {G : Nat → Option (List D)}
def Gt.own (g : Gt) : Gt := { g with u := false }
theorem asD_agg3 {H : AHeap} {v1 v2 v3 : AV} {d1 d2 d3 : D} (h1 : AsD H v1 d1) (h2 : AsD H v2 d2) (h3 : AsD H v3 d3) : AsD H (.agg [v1, v2, v3]) (.agg [d1, d2, d3]) := by
 refine .agg _ _ rfl fun j v d hv hd => ?_
 match j, hv, hd with
 | 0, hv, hd => simp at hv hd; subst hv hd; exact h1
 | 1, hv, hd => simp at hv hd; subst hv hd; exact h2
 | 2, hv, hd => simp at hv hd; subst hv hd; exact h3
 | j + 3, hv, _ => simp at hv
end Go.Tz
namespace Go.Tz
open Go Go.AL Go.Proofs Go.Ma
variable {G : Nat → Option (List D)}
def minS (q : Ps) : Ps := ⟨q.w, q.x, q.z, (iadd .i64 q.p 2).tmod 4⟩
theorem chk258 : chkFn Tryz.f258 = true := by kernel_rfl
theorem minus258 (q : Ps) : PC Pr G 258 [q.d] (minS q).d := by
 refine pc_walk pok Tryz.func258 chk258 ?_
 conv => whnf
 repeat' first | ((first | refine LookP.mk _ rfl ?_ | refine ShlP.mk _ (by first | (simp only [List.set, over, List.take, List.drop, List.append_eq, List.nil_append, List.cons_append, List.length]; rfl) | rfl) ?_ | refine And.intro (by first | assumption | exact ⟨by kernel_rfl, rfl⟩ | decide | omega) ?_ | refine HpP.force ?_); conv => whnf)
 exact fin rfl
theorem chk214 : chkFn Tryz.f214 = true := by kernel_rfl
def im1 (w a k : Nat) : Ps × Ps := match k with
 | 1 => (oneS w a 1, minS (oneS w a 3))
 | 2 => (minS (oneS w a 1), minS (oneS w a 3))
 | 3 => (minS (oneS w a 1), oneS w a 3)
 | 4 => (oneS w a 3, oneS w a 1)
 | 5 => (oneS w a 2, oneS w a 3)
 | _ => (minS (oneS w a 2), oneS w a 3)
def im2 (w n c k : Nat) (z : Bool) : Ps × Ps := match k with
 | 9 => match z with
  | true => (timS (oneS w n 1) (oneS w c 1), oneS w n 3)
  | false => (oneS w n 1, timS (oneS w c 3) (oneS w n 3))
 | 10 => (timS (oneS w n 1) (oneS w c 3), oneS w n 3)
 | _ => (oneS w c 1, oneS w c 3)
theorem one_w (w n l : Int) : (oneS w n l).w = w := rfl
theorem beqT1 {α : Type} [BEq α] [ReflBEq α] {a : α} {k : Bool → Prop} (h : k true) : ∀ t, (a == a) = t → k t := fun t e => by
 have e2 : true = t := (beq_self_eq_true a).symm.trans e
 exact e2 ▸ h
theorem beqF1 {a b : Int} {k : Bool → Prop} (hne : decide (a = b) = false) (h : k false) : ∀ t, (a == b) = t → k t := fun t e => by
 have hne : a ≠ b := of_decide_eq_false hne
 have e2 : false = t := (beq_false_of_ne hne).symm.trans e
 exact e2 ▸ h
theorem images1 {w a k : Nat} {K : Int} (hK : K = k) (h1 : 1 ≤ k) (h2 : k ≤ 6) (u : Bool) (b i : Int) : PC Pr G 214 [iD w, (Gt.mk K [(a : Int)] u b i).d, iD 0] (.tup [(im1 w a k).1.d, (im1 w a k).2.d]) := by
 have g1 := one212 (G := G) w a 1 (Int.natCast_nonneg _)
 have g2 := one212 (G := G) w a 2 (Int.natCast_nonneg _)
 have g3 := one212 (G := G) w a 3 (Int.natCast_nonneg _)
 have hk : k = 1 ∨ k = 2 ∨ k = 3 ∨ k = 4 ∨ k = 5 ∨ k = 6 := by omega
 rcases hk with rfl | rfl | rfl | rfl | rfl | rfl
 all_goals first | obtain rfl : K = 1 := hK | obtain rfl : K = 2 := hK | obtain rfl : K = 3 := hK | obtain rfl : K = 4 := hK | obtain rfl : K = 5 := hK | obtain rfl : K = 6 := hK
 all_goals
  simp only [im1]
  generalize oneS w a 1 = q1 at g1 ⊢
  generalize oneS w a 2 = q2 at g2 ⊢
  generalize oneS w a 3 = q3 at g3 ⊢
  have m1 := minus258 (G := G) q1
  have m2 := minus258 (G := G) q2
  have m3 := minus258 (G := G) q3
  refine pc_walk pok Tryz.func214 chk214 ?_
  conv => whnf
  repeat' first | ((first | refine LookP.mk _ rfl ?_ | refine ShlP.mk _ (by first | (simp only [List.set, over, List.take, List.drop, List.append_eq, List.nil_append, List.cons_append, List.length]; rfl) | rfl) ?_ | refine And.intro (by first | exact of_decide_eq_true (by kernel_rfl) | assumption | exact ⟨by kernel_rfl, rfl⟩ | decide | omega) ?_ | refine beqT1 ?_ | refine beqF1 rfl ?_ | refine pc_use g1 ?_ | refine pc_use g2 ?_ | refine pc_use g3 ?_ | refine pc_head m1 ?_ | refine pc_head m2 ?_ | refine pc_head m3 ?_ | refine HpP.force ?_); conv => whnf)
  all_goals first | (exfalso; simp at ht; done) | exact fin rfl
theorem images2 {w n c k : Nat} (hw : 1 ≤ w ∧ w ≤ 12) {K : Int} (hK : K = k) (h1 : 9 ≤ k) (h2 : k ≤ 11) (z : Bool) (u : Bool) (b i : Int) : PC Pr G 214 [iD w, (Gt.mk K [if z then (n : Int) else c, if z then (c : Int) else n] u b i).d, iD (if z then 0 else 1)] (.tup [(im2 w n c k z).1.d, (im2 w n c k z).2.d]) := by
 have g1 := one212 (G := G) w n 1 (Int.natCast_nonneg _)
 have g2 := one212 (G := G) w n 2 (Int.natCast_nonneg _)
 have g3 := one212 (G := G) w n 3 (Int.natCast_nonneg _)
 have c1 := one212 (G := G) w c 1 (Int.natCast_nonneg _)
 have c3 := one212 (G := G) w c 3 (Int.natCast_nonneg _)
 have w1 := one_w w n 1
 have w2 := one_w w c 3
 have hk : k = 9 ∨ k = 10 ∨ k = 11 := by omega
 rcases hk with rfl | rfl | rfl
 all_goals first | obtain rfl : K = 9 := hK | obtain rfl : K = 10 := hK | obtain rfl : K = 11 := hK
 all_goals cases z
 all_goals
  simp only [im2]
  generalize oneS w n 1 = q1 at g1 w1 ⊢
  generalize oneS w n 2 = q2 at g2 ⊢
  generalize oneS w n 3 = q3 at g3 ⊢
  generalize oneS w c 1 = r1 at c1 ⊢
  generalize oneS w c 3 = r3 at c3 w2 ⊢
  refine pc_walk pok Tryz.func214 chk214 ?_
  conv => whnf
  repeat' first | ((first | refine LookP.mk _ rfl ?_ | refine ShlP.mk _ (by first | (simp only [List.set, over, List.take, List.drop, List.append_eq, List.nil_append, List.cons_append, List.length]; rfl) | rfl) ?_ | refine And.intro (by first | exact of_decide_eq_true (by kernel_rfl) | assumption | exact ⟨by kernel_rfl, rfl⟩ | decide | omega) ?_ | refine beqT1 ?_ | refine beqF1 rfl ?_ | refine pc_use g1 ?_ | refine pc_use g2 ?_ | refine pc_use g3 ?_ | refine pc_use c1 ?_ | refine pc_head c1 ?_ | refine pc_use c3 ?_ | refine pc_head c3 ?_ | refine pc_head (tim142 q1 [r1] true ⟨by omega, by omega⟩ (by simp)) ?_ | refine pc_head (tim142 q1 [r3] true ⟨by omega, by omega⟩ (by simp)) ?_ | refine pc_head (tim142 r3 [q3] true ⟨by omega, by omega⟩ (by simp)) ?_ | refine HpP.force ?_); conv => whnf)
  all_goals first | (exfalso; simp at ht; done) | exact fin rfl | skip
end Go.Tz
