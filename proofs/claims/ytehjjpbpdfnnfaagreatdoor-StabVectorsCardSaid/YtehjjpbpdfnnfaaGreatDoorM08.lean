import Derived.Test.YtehjjpbpdfnnfaaGreatDoorM07
namespace Go.Tz
open Go Go.AL Go.Proofs Go.Ma
theorem work_call3 {f : FuncId} {args : List AV} {w nx : Nat} {F : FuncId} {L R : List Ps} {a b : Int} {H : AHeap} {k : AV → AHeap → Nat → Prop} (h : WC f args w F L (rV a b) 3 R) (hn : nx ≤ 12)
  (h2 : H.get 2 = some (wkF w 3 F)) (h3 : H.get 3 = some (dblk 4 (L.map Ps.l))) (hk : k (rV a b) ((2, some (wkF w 3 F)) :: (3, some (dblk 4 (R.map Ps.l))) :: AHeap.del H 3) 12) : CallVC Pr GG f args H nx k := by
 refine ⟨h.fn, acall_frame (acall_sub (K' := fun v' H n' => v' = rV a b ∧ H.get 2 = some (wkF w 3 F) ∧ H.get 3 = some (dblk 4 (R.map Ps.l)) ∧ n' = 12) h.call ?_) hn (fun m b hg => ?_) ?_⟩
 ·rintro v H m ⟨rfl, q2, q3, _⟩
  refine ⟨rV a b, mA w F R, 12, ?_, rfl, rfl, rfl, rfl⟩
  first | refine ren_env [(2, 2), (3, 3)] ?_ ?_ ?_ trivial | refine ren_envB [(2, 2), (3, 3)] rfl rfl ?_ ?_ ?_ trivial
  ·repeat' first | exact trivial | refine ⟨⟨by first | rfl | assumption, rfl⟩, ?_⟩
  ·repeat' first | exact trivial | refine ⟨⟨ltB rfl, _, rfl, by first | rfl | assumption | exact get_ren rfl (by first | rfl | assumption | exact get_ren rfl q3 | exact get_ren rfl q2) | exact get_ren rfl q3 | exact get_ren rfl q2, by first | exact below1 rfl | exact below_dblk _ _ _ | exact below_arr rfl⟩, ?_⟩
  ·repeat' first | exact trivial | (refine And.intro ?_ ?_) | (exact fun _ => rfl) | (exact fun h => absurd h (Nat.ne_of_beq_eq_false rfl))
 ·rw [get_consI, get_consI] at hg
  by_cases e2 : m = 2
  ·rw [if_pos e2] at hg; rw [e2, h2, hg]
  ·rw [if_neg e2] at hg
   by_cases e3 : m = 3
   ·rw [if_pos e3] at hg; rw [e3, h3, hg]
   ·rw [if_neg e3] at hg; cases hg
 ·rintro v' H1 n' ⟨rfl, g2, g3, rfl⟩
  refine ⟨_, fun m b hg => ?_, hk⟩
  rw [get_consI, get_consI] at hg
  by_cases e2 : m = 2
  ·rw [if_pos e2] at hg; exact .inl (by rw [e2, g2, hg])
  ·rw [if_neg e2] at hg
   by_cases e3 : m = 3
   ·rw [if_pos e3] at hg; exact .inl (by rw [e3, g3, hg])
   ·rw [if_neg e3, get_del] at hg
    by_cases e4 : m = 3
    ·rw [if_pos e4] at hg; cases hg
    ·rw [if_neg e4] at hg
     refine .inr ⟨?_, hg⟩
     rw [get_consI, get_consI, if_neg e2, if_neg e4]; rfl
theorem work_call3t {f : FuncId} {args : List AV} {w nx : Nat} {F : FuncId} {L R : List Ps} {a b : Int} {H : AHeap} {k : AV → AHeap → Nat → Prop} (h : WCt f args w F L (rV a b) 10 R) (hn : nx ≤ 12)
  (h2 : H.get 2 = some (wkF w 10 F)) (h3 : H.get 10 = some (dblk 4 (L.map Ps.l))) (hk : k (rV a b) ((2, some (wkF w 10 F)) :: (10, some (dblk 4 (R.map Ps.l))) :: AHeap.del H 10) 12) : CallVC Pr GG f args H nx k := by
 refine ⟨h.fn, acall_frame (acall_sub (K' := fun v' H n' => v' = rV a b ∧ H.get 2 = some (wkF w 10 F) ∧ H.get 10 = some (dblk 4 (R.map Ps.l)) ∧ n' = 12) h.call ?_) hn (fun m b hg => ?_) ?_⟩
 ·rintro v H m ⟨rfl, q2, q3, _⟩
  refine ⟨rV a b, mAt w F R, 12, ?_, rfl, rfl, rfl, rfl⟩
  first | refine ren_env [(2, 2), (10, 10)] ?_ ?_ ?_ trivial | refine ren_envB [(2, 2), (10, 10)] rfl rfl ?_ ?_ ?_ trivial
  ·repeat' first | exact trivial | refine ⟨⟨by first | rfl | assumption, rfl⟩, ?_⟩
  ·repeat' first | exact trivial | refine ⟨⟨ltB rfl, _, rfl, by first | rfl | assumption | exact get_ren rfl (by first | rfl | assumption | exact get_ren rfl q3 | exact get_ren rfl q2) | exact get_ren rfl q3 | exact get_ren rfl q2, by first | exact below1 rfl | exact below_dblk _ _ _ | exact below_arr rfl⟩, ?_⟩
  ·repeat' first | exact trivial | (refine And.intro ?_ ?_) | (exact fun _ => rfl) | (exact fun h => absurd h (Nat.ne_of_beq_eq_false rfl))
 ·rw [get_consI, get_consI] at hg
  by_cases e2 : m = 2
  ·rw [if_pos e2] at hg; rw [e2, h2, hg]
  ·rw [if_neg e2] at hg
   by_cases e3 : m = 10
   ·rw [if_pos e3] at hg; rw [e3, h3, hg]
   ·rw [if_neg e3] at hg; cases hg
 ·rintro v' H1 n' ⟨rfl, g2, g3, rfl⟩
  refine ⟨_, fun m b hg => ?_, hk⟩
  rw [get_consI, get_consI] at hg
  by_cases e2 : m = 2
  ·rw [if_pos e2] at hg; exact .inl (by rw [e2, g2, hg])
  ·rw [if_neg e2] at hg
   by_cases e3 : m = 10
   ·rw [if_pos e3] at hg; exact .inl (by rw [e3, g3, hg])
   ·rw [if_neg e3, get_del] at hg
    by_cases e4 : m = 10
    ·rw [if_pos e4] at hg; cases hg
    ·rw [if_neg e4] at hg
     refine .inr ⟨?_, hg⟩
     rw [get_consI, get_consI, if_neg e2, if_neg e4]; rfl
def chS (w : Nat) (l : List Ps) : Nat → Bool
 | 0 => false
 | i + 1 => chS w l i || decide (expR w (lsS w l i).1 (zP w (w - 1 - i) 0) = 0)
theorem chS_s {w : Nat} {l : List Ps} {i : Nat} : chS w l (i + 1) = (chS w l i || decide (expR w (lsS w l i).1 (zP w (w - 1 - i) 0) = 0)) := rfl
theorem exp_one {w n : Nat} {l : List Ps} (h : SOk w l) (hn : n < w) (e : expR w l (zP w n 0) = -1) : expR w l (zP w n 1) = 1 := by
 have h0 := zP_vl (w := w) (o := 0) hn (by decide)
 have h1 := zP_vl (w := w) (o := 1) hn (by decide)
 rcases expOk_cases (expR_ok h h0 (zP_ok h.hi hn (by decide))) with ⟨a, _⟩ | ⟨_, b⟩ | ⟨a, _⟩
 ·rw [e] at a; cases a
 ·rw [zP_neg] at b
  exact (expR_ok h h1 (zP_ok h.hi hn (by decide))).pos b
 ·rw [e] at a; cases a
theorem chk97 : chkFn Tryz.f97 = true := by kernel_rfl
theorem chk186 : chkFn Tryz.f186 = true := by kernel_rfl
theorem chk243 : chkFn Tryz.f243 = true := by kernel_rfl
theorem chk184 : chkFn Tryz.f184 = true := by kernel_rfl
theorem chk241 : chkFn Tryz.f241 = true := by kernel_rfl
theorem numbers186 (w : Int) : PC Pr GG 186 [iD w] (.fn 243 [] [.rop [iD w] 0]) := by
 refine pc_freeze (isFn_of Tryz.func186 chk186) (acall_mono (K := fun v H _ => ∃ nm, v = .fn 243 [] [.ptr nm 1 0 0] ∧ H.get nm = some (.arr 1 [[iD w].map AV.d])) (fn_walk pok Tryz.func186 chk186 ?_) ?_)
 ·conv => whnf
  repeat' first | ((first | refine LookP.mk _ rfl ?_ | refine ShlP.mk _ (by first | (simp only [List.set, over, List.take, List.drop, List.append_eq, List.nil_append, List.cons_append, List.length]; rfl) | rfl) ?_ | refine And.intro (by first | assumption | exact ⟨by kernel_rfl, rfl⟩ | decide | omega | exact ⟨rfl, by decide, by simp only [List.length_map, Nat.zero_add]; omega⟩) ?_ | refine HpP.force ?_); conv => whnf) | (intro t ht; cases t <;> conv => whnf)
  exact fin ⟨_, rfl, rfl⟩
 ·rintro v H _ ⟨nm, rfl, hg⟩
  exact asD_fn1 (asD_rop hg)
theorem num_snoc (i : Nat) : numD (List.range (i + 1)) = numD (List.range i) ++ [[iD i]] := by
 unfold numD; rw [List.range_succ, List.map_append]; rfl
theorem num_len (i : Nat) : (numD (List.range i)).length = i := by simp [numD]
theorem collect185 {w : Nat} (hw : w ≤ 12) : PO Pr GG 185 [.fn 243 [] [.rop [iD w] 0]] (.sl 0 1 0 w w false) [(0, some (dblk 1 (numD (List.range w))))] 1 := by
 refine ⟨isFn_of Tryz.func185 chk185, acall_sub (K := fun v H _ => ∃ nm, v = .sl nm 1 0 w w false ∧ H.get nm = some (dblk 1 (numD (List.range w)))) (fn_walk pok Tryz.func185 chk185 ?_) ?_⟩
 ·conv => whnf
  repeat' first | ((first | refine LookP.mk _ rfl ?_ | refine ShlP.mk _ (by first | (simp only [List.set, over, List.take, List.drop, List.append_eq, List.nil_append, List.cons_append, List.length]; rfl) | rfl) ?_ | refine And.intro (by first | assumption | exact ⟨by kernel_rfl, rfl⟩ | decide | omega | exact ⟨rfl, by decide, by simp only [List.length_map, Nat.zero_add]; omega⟩) ?_ | refine HpP.force ?_); conv => whnf) | (intro t ht; cases t <;> conv => whnf)
  refine call_walk pok Tryz.func242 chk242 ?_
  conv => whnf
  repeat' first | ((first | refine LookP.mk _ rfl ?_ | refine ShlP.mk _ (by first | (simp only [List.set, over, List.take, List.drop, List.append_eq, List.nil_append, List.cons_append, List.length]; rfl) | rfl) ?_ | refine And.intro (by first | assumption | exact ⟨by kernel_rfl, rfl⟩ | decide | omega | exact ⟨rfl, by decide, by simp only [List.length_map, Nat.zero_add]; omega⟩) ?_ | refine HpP.force ?_); conv => whnf) | (intro t ht; cases t <;> conv => whnf)
  refine call_walk pok Tryz.func243 chk243 ?_
  conv => whnf
  repeat' first | ((first | refine LookP.mk _ rfl ?_ | refine ShlP.mk _ (by first | (simp only [List.set, over, List.take, List.drop, List.append_eq, List.nil_append, List.cons_append, List.length]; rfl) | rfl) ?_ | refine And.intro (by first | assumption | exact ⟨by kernel_rfl, rfl⟩ | decide | omega | exact ⟨rfl, by decide, by simp only [List.length_map, Nat.zero_add]; omega⟩) ?_ | refine HpP.force ?_); conv => whnf) | (intro t ht; cases t <;> conv => whnf)
  refine for_use pok (fun i => ⟨[(0, .yld 2), (4, .d (iD w)), (5, .d (iD i))], [(0, some (.arr 1 [[.sl 3 1 0 i i false]])), (1, some (.raw (.deferred (some [])))), (2, some (.lp [(6, .d (.fn 243 [] [.rop [iD w] 0])), (4, .d (.sl [] true)), (2, .ptr 0 1 0 0), (0, .d (.sl [] true)), (1, .d (.fn 243 [] [.rop [iD w] 0]))] Tryz.f242.ntmps #[7] (rgA Tryz.f242) (rgB Tryz.f242) .ready none 1)), (3, some (dblk 1 (numD (List.range i))))], 4⟩) (w) (fun _ => True) (trivial) ?_ (by kernel_rfl) ?_ ?_
  ·refine Sub.trans (sub_nilH (nm := 0) (S := 1) (Nat.le_of_ble_eq_true rfl) rfl) ?_
   refine keep_env (by first | exact Nat.zero_le _ | exact Nat.le_of_ble_eq_true rfl) ?_ ?_ trivial
   ·repeat' first | exact trivial | refine ⟨⟨by first | rfl | assumption, rfl⟩, ?_⟩
   ·repeat' first | exact trivial | refine ⟨⟨ltB rfl, _, rfl, by first | rfl | assumption, by first | exact below1 rfl | exact below_dblk _ _ _ | exact below_arr rfl | exact trivial | exact ⟨rfl, Nat.le_of_ble_eq_true rfl⟩⟩, ?_⟩
  ·intro i A_i h_i I_i N_i
   have e_i : iadd .i64 (i : Int) 1 = ((i + 1 : Nat) : Int) := iadd_nat (by first | omega | (simp at *; omega))
   have h1 := num_snoc i
   have h2 := num_len i
   generalize numD (List.range (i + 1)) = m' at h1 N_i
   generalize numD (List.range i) = m at h1 h2 ⊢
   conv => whnf
   repeat (refine LookP.mk _ rfl ?_; conv => whnf)
   intro t ht
   cases t
   ·exfalso; first | (simp at ht; done) | (simp at ht; omega)
   conv => whnf
   repeat' first | ((first | refine LookP.mk _ rfl ?_ | refine ShlP.mk _ (by first | (simp only [List.set, over, List.take, List.drop, List.append_eq, List.nil_append, List.cons_append, List.length]; rfl) | rfl) ?_ | refine And.intro (by first | assumption | exact ⟨by kernel_rfl, rfl⟩ | decide | omega | exact ⟨rfl, by decide, by simp only [List.length_map, Nat.zero_add]; omega⟩) ?_ | refine HpP.force ?_); conv => whnf) | (intro t ht; cases t <;> conv => whnf)
   refine round_walk pok ?_
   conv => whnf
   repeat' first | ((first | refine LookP.mk _ rfl ?_ | refine ShlP.mk _ (by first | (simp only [List.set, over, List.take, List.drop, List.append_eq, List.nil_append, List.cons_append, List.length]; rfl) | rfl) ?_ | (refine And.intro (by first | exact Nat.le_refl _ | exact ⟨by rw [List.length_map]; exact h2, by decide, by show (2 * (i + 1) + 192) * 8 ≤ 281474976710656; omega⟩ | assumption | exact ⟨by kernel_rfl, rfl⟩ | decide | omega | exact ⟨rfl, by decide, by simp only [List.length_map, Nat.zero_add]; omega⟩) ?_) | rw [nbeq] | refine HpP.force ?_); conv => whnf) | (intro t ht; cases t <;> conv => whnf)
   refine N_i _ ?_ ?_
   ·first | trivial | assumption | omega
   ·first | refine ren_env [(3, 5)] ?_ ?_ ?_ trivial | refine ren_envB [(3, 5)] rfl rfl ?_ ?_ ?_ trivial
    ·repeat' first | exact trivial | refine ⟨⟨by first | rfl | assumption | exact congrArg (fun n => AV.d (iD n)) e_i, rfl⟩, ?_⟩
    ·repeat' first | exact trivial | refine ⟨⟨ltB rfl, _, rfl, by first | rfl | assumption | exact get_ren rfl (by first | rfl | assumption | exact get_ren rfl (by rw [h1]; exact congrArg some (dblk_snoc rfl))) | exact get_ren rfl (by rw [h1]; exact congrArg some (dblk_snoc rfl)), by first | exact below1 rfl | exact below_dblk _ _ _ | exact below_arr rfl | exact trivial | exact ⟨rfl, Nat.le_of_ble_eq_true rfl⟩⟩, ?_⟩
    ·repeat' first | exact trivial | (refine And.intro ?_ ?_) | (exact fun _ => rfl) | (exact fun h => absurd h (Nat.ne_of_beq_eq_false rfl))
  ·intro A_last I_last
   conv => whnf
   repeat (refine LookP.mk _ rfl ?_; conv => whnf)
   intro t ht
   cases t
   rotate_left
   ·exfalso; first | (simp at ht; done) | (simp at ht; omega)
   conv => whnf
   repeat' first | ((first | refine LookP.mk _ rfl ?_ | refine ShlP.mk _ (by first | (simp only [List.set, over, List.take, List.drop, List.append_eq, List.nil_append, List.cons_append, List.length]; rfl) | rfl) ?_ | refine And.intro (by first | assumption | exact ⟨by kernel_rfl, rfl⟩ | decide | omega | exact ⟨rfl, by decide, by simp only [List.length_map, Nat.zero_add]; omega⟩) ?_ | refine HpP.force ?_); conv => whnf) | (intro t ht; cases t <;> conv => whnf)
   exact fin ⟨3, rfl, rfl⟩
 ·rintro v H n ⟨nm, rfl, hg⟩
  refine ⟨_, _, 1, ?_, rfl, rfl, rfl⟩
  first | refine ren_env [(0, nm)] ?_ ?_ ?_ trivial | refine ren_envB [(0, nm)] rfl rfl ?_ ?_ ?_ trivial
  ·repeat' first | exact trivial | refine ⟨⟨by first | rfl | assumption, rfl⟩, ?_⟩
  ·repeat' first | exact trivial | refine ⟨⟨ltB rfl, _, rfl, by first | rfl | assumption | exact get_ren rfl (by first | rfl | assumption | exact get_ren rfl hg) | exact get_ren rfl hg, by first | exact below1 rfl | exact below_dblk _ _ _ | exact below_arr rfl⟩, ?_⟩
  ·repeat' first | exact trivial | (refine And.intro ?_ ?_) | (exact fun _ => rfl) | (exact fun h => absurd h (Nat.ne_of_beq_eq_false rfl))
theorem least97a {w : Nat} {l : List Ps} (h : SOk w l) : ACall Pr GG 97 [.d (wkD w l)] [] 2 fun v H _ => v = .d (iD ((lsS w l w).2 : Nat)) := by
 have hw : 1 ≤ w ∧ w ≤ 12 := ⟨h.lo, h.hi⟩
 have hlen := h.len
 have hop := opened95 (G := GG) hw l true (by omega) h.vl
 rw [hlen] at hop
 have hrun := fun i (hi : i ≤ w) => (ls_run h i hi).sok
 have hol0 := fun i (hi : i ≤ w) => show (lsS w l i).2 < 2 ^ w from Nat.lt_pow_two_of_testBit _ fun j hj => (ls_run h i hi).lo j (.inr hj)
 have hl0 : redRows l (2 * w) = (lsS w l 0).1 := rfl
 rw [hl0] at hop
 refine fn_walk pok Tryz.func97 chk97 ?_
 conv => whnf
 have c1 := numbers186 w
 have c2 := collect185 hw.2
 repeat' first | ((first | refine LookP.mk _ rfl ?_ | refine ShlP.mk _ (by first | (simp only [List.set, over, List.take, List.drop, List.append_eq, List.nil_append, List.cons_append, List.length]; rfl) | rfl) ?_ | refine And.intro (by first | assumption | exact ⟨by kernel_rfl, rfl⟩ | decide | omega | exact ⟨rfl, by decide, by simp only [List.length_map, Nat.zero_add]; omega⟩) ?_ | refine po_use hop ?_ | refine pc_use c1 ?_ | refine pc_head c1 ?_ | refine po_use c2 ?_ | refine HpP.force ?_); conv => whnf) | (intro t ht; cases t <;> conv => whnf)
 refine call_walk pok Tryz.func184 chk184 ?_
 conv => whnf
 repeat' first | ((first | refine LookP.mk _ rfl ?_ | refine ShlP.mk _ (by first | (simp only [List.set, over, List.take, List.drop, List.append_eq, List.nil_append, List.cons_append, List.length]; rfl) | rfl) ?_ | refine And.intro (by first | assumption | exact ⟨by kernel_rfl, rfl⟩ | decide | omega | exact ⟨rfl, by decide, by simp only [List.length_map, Nat.zero_add]; omega⟩) ?_ | refine HpP.force ?_); conv => whnf) | (intro t ht; cases t <;> conv => whnf)
 refine call_walk pok Tryz.func241 chk241 ?_
 conv => whnf
 repeat' first | ((first | refine LookP.mk _ rfl ?_ | refine ShlP.mk _ (by first | (simp only [List.set, over, List.take, List.drop, List.append_eq, List.nil_append, List.cons_append, List.length]; rfl) | rfl) ?_ | refine And.intro (by first | assumption | exact ⟨by kernel_rfl, rfl⟩ | decide | omega | exact ⟨rfl, by decide, by simp only [List.length_map, Nat.zero_add]; omega⟩) ?_ | refine HpP.force ?_); conv => whnf) | (intro t ht; cases t <;> conv => whnf)
 have hB : chkCode Tryz.f97.ntmps (rgB Tryz.f97) = true := by kernel_rfl
 have hw1 : isub .i64 (w : Int) 1 = (w : Int) - 1 - ((0 : Nat) : Int) := by rw [isub_eq (by omega) (by omega)]; omega
 refine for_use pok (fun i => if chS w l i = true then ⟨[(0, .yld 9), (1, .ptr 7 1 0 0), (3, .d (iD ((w : Int) - 1 - ((i : Nat) : Int))))], [(2, some (wkF w 10 136)), (10, some (dblk 4 ((lsS w l i).1.map Ps.l))), (4, some (.arr 1 [[.ptr 2 3 0 0]])), (5, some (.arr 1 [[.d (iD ((lsS w l i).2 : Nat))]])), (6, some (dblk 1 (numD (List.range w)))), (7, some (.arr 1 [[.sl 6 1 0 w w false]])), (8, some (.raw (.deferred (some [])))), (9, some (.lp [(21, .fn 241 [] [.ptr 7 1 0 0]), (20, .sl 6 1 0 w w false), (19, .d (.fn 243 [] [.rop [iD w] 0])), (18, .d (iD w)), (17, .d (wkD w l)), (16, .d (wkD w l)), (15, .d (wkD w l)), (14, .d (wkD w l)), (4, .ptr 5 1 0 0), (3, .ptr 4 1 0 0), (13, .ptr 2 3 0 0), (12, .d (.agg [iD w, rowsD l true])), (11, .d (wkD w l)), (10, .d (wkD w l)), (9, .d (wkD w l)), (2, .d (iD 0)), (0, .d (wkD w l))] Tryz.f97.ntmps #[22, 23] (rgA Tryz.f97) (rgB Tryz.f97) .ready none 8))], 11⟩ else ⟨[(0, .yld 9), (1, .ptr 7 1 0 0), (3, .d (iD ((w : Int) - 1 - ((i : Nat) : Int))))], [(2, some (wkF w 3 136)), (3, some (dblk 4 ((lsS w l i).1.map Ps.l))), (4, some (.arr 1 [[.ptr 2 3 0 0]])), (5, some (.arr 1 [[.d (iD ((lsS w l i).2 : Nat))]])), (6, some (dblk 1 (numD (List.range w)))), (7, some (.arr 1 [[.sl 6 1 0 w w false]])), (8, some (.raw (.deferred (some [])))), (9, some (.lp [(21, .fn 241 [] [.ptr 7 1 0 0]), (20, .sl 6 1 0 w w false), (19, .d (.fn 243 [] [.rop [iD w] 0])), (18, .d (iD w)), (17, .d (wkD w l)), (16, .d (wkD w l)), (15, .d (wkD w l)), (14, .d (wkD w l)), (4, .ptr 5 1 0 0), (3, .ptr 4 1 0 0), (13, .ptr 2 3 0 0), (12, .d (.agg [iD w, rowsD l true])), (11, .d (wkD w l)), (10, .d (wkD w l)), (9, .d (wkD w l)), (2, .d (iD 0)), (0, .d (wkD w l))] Tryz.f97.ntmps #[22, 23] (rgA Tryz.f97) (rgB Tryz.f97) .ready none 8))], 10⟩) w (fun _ => True) trivial ?_ (by kernel_rfl) ?_ ?_
 ·rw [if_neg (show ¬ chS w l 0 = true from fun h => by cases h)]
  refine keep_env (by first | exact Nat.zero_le _ | exact Nat.le_of_ble_eq_true rfl) ?_ ?_ trivial
  ·repeat' first | exact trivial | refine ⟨⟨by first | rfl | assumption | exact congrArg (fun n => AV.d (iD n)) hw1, rfl⟩, ?_⟩
  ·repeat' first | exact trivial | refine ⟨⟨ltB rfl, _, rfl, by first | rfl | assumption | (show some (Blk.ren _ (dblk 4 _)) = _; rw [ren_dblk]) | (show some (Blk.ren _ (dblk 1 _)) = _; rw [ren_dblk]), by first | exact below1 rfl | exact below_dblk _ _ _ | exact below_arr rfl | exact trivial | exact ⟨rfl, Nat.le_of_ble_eq_true rfl⟩⟩, ?_⟩
 ·intro i A_i h_i I_i N_i
  have e_i : iadd .i64 (i : Int) 1 = ((i + 1 : Nat) : Int) := iadd_nat (by first | omega | (simp at *; omega))
  have hk := hrun i (by omega)
  have hnw : w - 1 - i < w := by omega
  have hs : lsS w l (i + 1) = if expR w (lsS w l i).1 (zP w (w - 1 - i) 0) = 1 then lsS w l i else if expR w (lsS w l i).1 (zP w (w - 1 - i) 0) = -1 then ((lsS w l i).1, (lsS w l i).2 ||| 2 ^ (w - 1 - i)) else (redRows (prjL (zP w (w - 1 - i) 0) (lsS w l i).1) (2 * w), (lsS w l i).2) := rfl
  have hol : (lsS w l i).2 < 4096 := Nat.lt_of_lt_of_le (hol0 i (by omega)) (Nat.pow_le_pow_right (by decide) hw.2)
  have hpn : 2 ^ (w - 1 - i) ≤ 2048 := pow_i (by omega)
  have hk1 : (w : Int) - 1 - ((i : Nat) : Int) = ((w - 1 - i : Nat) : Int) := by omega
  have hk2 : isub .i64 ((w - 1 - i : Nat) : Int) 1 = (w : Int) - 1 - ((i + 1 : Nat) : Int) := by rw [isub_eq (by omega) (by omega)]; omega
  have hsh : ishl .i64 1 ((w - 1 - i : Nat) : Int) = ((2 ^ (w - 1 - i) : Nat) : Int) := pow_nat (by omega)
  have hfk : ((numD (List.range w)).map fun el => el.map AV.d)[0 + ((w - 1 - i : Nat) : Int).toNat]? = some ([iD (w - 1 - i : Nat)].map AV.d) := by
   rw [Int.toNat_natCast, Nat.zero_add]; simp [numD, List.getElem?_range hnw]
  obtain ⟨n, hn⟩ : ∃ n, n = w - 1 - i := ⟨_, rfl⟩
  rw [← hn] at hnw hs hk1 hk2 hsh hfk hpn
  cases hc : chS w l i with
  | false =>
   rw [if_neg (by decide)]
   dsimp only
   rw [hk1]
   rcases meas hk hk (fun _ => Iff.rfl) hnw (Nat.zero_le 1) 136 with ⟨e, c⟩ | ⟨e, c⟩ | ⟨e, hp, c⟩
   ·rw [if_pos e] at hs
    rw [if_neg (by rw [chS_s, hc, ← hn, e]; decide)] at N_i
    rw [hs] at N_i
    clear hs
    generalize lsS w l i = s at hk c N_i ⊢
    conv => whnf
    repeat (refine LookP.mk _ rfl ?_; conv => whnf)
    intro t ht
    cases t
    ·exfalso; first | (simp at ht; done) | (simp at ht; omega)
    conv => whnf
    repeat' first | ((first | refine LookP.mk _ (by first | rfl | exact hfk) ?_ | refine ShlP.mk _ (by first | (simp only [List.set, over, List.take, List.drop, List.append_eq, List.nil_append, List.cons_append, List.length]; rfl) | rfl) ?_ | refine And.intro (by first | exact ⟨Int.natCast_nonneg _, by omega⟩ | assumption | exact ⟨by kernel_rfl, rfl⟩ | decide | omega | exact ⟨rfl, by decide, by simp only [List.length_map, Nat.zero_add]; omega⟩) ?_ | rw [hk1] | refine HpP.force ?_); conv => whnf) | (intro t ht; cases t <;> conv => whnf)
    refine round_walk pok ?_
    conv => whnf
    repeat' first | ((first | refine LookP.mk _ rfl ?_ | refine ShlP.mk _ (by first | (simp only [List.set, over, List.take, List.drop, List.append_eq, List.nil_append, List.cons_append, List.length]; rfl) | rfl) ?_ | refine And.intro (by first | assumption | exact ⟨by kernel_rfl, rfl⟩ | decide | omega | exact ⟨rfl, by decide, by simp only [List.length_map, Nat.zero_add]; omega⟩) ?_ | rw [hB] | refine work_call3 c (by decide) rfl rfl ?_ | refine knownB (show ((0 : Int) != 0) = false from rfl) ?_ | refine HpP.force ?_); conv => whnf) | (intro t ht; cases t <;> conv => whnf)
    refine N_i _ ?_ ?_
    ·first | trivial | assumption | omega
    ·refine keep_env (by first | exact Nat.zero_le _ | exact Nat.le_of_ble_eq_true rfl) ?_ ?_ trivial
     ·repeat' first | exact trivial | refine ⟨⟨by first | rfl | assumption | exact congrArg (fun n => AV.d (iD n)) e_i | exact congrArg (fun n => AV.d (iD n)) hk2, rfl⟩, ?_⟩
     ·repeat' first | exact trivial | refine ⟨⟨ltB rfl, _, rfl, by first | rfl | assumption, by first | exact below1 rfl | exact below_dblk _ _ _ | exact below_arr rfl | exact trivial | exact ⟨rfl, Nat.le_of_ble_eq_true rfl⟩⟩, ?_⟩
   ·rw [if_neg (by rw [e]; decide), if_pos e] at hs
    rw [if_neg (by rw [chS_s, hc, ← hn, e]; decide)] at N_i
    have e2 := exp_one hk hnw e
    rcases meas hk hk (fun _ => Iff.rfl) hnw (Nat.le_refl 1) 136 with ⟨_, c2⟩ | ⟨e3, _⟩ | ⟨e3, _, _⟩
    ·have hor : ior .i64 (((lsS w l i).2 : Nat) : Int) ((2 ^ n : Nat) : Int) = (((lsS w l i).2 ||| 2 ^ n : Nat) : Int) := ior_nat (by omega) (by omega)
     rw [hs] at N_i
     clear hs
     generalize lsS w l i = s at hk c c2 hor N_i ⊢
     conv => whnf
     repeat (refine LookP.mk _ rfl ?_; conv => whnf)
     intro t ht
     cases t
     ·exfalso; first | (simp at ht; done) | (simp at ht; omega)
     conv => whnf
     repeat' first | ((first | refine LookP.mk _ (by first | rfl | exact hfk) ?_ | refine ShlP.mk _ (by first | (simp only [List.set, over, List.take, List.drop, List.append_eq, List.nil_append, List.cons_append, List.length]; rfl) | rfl) ?_ | refine And.intro (by first | exact ⟨Int.natCast_nonneg _, by omega⟩ | assumption | exact ⟨by kernel_rfl, rfl⟩ | decide | omega | exact ⟨rfl, by decide, by simp only [List.length_map, Nat.zero_add]; omega⟩) ?_ | rw [hk1] | refine HpP.force ?_); conv => whnf) | (intro t ht; cases t <;> conv => whnf)
     refine round_walk pok ?_
     conv => whnf
     repeat' first | ((first | refine LookP.mk _ rfl ?_ | refine ShlP.mk _ (by first | (simp only [List.set, over, List.take, List.drop, List.append_eq, List.nil_append, List.cons_append, List.length]; rfl) | rfl) ?_ | refine And.intro (by first | assumption | exact ⟨by kernel_rfl, rfl⟩ | decide | omega | exact ⟨rfl, by decide, by simp only [List.length_map, Nat.zero_add]; omega⟩) ?_ | rw [hB] | refine work_call3 c (by decide) rfl rfl ?_ | refine knownB (show ((6 : Int) != 0) = true from rfl) ?_ | refine work_call3 c2 (by decide) rfl rfl ?_ | rw [hsh] | rw [hor] | refine HpP.force ?_); conv => whnf) | (intro t ht; cases t <;> conv => whnf)
     refine N_i _ ?_ ?_
     ·first | trivial | assumption | omega
     ·refine keep_env (by first | exact Nat.zero_le _ | exact Nat.le_of_ble_eq_true rfl) ?_ ?_ trivial
      ·repeat' first | exact trivial | refine ⟨⟨by first | rfl | assumption | exact congrArg (fun n => AV.d (iD n)) e_i | exact congrArg (fun n => AV.d (iD n)) hk2, rfl⟩, ?_⟩
      ·repeat' first | exact trivial | refine ⟨⟨ltB rfl, _, rfl, by first | rfl | assumption, by first | exact below1 rfl | exact below_dblk _ _ _ | exact below_arr rfl | exact trivial | exact ⟨rfl, Nat.le_of_ble_eq_true rfl⟩⟩, ?_⟩
    ·rw [e2] at e3; exact absurd e3 (by decide)
    ·rw [e2] at e3; exact absurd e3 (by decide)
   ·rw [if_neg (by rw [e]; decide), if_neg (by rw [e]; decide)] at hs
    rw [if_pos (by rw [chS_s, hc, ← hn, e]; rfl)] at N_i
    rw [hs] at N_i
    clear hs
    generalize lsS w l i = s at hk c N_i ⊢
    conv => whnf
    repeat (refine LookP.mk _ rfl ?_; conv => whnf)
    intro t ht
    cases t
    ·exfalso; first | (simp at ht; done) | (simp at ht; omega)
    conv => whnf
    repeat' first | ((first | refine LookP.mk _ (by first | rfl | exact hfk) ?_ | refine ShlP.mk _ (by first | (simp only [List.set, over, List.take, List.drop, List.append_eq, List.nil_append, List.cons_append, List.length]; rfl) | rfl) ?_ | refine And.intro (by first | exact ⟨Int.natCast_nonneg _, by omega⟩ | assumption | exact ⟨by kernel_rfl, rfl⟩ | decide | omega | exact ⟨rfl, by decide, by simp only [List.length_map, Nat.zero_add]; omega⟩) ?_ | rw [hk1] | refine HpP.force ?_); conv => whnf) | (intro t ht; cases t <;> conv => whnf)
    refine round_walk pok ?_
    conv => whnf
    repeat' first | ((first | refine LookP.mk _ rfl ?_ | refine ShlP.mk _ (by first | (simp only [List.set, over, List.take, List.drop, List.append_eq, List.nil_append, List.cons_append, List.length]; rfl) | rfl) ?_ | refine And.intro (by first | assumption | exact ⟨by kernel_rfl, rfl⟩ | decide | omega | exact ⟨rfl, by decide, by simp only [List.length_map, Nat.zero_add]; omega⟩) ?_ | rw [hB] | refine work_call c (by decide) rfl rfl ?_ | refine knownB (show ((0 : Int) != 0) = false from rfl) ?_ | refine HpP.force ?_); conv => whnf) | (intro t ht; cases t <;> conv => whnf)
    refine N_i _ ?_ ?_
    ·first | trivial | assumption | omega
    ·first | refine ren_env [(10, 12)] ?_ ?_ ?_ trivial | refine ren_envB [(10, 12)] rfl rfl ?_ ?_ ?_ trivial
     ·repeat' first | exact trivial | refine ⟨⟨by first | rfl | assumption | exact congrArg (fun n => AV.d (iD n)) e_i | exact congrArg (fun n => AV.d (iD n)) hk2, rfl⟩, ?_⟩
     ·repeat' first | exact trivial | refine ⟨⟨ltB rfl, _, rfl, by first | rfl | assumption | exact get_ren rfl (by first | rfl | assumption), by first | exact below1 rfl | exact below_dblk _ _ _ | exact below_arr rfl | exact trivial | exact ⟨rfl, Nat.le_of_ble_eq_true rfl⟩⟩, ?_⟩
     ·repeat' first | exact trivial | (refine And.intro ?_ ?_) | (exact fun _ => rfl) | (exact fun h => absurd h (Nat.ne_of_beq_eq_false rfl))
  | true =>
   rw [if_pos rfl]
   dsimp only
   rw [hk1]
   rcases meast hk hk (fun _ => Iff.rfl) hnw (Nat.zero_le 1) 136 with ⟨e, c⟩ | ⟨e, c⟩ | ⟨e, hp, c⟩
   ·rw [if_pos e] at hs
    rw [if_pos (by rw [chS_s, hc]; rfl)] at N_i
    rw [hs] at N_i
    clear hs
    generalize lsS w l i = s at hk c N_i ⊢
    conv => whnf
    repeat (refine LookP.mk _ rfl ?_; conv => whnf)
    intro t ht
    cases t
    ·exfalso; first | (simp at ht; done) | (simp at ht; omega)
    conv => whnf
    repeat' first | ((first | refine LookP.mk _ (by first | rfl | exact hfk) ?_ | refine ShlP.mk _ (by first | (simp only [List.set, over, List.take, List.drop, List.append_eq, List.nil_append, List.cons_append, List.length]; rfl) | rfl) ?_ | refine And.intro (by first | exact ⟨Int.natCast_nonneg _, by omega⟩ | assumption | exact ⟨by kernel_rfl, rfl⟩ | decide | omega | exact ⟨rfl, by decide, by simp only [List.length_map, Nat.zero_add]; omega⟩) ?_ | rw [hk1] | refine HpP.force ?_); conv => whnf) | (intro t ht; cases t <;> conv => whnf)
    refine round_walk pok ?_
    conv => whnf
    repeat' first | ((first | refine LookP.mk _ rfl ?_ | refine ShlP.mk _ (by first | (simp only [List.set, over, List.take, List.drop, List.append_eq, List.nil_append, List.cons_append, List.length]; rfl) | rfl) ?_ | refine And.intro (by first | assumption | exact ⟨by kernel_rfl, rfl⟩ | decide | omega | exact ⟨rfl, by decide, by simp only [List.length_map, Nat.zero_add]; omega⟩) ?_ | rw [hB] | refine work_call3t c (by decide) rfl rfl ?_ | refine knownB (show ((0 : Int) != 0) = false from rfl) ?_ | refine HpP.force ?_); conv => whnf) | (intro t ht; cases t <;> conv => whnf)
    refine N_i _ ?_ ?_
    ·first | trivial | assumption | omega
    ·refine keep_env (by first | exact Nat.zero_le _ | exact Nat.le_of_ble_eq_true rfl) ?_ ?_ trivial
     ·repeat' first | exact trivial | refine ⟨⟨by first | rfl | assumption | exact congrArg (fun n => AV.d (iD n)) e_i | exact congrArg (fun n => AV.d (iD n)) hk2, rfl⟩, ?_⟩
     ·repeat' first | exact trivial | refine ⟨⟨ltB rfl, _, rfl, by first | rfl | assumption, by first | exact below1 rfl | exact below_dblk _ _ _ | exact below_arr rfl | exact trivial | exact ⟨rfl, Nat.le_of_ble_eq_true rfl⟩⟩, ?_⟩
   ·rw [if_neg (by rw [e]; decide), if_pos e] at hs
    rw [if_pos (by rw [chS_s, hc]; rfl)] at N_i
    have e2 := exp_one hk hnw e
    rcases meast hk hk (fun _ => Iff.rfl) hnw (Nat.le_refl 1) 136 with ⟨_, c2⟩ | ⟨e3, _⟩ | ⟨e3, _, _⟩
    ·have hor : ior .i64 (((lsS w l i).2 : Nat) : Int) ((2 ^ n : Nat) : Int) = (((lsS w l i).2 ||| 2 ^ n : Nat) : Int) := ior_nat (by omega) (by omega)
     rw [hs] at N_i
     clear hs
     generalize lsS w l i = s at hk c c2 hor N_i ⊢
     conv => whnf
     repeat (refine LookP.mk _ rfl ?_; conv => whnf)
     intro t ht
     cases t
     ·exfalso; first | (simp at ht; done) | (simp at ht; omega)
     conv => whnf
     repeat' first | ((first | refine LookP.mk _ (by first | rfl | exact hfk) ?_ | refine ShlP.mk _ (by first | (simp only [List.set, over, List.take, List.drop, List.append_eq, List.nil_append, List.cons_append, List.length]; rfl) | rfl) ?_ | refine And.intro (by first | exact ⟨Int.natCast_nonneg _, by omega⟩ | assumption | exact ⟨by kernel_rfl, rfl⟩ | decide | omega | exact ⟨rfl, by decide, by simp only [List.length_map, Nat.zero_add]; omega⟩) ?_ | rw [hk1] | refine HpP.force ?_); conv => whnf) | (intro t ht; cases t <;> conv => whnf)
     refine round_walk pok ?_
     conv => whnf
     repeat' first | ((first | refine LookP.mk _ rfl ?_ | refine ShlP.mk _ (by first | (simp only [List.set, over, List.take, List.drop, List.append_eq, List.nil_append, List.cons_append, List.length]; rfl) | rfl) ?_ | refine And.intro (by first | assumption | exact ⟨by kernel_rfl, rfl⟩ | decide | omega | exact ⟨rfl, by decide, by simp only [List.length_map, Nat.zero_add]; omega⟩) ?_ | rw [hB] | refine work_call3t c (by decide) rfl rfl ?_ | refine knownB (show ((6 : Int) != 0) = true from rfl) ?_ | refine work_call3t c2 (by decide) rfl rfl ?_ | rw [hsh] | rw [hor] | refine HpP.force ?_); conv => whnf) | (intro t ht; cases t <;> conv => whnf)
     refine N_i _ ?_ ?_
     ·first | trivial | assumption | omega
     ·refine keep_env (by first | exact Nat.zero_le _ | exact Nat.le_of_ble_eq_true rfl) ?_ ?_ trivial
      ·repeat' first | exact trivial | refine ⟨⟨by first | rfl | assumption | exact congrArg (fun n => AV.d (iD n)) e_i | exact congrArg (fun n => AV.d (iD n)) hk2, rfl⟩, ?_⟩
      ·repeat' first | exact trivial | refine ⟨⟨ltB rfl, _, rfl, by first | rfl | assumption, by first | exact below1 rfl | exact below_dblk _ _ _ | exact below_arr rfl | exact trivial | exact ⟨rfl, Nat.le_of_ble_eq_true rfl⟩⟩, ?_⟩
    ·rw [e2] at e3; exact absurd e3 (by decide)
    ·rw [e2] at e3; exact absurd e3 (by decide)
   ·rw [if_neg (by rw [e]; decide), if_neg (by rw [e]; decide)] at hs
    rw [if_pos (by rw [chS_s, hc]; rfl)] at N_i
    rw [hs] at N_i
    clear hs
    generalize lsS w l i = s at hk c N_i ⊢
    conv => whnf
    repeat (refine LookP.mk _ rfl ?_; conv => whnf)
    intro t ht
    cases t
    ·exfalso; first | (simp at ht; done) | (simp at ht; omega)
    conv => whnf
    repeat' first | ((first | refine LookP.mk _ (by first | rfl | exact hfk) ?_ | refine ShlP.mk _ (by first | (simp only [List.set, over, List.take, List.drop, List.append_eq, List.nil_append, List.cons_append, List.length]; rfl) | rfl) ?_ | refine And.intro (by first | exact ⟨Int.natCast_nonneg _, by omega⟩ | assumption | exact ⟨by kernel_rfl, rfl⟩ | decide | omega | exact ⟨rfl, by decide, by simp only [List.length_map, Nat.zero_add]; omega⟩) ?_ | rw [hk1] | refine HpP.force ?_); conv => whnf) | (intro t ht; cases t <;> conv => whnf)
    refine round_walk pok ?_
    conv => whnf
    repeat' first | ((first | refine LookP.mk _ rfl ?_ | refine ShlP.mk _ (by first | (simp only [List.set, over, List.take, List.drop, List.append_eq, List.nil_append, List.cons_append, List.length]; rfl) | rfl) ?_ | refine And.intro (by first | assumption | exact ⟨by kernel_rfl, rfl⟩ | decide | omega | exact ⟨rfl, by decide, by simp only [List.length_map, Nat.zero_add]; omega⟩) ?_ | rw [hB] | refine work_callt c (by decide) rfl rfl ?_ | refine knownB (show ((0 : Int) != 0) = false from rfl) ?_ | refine HpP.force ?_); conv => whnf) | (intro t ht; cases t <;> conv => whnf)
    refine N_i _ ?_ ?_
    ·first | trivial | assumption | omega
    ·first | refine ren_env [(10, 12)] ?_ ?_ ?_ trivial | refine ren_envB [(10, 12)] rfl rfl ?_ ?_ ?_ trivial
     ·repeat' first | exact trivial | refine ⟨⟨by first | rfl | assumption | exact congrArg (fun n => AV.d (iD n)) e_i | exact congrArg (fun n => AV.d (iD n)) hk2, rfl⟩, ?_⟩
     ·repeat' first | exact trivial | refine ⟨⟨ltB rfl, _, rfl, by first | rfl | assumption | exact get_ren rfl (by first | rfl | assumption), by first | exact below1 rfl | exact below_dblk _ _ _ | exact below_arr rfl | exact trivial | exact ⟨rfl, Nat.le_of_ble_eq_true rfl⟩⟩, ?_⟩
     ·repeat' first | exact trivial | (refine And.intro ?_ ?_) | (exact fun _ => rfl) | (exact fun h => absurd h (Nat.ne_of_beq_eq_false rfl))
 ·intro A_last I_last
  have hkw : (w : Int) - 1 - ((w : Nat) : Int) = -1 := by omega
  cases hc : chS w l w with
  | false =>
   rw [if_neg (by decide)]
   dsimp only
   rw [hkw]
   conv => whnf
   repeat (refine LookP.mk _ rfl ?_; conv => whnf)
   intro t ht
   cases t
   rotate_left
   ·exfalso; first | (simp at ht; done) | (simp at ht; omega)
   conv => whnf
   repeat' first | ((first | refine LookP.mk _ rfl ?_ | refine ShlP.mk _ (by first | (simp only [List.set, over, List.take, List.drop, List.append_eq, List.nil_append, List.cons_append, List.length]; rfl) | rfl) ?_ | refine And.intro (by first | assumption | exact ⟨by kernel_rfl, rfl⟩ | decide | omega | exact ⟨rfl, by decide, by simp only [List.length_map, Nat.zero_add]; omega⟩) ?_ | refine HpP.force ?_); conv => whnf) | (intro t ht; cases t <;> conv => whnf)
   exact fin rfl
  | true =>
   rw [if_pos rfl]
   dsimp only
   rw [hkw]
   conv => whnf
   repeat (refine LookP.mk _ rfl ?_; conv => whnf)
   intro t ht
   cases t
   rotate_left
   ·exfalso; first | (simp at ht; done) | (simp at ht; omega)
   conv => whnf
   repeat' first | ((first | refine LookP.mk _ rfl ?_ | refine ShlP.mk _ (by first | (simp only [List.set, over, List.take, List.drop, List.append_eq, List.nil_append, List.cons_append, List.length]; rfl) | rfl) ?_ | refine And.intro (by first | assumption | exact ⟨by kernel_rfl, rfl⟩ | decide | omega | exact ⟨rfl, by decide, by simp only [List.length_map, Nat.zero_add]; omega⟩) ?_ | refine HpP.force ?_); conv => whnf) | (intro t ht; cases t <;> conv => whnf)
   exact fin rfl
theorem least97 {w : Nat} {l : List Ps} (h : SOk w l) : PC Pr GG 97 [wkD w l] (iD ((lsS w l w).2 : Nat)) := by
 refine pc_two (isFn_of Tryz.func97 chk97) (acall_mono (least97a h) ?_)
 rintro v H _ rfl
 exact .d _
end Go.Tz
namespace Go.Tz
open Go Go.AL Go.Proofs Go.Ma
theorem opened95d {w : Nat} {l : List Ps} (h : SOk w l) (t : Bool) : PC Pr GG 95 [stD w l t] (wkD w (redRows l (2 * w))) := by
 have hc := opened95 (G := GG) ⟨h.lo, h.hi⟩ l t (sok_len h) h.vl
 rw [h.len] at hc
 have hlen : (redRows l (2 * w)).length = w := by rw [redRows_len, h.len]
 refine pc_freeze hc.fn (acall_mono hc.call ?_)
 rintro v H _ ⟨rfl, rfl, _⟩
 refine .ptr 0 3 0 0 _ _ [iD w, rowsD (redRows l (2 * w)) true, .any] rfl rfl rfl fun j v d h1 h2 => ?_
 match j, h1, h2 with
 | 0, h1, h2 => simp at h1 h2; subst h1 h2; exact .d _
 | 1, h1, h2 =>
  simp at h1 h2; subst h1 h2
  have := asD_pre (H := [(0, some (wkB w w)), (1, some (dblk 4 ((redRows l (2 * w)).map Ps.l)))]) (nm := 1) (sz := 4) (l := (redRows l (2 * w)).map Ps.l) (len := w) (room := w) (t := true) rfl (by rw [List.length_map, hlen]; exact Nat.le_refl _)
  rwa [List.take_of_length_le (by rw [List.length_map, hlen]; exact Nat.le_refl _), decide_eq_true rfl] at this
 | 2, h1, h2 => simp at h1 h2; subst h1 h2; exact .any _
 | j + 3, h1, _ => simp at h1
abbrev pgA (w : Nat) (l : List Ps) : List (Nat × Ps) := flA w (flN w (redRows l (2 * w)) w)
abbrev pgL (w : Nat) (l : List Ps) : Nat := (lsS w (redRows l (2 * w)) w).2
structure PgOk (w : Nat) (l : List Ps) : Prop where
 flips : PC Pr GG 96 [wkD w (redRows l (2 * w))] (fpD (pgA w l) false)
 least : PC Pr GG 97 [wkD w (redRows l (2 * w))] (iD (pgL w l : Nat))
 amp : Amp ((redRows l (2 * w)).map nf) w (pgL w l) (pgA w l).length (valW w (pgA w l) (pgL w l))
 len : (pgA w l).length ≤ 12
 lt : pgL w l < 2 ^ w
 ok : ∀ a, a ∈ pgA w l → Vl w a.2 ∧ a.1 < 12
theorem pg_ok {w : Nat} {l : List Ps} (h : SOk w l) : PgOk w l := by
 obtain ⟨r1, r2⟩ := redRows_ok h
 have hs := sok_sta r1
 have hf := fl_run h.hi r1.len r1.vl hs.good w (Nat.le_refl w)
 have hE := ptq_end h.hi hf.pt
 obtain ⟨s1, s2, s3⟩ := ls_end r1
 have hm := hf.le
 have hhi := h.hi
 refine ⟨flips96 ⟨h.lo, h.hi⟩ r1.len r1.vl hs.good, least97 r1, amp_way h.hi hs.good hE s1 s2 fun k _ hk => s3 k hk, ?_, s2, fun a ha => ?_⟩
 ·simp only [List.length_map, List.length_range]; omega
 ·obtain ⟨j, hj, rfl⟩ := List.mem_map.1 ha
  have := flok_o hf (List.mem_range.1 hj)
  exact ⟨this.1, by omega⟩
theorem chk20 : chkFn Tryz.f20 = true := by kernel_rfl
theorem chk21 : chkFn Tryz.f21 = true := by kernel_rfl
theorem vector20e {w : Int} {l : List Ps} (t : Bool) (hl : l.length ≤ 1000) (h : chkS w l ≠ 0) : PC Pr GG 20 [stD w l t] (.tup [.sl [] true, iD (chkS w l)]) := by
 have hc := check36 w l t hl
 generalize chkS w l = e at hc h ⊢
 have hne : (e != 0) = true := by simpa using h
 refine pc_walk pok Tryz.func20 chk20 ?_
 conv => whnf
 repeat' first | ((first | refine LookP.mk _ rfl ?_ | refine ShlP.mk _ (by first | (simp only [List.set, over, List.take, List.drop, List.append_eq, List.nil_append, List.cons_append, List.length]; rfl) | rfl) ?_ | refine And.intro (by first | assumption | exact ⟨by kernel_rfl, rfl⟩ | decide | omega | exact ⟨rfl, by decide, by simp only [List.length_map, Nat.zero_add]; omega⟩) ?_ | refine pc_use hc ?_ | refine pc_head hc ?_ | refine knownB hne ?_ | refine HpP.force ?_); conv => whnf) | (intro t ht; cases t <;> conv => whnf)
 exact fin rfl
theorem vector20r {w : Nat} {l : List Ps} (t : Bool) (h : SOk w l) (h6 : 6 < w) : PC Pr GG 20 [stD w l t] (.tup [.sl [] true, iD 3]) := by
 have hc := check36 w l t (sok_len h)
 rw [ok_chk h] at hc
 have hgt : decide ((w : Int) > 6) = true := decide_eq_true (by omega)
 refine pc_walk pok Tryz.func20 chk20 ?_
 conv => whnf
 repeat' first | ((first | refine LookP.mk _ rfl ?_ | refine ShlP.mk _ (by first | (simp only [List.set, over, List.take, List.drop, List.append_eq, List.nil_append, List.cons_append, List.length]; rfl) | rfl) ?_ | refine And.intro (by first | assumption | exact ⟨by kernel_rfl, rfl⟩ | decide | omega | exact ⟨rfl, by decide, by simp only [List.length_map, Nat.zero_add]; omega⟩) ?_ | refine pc_use hc ?_ | refine pc_head hc ?_ | refine knownB (show ((0 : Int) != 0) = false from rfl) ?_ | refine knownB hgt ?_ | refine HpP.force ?_); conv => whnf) | (intro t ht; cases t <;> conv => whnf)
 exact fin rfl
theorem vector20 {w : Nat} {l : List Ps} (t : Bool) (h : SOk w l) (h6 : w ≤ 6) : PC Pr GG 20 [stD w l t] (.tup [.sl (vcL (valW w (pgA w l) (pgL w l)) (pgA w l).length (2 ^ w)) false, iD 0]) := by
 have hc := check36 w l t (sok_len h)
 rw [ok_chk h] at hc
 have hgt : decide ((w : Int) > 6) = false := decide_eq_false (by omega)
 have hw : 1 ≤ w ∧ w ≤ 12 := ⟨h.lo, h.hi⟩
 have hp := pg_ok h
 have c1 := opened95d h t
 have c2 := hp.flips
 have c3 := hp.least
 have c4 := fun b (hb : b < 2 ^ w) => amplitude98 (w := w) hw (pgA w l) false (pgL w l) b hp.len hp.lt hb hp.ok
 have hsh : ishl .i64 1 (w : Int) = ((2 ^ w : Nat) : Int) := pow_nat (by omega)
 have hp12 : 2 ^ w ≤ 4096 := Nat.pow_le_pow_right (by decide) hw.2
 obtain ⟨N, hN⟩ : ∃ N, N = 2 ^ w := ⟨_, rfl⟩
 rw [← hN] at hsh hp12 ⊢
 rw [← hN] at c4
 clear hp
 generalize pgA w l = A at c2 c4 ⊢
 generalize pgL w l = lst at c3 c4 ⊢
 refine pc_freeze (isFn_of Tryz.func20 chk20) (acall_mono (K := fun v H _ => ∃ nm, v = .tup [.sl nm 5 0 N N false, .d (iD 0)] ∧ H.get nm = some (dblk 5 (vcL (valW w A lst) A.length N))) (fn_walk pok Tryz.func20 chk20 ?_) ?_)
 ·conv => whnf
  repeat' first | ((first | refine LookP.mk _ rfl ?_ | refine ShlP.mk _ (by first | (simp only [List.set, over, List.take, List.drop, List.append_eq, List.nil_append, List.cons_append, List.length]; rfl) | rfl) ?_ | refine And.intro (by first | assumption | exact ⟨by kernel_rfl, rfl⟩ | decide | omega | exact ⟨rfl, by decide, by simp only [List.length_map, Nat.zero_add]; omega⟩) ?_ | refine pc_use hc ?_ | refine pc_head hc ?_ | refine knownB (show ((0 : Int) != 0) = false from rfl) ?_ | refine knownB hgt ?_ | refine pc_use c1 ?_ | refine pc_head c1 ?_ | refine pc_use c2 ?_ | refine pc_head c2 ?_ | refine pc_use c3 ?_ | refine pc_head c3 ?_ | rw [hsh] | refine HpP.force ?_); conv => whnf) | (intro t ht; cases t <;> conv => whnf)
  refine for_use pok (fun k => ⟨[(1, .ptr 0 2 0 0), (6, .d (fpD A false)), (7, .d (iD lst)), (8, .sl 1 5 0 k k false), (26, .d (iD N)), (27, .d (iD k))], [(0, some (.arr 2 [[.d (iD w), .d (rowsD l t)]])), (1, some (dblk 5 (vcL (valW w A lst) A.length k)))], 2⟩) (N) (fun _ => True) (trivial) ?_ (by kernel_rfl) ?_ ?_
  ·refine Sub.trans (sub_nil (t := 8) (S := 5) (Nat.zero_le _) rfl) ?_
   refine keep_env (by first | exact Nat.zero_le _ | exact Nat.le_of_ble_eq_true rfl) ?_ ?_ trivial
   ·repeat' first | exact trivial | refine ⟨⟨by first | rfl | assumption, rfl⟩, ?_⟩
   ·repeat' first | exact trivial | refine ⟨⟨ltB rfl, _, rfl, by first | rfl | assumption, by first | exact below1 rfl | exact below_dblk _ _ _ | exact below_arr rfl⟩, ?_⟩
  ·intro k A_k h_k I_k N_k
   have e_k : iadd .i64 (k : Int) 1 = ((k + 1 : Nat) : Int) := iadd_nat (by first | omega | (simp at *; omega))
   have hvs := vec_snoc (val := valW w A lst) (m := A.length) (k := k)
   have hvl : (vcL (valW w A lst) A.length k).length = k := by simp
   have hq : (2 * (k + 1) + 192) * 40 ≤ 281474976710656 := by omega
   have hc4 := c4 k h_k
   generalize vcL (valW w A lst) A.length k = V at hvs hvl ⊢
   generalize vcL (valW w A lst) A.length (k + 1) = V' at hvs N_k
   generalize valW w A lst k = vk at hc4 hvs
   conv => whnf
   repeat (refine LookP.mk _ rfl ?_; conv => whnf)
   intro t ht
   cases t
   ·exfalso; first | (simp at ht; done) | (simp at ht; omega)
   conv => whnf
   cases vk
   all_goals
    repeat' first | ((first | refine LookP.mk _ rfl ?_ | refine ShlP.mk _ (by first | (simp only [List.set, over, List.take, List.drop, List.append_eq, List.nil_append, List.cons_append, List.length]; rfl) | rfl) ?_ | refine And.intro (by first | exact ⟨Int.natCast_nonneg _, by omega⟩ | exact Nat.le_refl _ | exact ⟨by rw [List.length_map]; exact hvl, by decide, hq⟩ | assumption | exact ⟨by kernel_rfl, rfl⟩ | decide | omega | exact ⟨rfl, by decide, by simp only [List.length_map, Nat.zero_add]; omega⟩) ?_ | refine pc_use hc4 ?_ | refine pc_head hc4 ?_ | rw [nbeq] | refine HpP.force ?_); conv => whnf) | (intro t ht; cases t <;> conv => whnf)
    refine N_k _ ?_ ?_
    ·first | trivial | assumption | omega
    ·first | refine ren_env [(1, 3)] ?_ ?_ ?_ trivial | refine ren_envB [(1, 3)] rfl rfl ?_ ?_ ?_ trivial
     ·repeat' first | exact trivial | refine ⟨⟨by first | rfl | assumption | exact congrArg (fun n => AV.d (iD n)) e_k, rfl⟩, ?_⟩
     ·repeat' first | exact trivial | refine ⟨⟨ltB rfl, _, rfl, by first | rfl | assumption | exact get_ren rfl (by first | rfl | assumption | exact get_ren rfl (by rw [hvs]; exact congrArg some (dblk_snoc rfl))) | exact get_ren rfl (by rw [hvs]; exact congrArg some (dblk_snoc rfl)), by first | exact below1 rfl | exact below_dblk _ _ _ | exact below_arr rfl⟩, ?_⟩
     ·repeat' first | exact trivial | (refine And.intro ?_ ?_) | (exact fun _ => rfl) | (exact fun h => absurd h (Nat.ne_of_beq_eq_false rfl))
  ·intro A_last I_last
   conv => whnf
   repeat (refine LookP.mk _ rfl ?_; conv => whnf)
   intro t ht
   cases t
   rotate_left
   ·exfalso; first | (simp at ht; done) | (simp at ht; omega)
   conv => whnf
   repeat' first | ((first | refine LookP.mk _ rfl ?_ | refine ShlP.mk _ (by first | (simp only [List.set, over, List.take, List.drop, List.append_eq, List.nil_append, List.cons_append, List.length]; rfl) | rfl) ?_ | refine And.intro (by first | assumption | exact ⟨by kernel_rfl, rfl⟩ | decide | omega | exact ⟨rfl, by decide, by simp only [List.length_map, Nat.zero_add]; omega⟩) ?_ | refine HpP.force ?_); conv => whnf) | (intro t ht; cases t <;> conv => whnf)
   exact fin ⟨1, rfl, rfl⟩
 ·rintro v H _ ⟨nm, rfl, hg⟩
  refine .tup _ _ rfl fun j v d h1 h2 => ?_
  match j, h1, h2 with
  | 0, h1, h2 => simp at h1 h2; subst h1 h2; exact asD_dblk hg (by simp)
  | 1, h1, h2 => simp at h1 h2; subst h1 h2; exact .d _
  | j + 2, h1, _ => simp at h1
theorem amplitude21e {w : Int} {l : List Ps} (t : Bool) (b : Int) (hl : l.length ≤ 1000) (h : chkS w l ≠ 0) : PC Pr GG 21 [stD w l t, iD b] (.tup [amD none 0, iD (chkS w l)]) := by
 have hc := check36 w l t hl
 generalize chkS w l = e at hc h ⊢
 have hne : (e != 0) = true := by simpa using h
 refine pc_walk pok Tryz.func21 chk21 ?_
 conv => whnf
 repeat' first | ((first | refine LookP.mk _ rfl ?_ | refine ShlP.mk _ (by first | (simp only [List.set, over, List.take, List.drop, List.append_eq, List.nil_append, List.cons_append, List.length]; rfl) | rfl) ?_ | refine And.intro (by first | assumption | exact ⟨by kernel_rfl, rfl⟩ | decide | omega | exact ⟨rfl, by decide, by simp only [List.length_map, Nat.zero_add]; omega⟩) ?_ | refine pc_use hc ?_ | refine pc_head hc ?_ | refine knownB hne ?_ | refine HpP.force ?_); conv => whnf) | (intro t ht; cases t <;> conv => whnf)
 exact fin rfl
theorem amplitude21n {w : Nat} {l : List Ps} (t : Bool) (b : Int) (h : SOk w l) (hb : b < 0 ∨ ((2 ^ w : Nat) : Int) ≤ b) : PC Pr GG 21 [stD w l t, iD b] (.tup [amD none 0, iD 1]) := by
 have hc := check36 w l t (sok_len h)
 rw [ok_chk h] at hc
 have hi := h.hi
 have hsh : ishl .i64 1 (w : Int) = ((2 ^ w : Nat) : Int) := pow_nat (by omega)
 generalize 2 ^ w = N at hb hsh
 refine pc_walk pok Tryz.func21 chk21 ?_
 conv => whnf
 repeat' first | ((first | refine LookP.mk _ rfl ?_ | refine ShlP.mk _ (by first | (simp only [List.set, over, List.take, List.drop, List.append_eq, List.nil_append, List.cons_append, List.length]; rfl) | rfl) ?_ | refine And.intro (by first | assumption | exact ⟨by kernel_rfl, rfl⟩ | decide | omega | exact ⟨rfl, by decide, by simp only [List.length_map, Nat.zero_add]; omega⟩) ?_ | refine pc_use hc ?_ | refine pc_head hc ?_ | refine knownB (show ((0 : Int) != 0) = false from rfl) ?_ | rw [hsh] | refine HpP.force ?_); conv => whnf) | (intro t ht; cases t <;> conv => whnf)
 all_goals first | exact fin rfl | (exfalso; simp at *; omega)
theorem amplitude21 {w : Nat} {l : List Ps} (t : Bool) (b : Nat) (h : SOk w l) (hb : b < 2 ^ w) : PC Pr GG 21 [stD w l t, iD b] (.tup [amD (valW w (pgA w l) (pgL w l) b) (pgA w l).length, iD 0]) := by
 have hc := check36 w l t (sok_len h)
 rw [ok_chk h] at hc
 have hw : 1 ≤ w ∧ w ≤ 12 := ⟨h.lo, h.hi⟩
 have hp := pg_ok h
 have c1 := opened95d h t
 have c2 := hp.flips
 have c3 := hp.least
 have c4 := amplitude98 (w := w) hw (pgA w l) false (pgL w l) b hp.len hp.lt hb hp.ok
 have hsh : ishl .i64 1 (w : Int) = ((2 ^ w : Nat) : Int) := pow_nat (by omega)
 have hb0 : decide ((b : Int) < 0) = false := decide_eq_false (by omega)
 have hbN : decide ((b : Int) ≥ ((2 ^ w : Nat) : Int)) = false := decide_eq_false (by omega)
 clear hp
 generalize pgA w l = A at c2 c4 ⊢
 generalize pgL w l = lst at c3 c4 ⊢
 generalize A.length = m at c4 ⊢
 generalize valW w A lst b = v at c4 ⊢
 refine pc_walk pok Tryz.func21 chk21 ?_
 conv => whnf
 cases v
 all_goals
  repeat' first | ((first | refine LookP.mk _ rfl ?_ | refine ShlP.mk _ (by first | (simp only [List.set, over, List.take, List.drop, List.append_eq, List.nil_append, List.cons_append, List.length]; rfl) | rfl) ?_ | refine And.intro (by first | assumption | exact ⟨by kernel_rfl, rfl⟩ | decide | omega | exact ⟨rfl, by decide, by simp only [List.length_map, Nat.zero_add]; omega⟩) ?_ | refine pc_use hc ?_ | refine pc_head hc ?_ | refine knownB (show ((0 : Int) != 0) = false from rfl) ?_ | rw [hsh] | refine knownB hb0 ?_ | refine knownB hbN ?_ | refine pc_use c1 ?_ | refine pc_head c1 ?_ | refine pc_use c2 ?_ | refine pc_head c2 ?_ | refine pc_use c3 ?_ | refine pc_head c3 ?_ | refine pc_use c4 ?_ | refine pc_head c4 ?_ | refine HpP.force ?_); conv => whnf) | (intro t ht; cases t <;> conv => whnf)
  exact fin rfl
end Go.Tz
namespace Go.Tz
open Go Go.AL Go.Proofs Go.Ma
theorem chk22 : chkFn Tryz.f22 = true := by kernel_rfl
theorem vc_get {val : Nat → Option Nat} {m N k : Nat} (h : k < N) : (vcL val m N)[(k : Int).toNat]? = some (amL (val k) m) := by
 simp [List.getElem?_range h]
theorem equal22 (val : Nat → Option Nat) (m N : Nat) (hN : N ≤ 4096) : PC Pr GG 22 [.sl (vcL val m N) false, .sl (vcL val m N) false] (.bool true) := by
 have hl : (vcL val m N).length = N := by simp
 have hg := fun k (h : k < N) => vc_get (val := val) (m := m) h
 generalize vcL val m N = V at hl hg ⊢
 subst hl
 have hne : (((V.length : Nat) : Int) != ((V.length : Nat) : Int)) = false := by simp
 refine pc_walk pok Tryz.func22 chk22 ?_
 conv => whnf
 repeat' first | ((first | refine LookP.mk _ rfl ?_ | refine ShlP.mk _ (by first | (simp only [List.set, over, List.take, List.drop, List.append_eq, List.nil_append, List.cons_append, List.length]; rfl) | rfl) ?_ | refine And.intro (by first | assumption | exact ⟨by kernel_rfl, rfl⟩ | decide | omega | exact ⟨rfl, by decide, by simp only [List.length_map, Nat.zero_add]; omega⟩) ?_ | refine knownB hne ?_ | refine HpP.force ?_); conv => whnf) | (intro t ht; cases t <;> conv => whnf)
 refine for_use pok (fun k => ⟨[(0, .d (.sl V false)), (1, .d (.sl V false)), (12, .d (iD V.length)), (13, .d (iD k))], [], 0⟩) (V.length) (fun _ => True) (trivial) ?_ (by kernel_rfl) ?_ ?_
 ·refine keep_env (by first | exact Nat.zero_le _ | exact Nat.le_of_ble_eq_true rfl) ?_ ?_ trivial
  ·repeat' first | exact trivial | refine ⟨⟨by first | rfl | assumption, rfl⟩, ?_⟩
  ·repeat' first | exact trivial | refine ⟨⟨ltB rfl, _, rfl, by first | rfl | assumption, by first | exact below1 rfl | exact below_dblk _ _ _ | exact below_arr rfl⟩, ?_⟩
 ·intro k A_k h_k I_k N_k
  have e_k : iadd .i64 (k : Int) 1 = ((k + 1 : Nat) : Int) := iadd_nat (by first | omega | (simp at *; omega))
  have hgk := hg k h_k
  generalize val k = v at hgk
  conv => whnf
  repeat (refine LookP.mk _ rfl ?_; conv => whnf)
  intro t ht
  cases t
  ·exfalso; first | (simp at ht; done) | (simp at ht; omega)
  conv => whnf
  cases v with
  | none =>
   repeat' first | ((first | refine LookP.mk _ (by first | rfl | exact hgk) ?_ | refine ShlP.mk _ (by first | (simp only [List.set, over, List.take, List.drop, List.append_eq, List.nil_append, List.cons_append, List.length]; rfl) | rfl) ?_ | refine And.intro (by first | assumption | exact ⟨by kernel_rfl, rfl⟩ | decide | omega | exact ⟨rfl, by decide, by simp only [List.length_map, Nat.zero_add]; omega⟩) ?_ | refine HpP.force ?_); conv => whnf) | (intro t ht; cases t <;> conv => whnf)
   ·refine N_k _ ?_ ?_
    ·first | trivial | assumption | omega
    ·refine keep_env (by first | exact Nat.zero_le _ | exact Nat.le_of_ble_eq_true rfl) ?_ ?_ trivial
     ·repeat' first | exact trivial | refine ⟨⟨by first | rfl | assumption | exact congrArg (fun n => AV.d (iD n)) e_k, rfl⟩, ?_⟩
     ·repeat' first | exact trivial | refine ⟨⟨ltB rfl, _, rfl, by first | rfl | assumption, by first | exact below1 rfl | exact below_dblk _ _ _ | exact below_arr rfl⟩, ?_⟩
   ·exfalso; simp at ht
  | some p =>
   repeat' first | ((first | refine LookP.mk _ (by first | rfl | exact hgk) ?_ | refine ShlP.mk _ (by first | (simp only [List.set, over, List.take, List.drop, List.append_eq, List.nil_append, List.cons_append, List.length]; rfl) | rfl) ?_ | refine And.intro (by first | assumption | exact ⟨by kernel_rfl, rfl⟩ | decide | omega | exact ⟨rfl, by decide, by simp only [List.length_map, Nat.zero_add]; omega⟩) ?_ | refine HpP.force ?_); conv => whnf) | (intro t ht; cases t <;> conv => whnf)
   ·refine N_k _ ?_ ?_
    ·first | trivial | assumption | omega
    ·refine keep_env (by first | exact Nat.zero_le _ | exact Nat.le_of_ble_eq_true rfl) ?_ ?_ trivial
     ·repeat' first | exact trivial | refine ⟨⟨by first | rfl | assumption | exact congrArg (fun n => AV.d (iD n)) e_k, rfl⟩, ?_⟩
     ·repeat' first | exact trivial | refine ⟨⟨ltB rfl, _, rfl, by first | rfl | assumption, by first | exact below1 rfl | exact below_dblk _ _ _ | exact below_arr rfl⟩, ?_⟩
   ·exfalso; simp at ht
 ·intro A_last I_last
  conv => whnf
  repeat (refine LookP.mk _ rfl ?_; conv => whnf)
  intro t ht
  cases t
  rotate_left
  ·exfalso; first | (simp at ht; done) | (simp at ht; omega)
  conv => whnf
  repeat' first | ((first | refine LookP.mk _ rfl ?_ | refine ShlP.mk _ (by first | (simp only [List.set, over, List.take, List.drop, List.append_eq, List.nil_append, List.cons_append, List.length]; rfl) | rfl) ?_ | refine And.intro (by first | assumption | exact ⟨by kernel_rfl, rfl⟩ | decide | omega | exact ⟨rfl, by decide, by simp only [List.length_map, Nat.zero_add]; omega⟩) ?_ | refine HpP.force ?_); conv => whnf) | (intro t ht; cases t <;> conv => whnf)
  exact fin rfl
theorem equal22n : PC Pr GG 22 [.sl [] true, .sl [] true] (.bool true) := rn_ok (by kernel_rfl)
theorem chk3 : chkFn Tryz.f3 = true := by kernel_rfl
theorem vectors3 (w : Int) (l : List Ps) (t : Bool) (b : Int) : PC Pr GG 3 [stD w l t, iD b] (.bool true) := by
 by_cases h : l.length > 20
 ·refine pc_walk pok Tryz.func3 chk3 ?_
  conv => whnf
  repeat' first | ((first | refine LookP.mk _ rfl ?_ | refine ShlP.mk _ (by first | (simp only [List.set, over, List.take, List.drop, List.append_eq, List.nil_append, List.cons_append, List.length]; rfl) | rfl) ?_ | refine And.intro (by first | assumption | exact ⟨by kernel_rfl, rfl⟩ | decide | omega | exact ⟨rfl, by decide, by simp only [List.length_map, Nat.zero_add]; omega⟩) ?_ | refine pc_use awake_c ?_ | refine pc_head awake_c ?_ | refine HpP.force ?_); conv => whnf) | (intro t ht; cases t <;> conv => whnf)
  ·exfalso; simp at ht; omega
  ·exact fin rfl
 ·have hgt : decide (((l.map Ps.l).length : Int) > 20) = false := decide_eq_false (by rw [List.length_map]; omega)
  have c16 := own_c (G := GG) w l t (by omega)
  have c18 := theirs_c (G := GG) w l t (by omega)
  have c17 := scheck17 (G := GG) w l false (by omega)
  have c23 := same_c (G := GG) w w l l false t (by omega)
  rw [decide_eq_true ⟨rfl, rfl⟩] at c23
  by_cases hc : chkS w l = 0
  ·obtain ⟨W, rfl, hs⟩ := chk_ok hc
   rw [hc] at c17
   obtain ⟨lst, m, val, hm, ha, c19⟩ := vector_ref hs false
   have hp := pg_ok hs
   obtain ⟨_, e2, e3⟩ := amp_uniq (sok_sta hs).good (redRows_ok hs).2 ha hp.amp
   have hp12 : 2 ^ W ≤ 4096 := Nat.pow_le_pow_right (by decide) hs.hi
   have hvc : vcL (valW W (pgA W l) (pgL W l)) (pgA W l).length (2 ^ W) = vcL val m (2 ^ W) := by
    unfold vcL
    rw [← e2]
    exact List.map_congr_left fun k hk => by rw [e3 k (List.mem_range.1 hk)]
   have c20 : PC Pr GG 20 [stD W l false] (.tup [.sl (if W ≤ 6 then vcL val m (2 ^ W) else []) (if W ≤ 6 then false else true), iD (if W ≤ 6 then 0 else 3)]) := by
    by_cases h6 : W ≤ 6
    ·have := vector20 false hs h6
     rw [hvc] at this
     rw [if_pos h6, if_pos h6, if_pos h6]; exact this
    ·rw [if_neg h6, if_neg h6, if_neg h6]
     exact vector20r false hs (by omega)
   have c22 : PC Pr GG 22 [.sl (if W ≤ 6 then vcL val m (2 ^ W) else []) (if W ≤ 6 then false else true), .sl (if W ≤ 6 then vcL val m (2 ^ W) else []) (if W ≤ 6 then false else true)] (.bool true) := by
    by_cases h6 : W ≤ 6
    ·rw [if_pos h6, if_pos h6]; exact equal22 val m _ hp12
    ·rw [if_neg h6, if_neg h6]; exact equal22n
   have hvl : (vcL val m (2 ^ W)).length = 2 ^ W := by simp
   by_cases hb : 0 ≤ b ∧ b < ((2 ^ W : Nat) : Int)
   ·obtain ⟨B, rfl⟩ : ∃ B : Nat, b = B := ⟨b.toNat, by omega⟩
    have hB : B < 2 ^ W := by omega
    have c21 := amplitude21 false B hs hB
    rw [← e3 B hB, ← e2] at c21
    have hg := vc_get (val := val) (m := m) hB
    clear e2 e3 hvc hp ha
    generalize 2 ^ W = N at *
    have hb0 : decide ((B : Int) ≥ 0) = true := decide_eq_true (by omega)
    have hbN : decide ((B : Int) < (((vcL val m N).length : Nat) : Int)) = true := decide_eq_true (by rw [hvl]; omega)
    generalize vcL val m N = V at *
    generalize val B = v at c21 hg
    by_cases h6 : W ≤ 6
    ·rw [if_pos h6, if_pos h6, if_pos h6] at c20
     rw [if_pos h6, if_pos h6] at c22
     have hd6 : decide ((W : Int) ≤ 6) = true := decide_eq_true (by omega)
     refine pc_walk pok Tryz.func3 chk3 ?_
     conv => whnf
     cases v
     all_goals
      repeat' first | ((first | refine LookP.mk _ (by first | rfl | exact hg) ?_ | refine ShlP.mk _ (by first | (simp only [List.set, over, List.take, List.drop, List.append_eq, List.nil_append, List.cons_append, List.length]; rfl) | rfl) ?_ | refine And.intro (by first | exact ⟨Int.natCast_nonneg _, by rw [hvl]; omega⟩ | assumption | exact ⟨by kernel_rfl, rfl⟩ | decide | omega | exact ⟨rfl, by decide, by simp only [List.length_map, Nat.zero_add]; omega⟩) ?_ | refine knownB hgt ?_ | refine knownB hd6 ?_ | refine knownB hb0 ?_ | refine knownB hbN ?_ | refine beqT1 ?_ | refine pc_use c16 ?_ | refine pc_head c16 ?_ | refine pc_use c18 ?_ | refine pc_head c18 ?_ | refine pc_use c17 ?_ | refine pc_head c17 ?_ | refine pc_use c19 ?_ | refine pc_head c19 ?_ | refine pc_use c20 ?_ | refine pc_head c20 ?_ | refine pc_use c21 ?_ | refine pc_head c21 ?_ | refine pc_use c22 ?_ | refine pc_head c22 ?_ | refine pc_use c23 ?_ | refine pc_head c23 ?_ | refine pc_use awake_c ?_ | refine pc_head awake_c ?_ | refine HpP.force ?_); conv => whnf) | (intro t ht; cases t <;> conv => whnf)
      exact fin rfl
    ·rw [if_neg h6, if_neg h6, if_neg h6] at c20
     rw [if_neg h6, if_neg h6] at c22
     have hd6 : decide ((W : Int) ≤ 6) = false := decide_eq_false (by omega)
     refine pc_walk pok Tryz.func3 chk3 ?_
     conv => whnf
     cases v
     all_goals
      repeat' first | ((first | refine LookP.mk _ (by first | rfl | exact hg) ?_ | refine ShlP.mk _ (by first | (simp only [List.set, over, List.take, List.drop, List.append_eq, List.nil_append, List.cons_append, List.length]; rfl) | rfl) ?_ | refine And.intro (by first | exact ⟨Int.natCast_nonneg _, by rw [hvl]; omega⟩ | assumption | exact ⟨by kernel_rfl, rfl⟩ | decide | omega | exact ⟨rfl, by decide, by simp only [List.length_map, Nat.zero_add]; omega⟩) ?_ | refine knownB hgt ?_ | refine knownB hd6 ?_ | refine knownB hb0 ?_ | refine knownB hbN ?_ | refine beqT1 ?_ | refine pc_use c16 ?_ | refine pc_head c16 ?_ | refine pc_use c18 ?_ | refine pc_head c18 ?_ | refine pc_use c17 ?_ | refine pc_head c17 ?_ | refine pc_use c19 ?_ | refine pc_head c19 ?_ | refine pc_use c20 ?_ | refine pc_head c20 ?_ | refine pc_use c21 ?_ | refine pc_head c21 ?_ | refine pc_use c22 ?_ | refine pc_head c22 ?_ | refine pc_use c23 ?_ | refine pc_head c23 ?_ | refine pc_use awake_c ?_ | refine pc_head awake_c ?_ | refine HpP.force ?_); conv => whnf) | (intro t ht; cases t <;> conv => whnf)
      exact fin rfl
   ·have c21 := amplitude21n false b hs (by omega)
    clear e2 e3 hvc hp ha
    generalize 2 ^ W = N at *
    generalize vcL val m N = V at *
    have hbb : decide (b ≥ 0) = false ∨ (decide (b ≥ 0) = true ∧ decide (b < ((V.length : Nat) : Int)) = false) := by
     by_cases q : 0 ≤ b
     ·exact .inr ⟨decide_eq_true q, decide_eq_false (by rw [hvl]; omega)⟩
     ·exact .inl (decide_eq_false q)
    by_cases h6 : W ≤ 6
    ·rw [if_pos h6, if_pos h6, if_pos h6] at c20
     rw [if_pos h6, if_pos h6] at c22
     have hd6 : decide ((W : Int) ≤ 6) = true := decide_eq_true (by omega)
     rcases hbb with hb0 | ⟨hb0, hbN⟩
     ·refine pc_walk pok Tryz.func3 chk3 ?_
      conv => whnf
      repeat' first | ((first | refine LookP.mk _ rfl ?_ | refine ShlP.mk _ (by first | (simp only [List.set, over, List.take, List.drop, List.append_eq, List.nil_append, List.cons_append, List.length]; rfl) | rfl) ?_ | refine And.intro (by first | assumption | exact ⟨by kernel_rfl, rfl⟩ | decide | omega | exact ⟨rfl, by decide, by simp only [List.length_map, Nat.zero_add]; omega⟩) ?_ | refine knownB hgt ?_ | refine knownB hd6 ?_ | refine knownB hb0 ?_ | refine beqT1 ?_ | refine pc_use c16 ?_ | refine pc_head c16 ?_ | refine pc_use c18 ?_ | refine pc_head c18 ?_ | refine pc_use c17 ?_ | refine pc_head c17 ?_ | refine pc_use c19 ?_ | refine pc_head c19 ?_ | refine pc_use c20 ?_ | refine pc_head c20 ?_ | refine pc_use c21 ?_ | refine pc_head c21 ?_ | refine pc_use c22 ?_ | refine pc_head c22 ?_ | refine pc_use c23 ?_ | refine pc_head c23 ?_ | refine pc_use awake_c ?_ | refine pc_head awake_c ?_ | refine HpP.force ?_); conv => whnf) | (intro t ht; cases t <;> conv => whnf)
      exact fin rfl
     ·refine pc_walk pok Tryz.func3 chk3 ?_
      conv => whnf
      repeat' first | ((first | refine LookP.mk _ rfl ?_ | refine ShlP.mk _ (by first | (simp only [List.set, over, List.take, List.drop, List.append_eq, List.nil_append, List.cons_append, List.length]; rfl) | rfl) ?_ | refine And.intro (by first | assumption | exact ⟨by kernel_rfl, rfl⟩ | decide | omega | exact ⟨rfl, by decide, by simp only [List.length_map, Nat.zero_add]; omega⟩) ?_ | refine knownB hgt ?_ | refine knownB hd6 ?_ | refine knownB hb0 ?_ | refine knownB hbN ?_ | refine beqT1 ?_ | refine pc_use c16 ?_ | refine pc_head c16 ?_ | refine pc_use c18 ?_ | refine pc_head c18 ?_ | refine pc_use c17 ?_ | refine pc_head c17 ?_ | refine pc_use c19 ?_ | refine pc_head c19 ?_ | refine pc_use c20 ?_ | refine pc_head c20 ?_ | refine pc_use c21 ?_ | refine pc_head c21 ?_ | refine pc_use c22 ?_ | refine pc_head c22 ?_ | refine pc_use c23 ?_ | refine pc_head c23 ?_ | refine pc_use awake_c ?_ | refine pc_head awake_c ?_ | refine HpP.force ?_); conv => whnf) | (intro t ht; cases t <;> conv => whnf)
      exact fin rfl
    ·rw [if_neg h6, if_neg h6, if_neg h6] at c20
     rw [if_neg h6, if_neg h6] at c22
     have hd6 : decide ((W : Int) ≤ 6) = false := decide_eq_false (by omega)
     rcases hbb with hb0 | ⟨hb0, hbN⟩
     ·refine pc_walk pok Tryz.func3 chk3 ?_
      conv => whnf
      repeat' first | ((first | refine LookP.mk _ rfl ?_ | refine ShlP.mk _ (by first | (simp only [List.set, over, List.take, List.drop, List.append_eq, List.nil_append, List.cons_append, List.length]; rfl) | rfl) ?_ | refine And.intro (by first | assumption | exact ⟨by kernel_rfl, rfl⟩ | decide | omega | exact ⟨rfl, by decide, by simp only [List.length_map, Nat.zero_add]; omega⟩) ?_ | refine knownB hgt ?_ | refine knownB hd6 ?_ | refine knownB hb0 ?_ | refine beqT1 ?_ | refine pc_use c16 ?_ | refine pc_head c16 ?_ | refine pc_use c18 ?_ | refine pc_head c18 ?_ | refine pc_use c17 ?_ | refine pc_head c17 ?_ | refine pc_use c19 ?_ | refine pc_head c19 ?_ | refine pc_use c20 ?_ | refine pc_head c20 ?_ | refine pc_use c21 ?_ | refine pc_head c21 ?_ | refine pc_use c22 ?_ | refine pc_head c22 ?_ | refine pc_use c23 ?_ | refine pc_head c23 ?_ | refine pc_use awake_c ?_ | refine pc_head awake_c ?_ | refine HpP.force ?_); conv => whnf) | (intro t ht; cases t <;> conv => whnf)
      exact fin rfl
     ·refine pc_walk pok Tryz.func3 chk3 ?_
      conv => whnf
      repeat' first | ((first | refine LookP.mk _ rfl ?_ | refine ShlP.mk _ (by first | (simp only [List.set, over, List.take, List.drop, List.append_eq, List.nil_append, List.cons_append, List.length]; rfl) | rfl) ?_ | refine And.intro (by first | assumption | exact ⟨by kernel_rfl, rfl⟩ | decide | omega | exact ⟨rfl, by decide, by simp only [List.length_map, Nat.zero_add]; omega⟩) ?_ | refine knownB hgt ?_ | refine knownB hd6 ?_ | refine knownB hb0 ?_ | refine knownB hbN ?_ | refine beqT1 ?_ | refine pc_use c16 ?_ | refine pc_head c16 ?_ | refine pc_use c18 ?_ | refine pc_head c18 ?_ | refine pc_use c17 ?_ | refine pc_head c17 ?_ | refine pc_use c19 ?_ | refine pc_head c19 ?_ | refine pc_use c20 ?_ | refine pc_head c20 ?_ | refine pc_use c21 ?_ | refine pc_head c21 ?_ | refine pc_use c22 ?_ | refine pc_head c22 ?_ | refine pc_use c23 ?_ | refine pc_head c23 ?_ | refine pc_use awake_c ?_ | refine pc_head awake_c ?_ | refine HpP.force ?_); conv => whnf) | (intro t ht; cases t <;> conv => whnf)
      exact fin rfl
  ·have c20 := vector20e (w := w) (l := l) false (by omega) hc
   have c21 := amplitude21e (w := w) (l := l) false b (by omega) hc
   have c22 := equal22n
   generalize chkS w l = e at c17 c20 c21 hc
   have hne : (e == 0) = false := by simpa using hc
   refine pc_walk pok Tryz.func3 chk3 ?_
   conv => whnf
   repeat' first | ((first | refine LookP.mk _ rfl ?_ | refine ShlP.mk _ (by first | (simp only [List.set, over, List.take, List.drop, List.append_eq, List.nil_append, List.cons_append, List.length]; rfl) | rfl) ?_ | refine And.intro (by first | assumption | exact ⟨by kernel_rfl, rfl⟩ | decide | omega | exact ⟨rfl, by decide, by simp only [List.length_map, Nat.zero_add]; omega⟩) ?_ | refine knownB hgt ?_ | refine knownB hne ?_ | refine beqT1 ?_ | refine pc_use c16 ?_ | refine pc_head c16 ?_ | refine pc_use c18 ?_ | refine pc_head c18 ?_ | refine pc_use c17 ?_ | refine pc_head c17 ?_ | refine pc_use c20 ?_ | refine pc_head c20 ?_ | refine pc_use c21 ?_ | refine pc_head c21 ?_ | refine pc_use c22 ?_ | refine pc_head c22 ?_ | refine pc_use c23 ?_ | refine pc_head c23 ?_ | refine pc_use awake_c ?_ | refine pc_head awake_c ?_ | refine HpP.force ?_); conv => whnf) | (intro t ht; cases t <;> conv => whnf)
   exact fin rfl
end Go.Tz
