import Derived.Test.YtehjjpbpdfnnfaaGreatDoorM07
import Derived.Deep.Slices
import Derived.LaidMore
import Derived.OpenShut
import Derived.ProofKit
import Derived.Test.YtehjjpbpdfnnfaaGreatDoorCards
import Derived.Test.YtehjjpbpdfnnfaaGreatDoorTie
/-! The law StabChecks. -/
namespace Go.Tz
open Go Go.AL Go.Proofs Go.Ma
theorem beqT {α : Type} [BEq α] [ReflBEq α] {a : α} {k : Bool → Prop} (h : k true) : ∀ t, (a == a) = t → k t := fun t e => by
  have e2 : true = t := (beq_self_eq_true a).symm.trans e
  exact e2 ▸ h
theorem beqF {a b : Int} (hne : a ≠ b) {k : Bool → Prop} (h : k false) : ∀ t, (a == b) = t → k t := fun t e => by
  have e2 : false = t := (beq_false_of_ne hne).symm.trans e
  exact e2 ▸ h
theorem share {c : Code} {k : Exit → St → Prop} {P : Code → (Exit → St → Prop) → Prop} {R : Prop} (main : P c k → R) (tl : P c k) : R := main tl
theorem chk4 : chkFn Tryz.f4 = true := by kernel_rfl
/-- The error of the wires so far. -/
def exE (w : Int) (l : List Ps) (ks : List Int) : Nat → Int
  | 0 => chkS w l
  | i + 1 => if exE w l ks i ≠ 0 then exE w l ks i else entA w ks i
theorem exE_end {w : Int} {l : List Ps} (ks : List Int) : exE w l ks ks.length = if chkS w l ≠ 0 then chkS w l else entE w ks := by
  have key : chkS w l = 0 → ∀ i, i ≤ ks.length → ((∀ j, j < i → entA w ks j = 0) ∧ exE w l ks i = 0) ∨ ∃ j, j < i ∧ (∀ j', j' < j → entA w ks j' = 0) ∧ entA w ks j ≠ 0 ∧ exE w l ks i = entA w ks j := by
    intro h i
    induction i with
    | zero => exact fun _ => .inl ⟨by omega, h⟩
    | succ i ih =>
      intro hi
      simp only [exE]
      rcases ih (by omega) with ⟨a, b⟩ | ⟨j, a, b, c, d⟩
      · rw [b, if_neg (by simp)]
        by_cases hz : entA w ks i = 0
        · refine .inl ⟨fun j hj => ?_, hz⟩
          rcases Nat.lt_or_ge j i with q | q
          · exact a j q
          · rw [show j = i by omega]; exact hz
        · exact .inr ⟨i, by omega, a, hz, rfl⟩
      · rw [d, if_pos c]
        exact .inr ⟨j, by omega, b, c, rfl⟩
  by_cases h : chkS w l = 0
  · rw [if_neg (fun q => q h)]
    rcases key h ks.length (Nat.le_refl _) with ⟨a, b⟩ | ⟨j, a, b, c, d⟩
    · rw [b, entE_none a]
    · rw [d, entE_at a b c]
  · rw [if_pos h]
    have : ∀ i, exE w l ks i = chkS w l := by
      intro i
      induction i with
      | zero => rfl
      | succ i ih => simp only [exE]; rw [ih, if_pos h]
    exact this _
set_option maxHeartbeats 4000000 in
theorem sc4 (w : Int) (l : List Ps) (t : Bool) (w' : Int) (l' : List Ps) (t' : Bool) (ks : List Int) (u : Bool) (n : Int) (h1 : l.length ≤ 20) (h2 : l'.length ≤ 20) (h3 : ks.length ≤ 20) : PC Pr GG 4 [stD w l t, stD w' l' t', intsD ks u, iD n] (.bool true) := by
  have hown := own_c (G := GG) w l t (by omega)
  have hown' := own_c (G := GG) w' l' t' (by omega)
  have hcl := cloneI (G := GG) ks u (by omega)
  have hth := theirs_c (G := GG) w l t (by omega)
  have hth' := theirs_c (G := GG) w' l' t' (by omega)
  have hck := scheck17 (G := GG) w l false (by omega)
  have hck' := scheck17 (G := GG) w' l' false (by omega)
  refine' share (P := fun c k => ∀ b : Int, b = bothS w l w' l' → LoopVC Pr GG Tryz.f4.ntmps 0 [] c ⟨[(2, .d (intsD ks u)), (3, .d (iD n)), (4, .ptr 0 2 0 0), (5, .ptr 1 2 0 0), (9, .ptr 2 2 0 0), (10, .ptr 3 2 0 0), (11, .d (intsD ks false)), (12, .d (iD (chkS w l))), (13, .d (iD b)), (14, .d (iD (chkS w l))), (74, .d (intsD ks u)), (75, .d (iD (ks.map fun k => [iD k]).length)), (76, .d (iD 0))], [(0, some (.arr 2 [[.d (iD w), .d (rowsD l t)]])), (1, some (.arr 2 [[.d (iD w'), .d (rowsD l' t')]])), (2, some (.arr 2 [[.d (iD w), .d (rowsD l false)]])), (3, some (.arr 2 [[.d (iD w'), .d (rowsD l' false)]]))], 4⟩ k) (fun tail => ?_) ?_
  rotate_left 2
  · refine pc_walk pok Tryz.func4 chk4 ?_
    conv => whnf
    repeat' first
      | (refine LookP.mk _ rfl ?_; conv => whnf)
      | (refine ShlP.mk _ (by first | (simp only [List.set, over, List.take, List.drop, List.append_eq, List.nil_append, List.cons_append, List.length]; rfl) | rfl) ?_; conv => whnf)
      | (refine And.intro (by first | assumption | exact ⟨by kernel_rfl, rfl⟩ | decide | omega | exact ⟨rfl, by decide, by simp only [List.length_map, Nat.zero_add]; omega⟩) ?_; conv => whnf)
      | (refine pc_use (awake_c) ?_; conv => whnf)
      | (refine pc_head (awake_c) ?_; conv => whnf)
      | (refine pc_use (hown) ?_; conv => whnf)
      | (refine pc_head (hown) ?_; conv => whnf)
      | (refine pc_use (hown') ?_; conv => whnf)
      | (refine pc_head (hown') ?_; conv => whnf)
      | (refine pc_use (hcl) ?_; conv => whnf)
      | (refine pc_head (hcl) ?_; conv => whnf)
      | (refine pc_use (hth) ?_; conv => whnf)
      | (refine pc_head (hth) ?_; conv => whnf)
      | (refine pc_use (hth') ?_; conv => whnf)
      | (refine pc_head (hth') ?_; conv => whnf)
      | (refine pc_use (hck) ?_; conv => whnf)
      | (refine pc_head (hck) ?_; conv => whnf)
      | (refine pc_use (hck') ?_; conv => whnf)
      | (refine pc_head (hck') ?_; conv => whnf)
      | (refine HpP.force ?_; conv => whnf)
      | (intro t ht; cases t <;> conv => whnf)
    · refine loopvc_pre ?_ (tail (chkS w l) (by unfold bothS; rw [if_pos (by simpa using ht)]))
      refine keep_env (by first | exact Nat.zero_le _ | exact Nat.le_of_ble_eq_true rfl) ?_ ?_ trivial
      · repeat' first
          | exact trivial
          | refine ⟨⟨by first | rfl | assumption, rfl⟩, ?_⟩
      · repeat' first
          | exact trivial
          | refine ⟨⟨ltB rfl, _, rfl, by first | rfl | assumption, by first | exact below1 rfl | exact below_dblk _ _ _ | exact below_arr rfl⟩, ?_⟩
    · rename_i hA
      have hA : chkS w l = 0 := by simpa using hA
      have hB : chkS w' l' ≠ 0 := by simpa using ht
      refine loopvc_pre ?_ (tail (chkS w' l') (by unfold bothS; rw [if_neg (fun h => h hA), if_pos hB]))
      refine keep_env (by first | exact Nat.zero_le _ | exact Nat.le_of_ble_eq_true rfl) ?_ ?_ trivial
      · repeat' first
          | exact trivial
          | refine ⟨⟨by first | rfl | assumption, rfl⟩, ?_⟩
      · repeat' first
          | exact trivial
          | refine ⟨⟨ltB rfl, _, rfl, by first | rfl | assumption, by first | exact below1 rfl | exact below_dblk _ _ _ | exact below_arr rfl⟩, ?_⟩
    · rename_i hA hB
      have hA : chkS w l = 0 := by simpa using hA
      have hB : chkS w' l' = 0 := by simpa using hB
      have hW : w = w' := by simpa using ht
      refine loopvc_pre ?_ (tail 0 (by unfold bothS; rw [if_neg (fun h => h hA), if_neg (fun h => h hB), if_neg (fun h => h hW)]))
      refine keep_env (by first | exact Nat.zero_le _ | exact Nat.le_of_ble_eq_true rfl) ?_ ?_ trivial
      · repeat' first
          | exact trivial
          | refine ⟨⟨by first | rfl | assumption | exact congrArg (fun n => AV.d (iD n)) hB, rfl⟩, ?_⟩
      · repeat' first
          | exact trivial
          | refine ⟨⟨ltB rfl, _, rfl, by first | rfl | assumption, by first | exact below1 rfl | exact below_dblk _ _ _ | exact below_arr rfl⟩, ?_⟩
    · rename_i hA hB
      have hA : chkS w l = 0 := by simpa using hA
      have hB : chkS w' l' = 0 := by simpa using hB
      have hW : w ≠ w' := by simpa using ht
      refine loopvc_pre ?_ (tail 7 (by unfold bothS; rw [if_neg (fun h => h hA), if_neg (fun h => h hB), if_pos hW]))
      refine keep_env (by first | exact Nat.zero_le _ | exact Nat.le_of_ble_eq_true rfl) ?_ ?_ trivial
      · repeat' first
          | exact trivial
          | refine ⟨⟨by first | rfl | assumption, rfl⟩, ?_⟩
      · repeat' first
          | exact trivial
          | refine ⟨⟨ltB rfl, _, rfl, by first | rfl | assumption, by first | exact below1 rfl | exact below_dblk _ _ _ | exact below_arr rfl⟩, ?_⟩
    all_goals exact fin rfl
  · intro b hb
    refine for_use pok (fun i => ⟨[(2, .d (intsD ks u)), (3, .d (iD n)), (4, .ptr 0 2 0 0), (5, .ptr 1 2 0 0), (9, .ptr 2 2 0 0), (10, .ptr 3 2 0 0), (11, .d (intsD ks false)), (12, .d (iD (chkS w l))), (13, .d (iD b)), (14, .d (iD (exE w l ks i))), (74, .d (intsD ks u)), (75, .d (iD (ks.map fun k => [iD k]).length)), (76, .d (iD i))], [(0, some (.arr 2 [[.d (iD w), .d (rowsD l t)]])), (1, some (.arr 2 [[.d (iD w'), .d (rowsD l' t')]])), (2, some (.arr 2 [[.d (iD w), .d (rowsD l false)]])), (3, some (.arr 2 [[.d (iD w'), .d (rowsD l' false)]]))], 4⟩) (ks.length) (fun _ => True) (trivial) ?_ (by kernel_rfl) ?_ ?_
    · refine keep_env (by first | exact Nat.zero_le _ | exact Nat.le_of_ble_eq_true rfl) ?_ ?_ trivial
      · repeat' first
          | exact trivial
          | refine ⟨⟨by first | rfl | assumption, rfl⟩, ?_⟩
      · repeat' first
          | exact trivial
          | refine ⟨⟨ltB rfl, _, rfl, by first | rfl | assumption, by first | exact below1 rfl | exact below_dblk _ _ _ | exact below_arr rfl⟩, ?_⟩
    · intro i A_i h_i I_i N_i
      have e_i : iadd .i64 (i : Int) 1 = ((i + 1 : Nat) : Int) := iadd_nat (by first | omega | (simp at *; omega))
      have hg := get_i h_i
      have hEA : entA w ks i = if ks[i] < 0 ∨ ks[i] ≥ w then 1 else if ks[i] ∈ ks.take i then 5 else 0 := by
        unfold entA; rw [List.getElem?_eq_getElem h_i]
      have hnx : exE w l ks (i + 1) = if exE w l ks i ≠ 0 then exE w l ks i else entA w ks i := rfl
      rw [hEA] at hnx
      generalize exE w l ks i = e at hnx ⊢
      have hm : ∀ t, PC Pr GG 25 [.sl (List.take ((i : Int).toNat - 0) (List.drop 0 (ks.map fun k => [iD k]))) t, iD ks[i]] (.bool (decide (ks[i] ∈ ks.take i))) := by
        intro t
        rw [Nat.sub_zero, List.drop_zero, Int.toNat_natCast, ← List.map_take]
        exact has25 (G := GG) (ks.take i) t ks[i] (by simp; omega)
      generalize ks[i] = v at hg hnx hm
      conv => whnf
      repeat (refine LookP.mk _ rfl ?_; conv => whnf)
      intro t ht
      cases t
      · exfalso; first | (simp at ht; done) | (simp at ht; omega)
      conv => whnf
      repeat' first
        | (refine LookP.mk _ (by first | rfl | exact hg) ?_; conv => whnf)
        | (refine ShlP.mk _ (by first | (simp only [List.set, over, List.take, List.drop, List.append_eq, List.nil_append, List.cons_append, List.length]; rfl) | rfl) ?_; conv => whnf)
        | (refine And.intro (by first | exact ⟨Nat.zero_le _, by simp; omega, by simp⟩ | assumption | exact ⟨by kernel_rfl, rfl⟩ | decide | omega | exact ⟨rfl, by decide, by simp only [List.length_map, Nat.zero_add]; omega⟩) ?_; conv => whnf)
        | (refine pc_useB ((hm _)) ?_)
        | (refine pc_headB ((hm _)) ?_)
        | (refine HpP.force ?_; conv => whnf)
        | (intro t ht; cases t <;> conv => whnf)
      · have q : exE w l ks (i + 1) = 0 := by rename_i c1 c2 c3; rw [hnx, if_neg (by simpa using c1), if_neg (by simp at c2 c3; omega), if_neg (by simpa using ht)]
        rename_i c1 _ _
        have c1 : e = 0 := by simpa using c1
        refine N_i _ ?_ ?_
        · first | trivial | assumption | omega
        · refine keep_env (by first | exact Nat.zero_le _ | exact Nat.le_of_ble_eq_true rfl) ?_ ?_ trivial
          · repeat' first
              | exact trivial
              | refine ⟨⟨by first | rfl | assumption | exact congrArg (fun n => AV.d (iD n)) e_i | exact congrArg (fun n => AV.d (iD n)) (c1.trans q.symm), rfl⟩, ?_⟩
          · repeat' first
              | exact trivial
              | refine ⟨⟨ltB rfl, _, rfl, by first | rfl | assumption, by first | exact below1 rfl | exact below_dblk _ _ _ | exact below_arr rfl⟩, ?_⟩
      · have q : exE w l ks (i + 1) = 5 := by rename_i c1 c2 c3; rw [hnx, if_neg (by simpa using c1), if_neg (by simp at c2 c3; omega), if_pos (by simpa using ht)]
        refine N_i _ ?_ ?_
        · first | trivial | assumption | omega
        · refine keep_env (by first | exact Nat.zero_le _ | exact Nat.le_of_ble_eq_true rfl) ?_ ?_ trivial
          · repeat' first
              | exact trivial
              | refine ⟨⟨by first | rfl | assumption | exact congrArg (fun n => AV.d (iD n)) e_i | exact congrArg (fun n => AV.d (iD n)) q.symm, rfl⟩, ?_⟩
          · repeat' first
              | exact trivial
              | refine ⟨⟨ltB rfl, _, rfl, by first | rfl | assumption, by first | exact below1 rfl | exact below_dblk _ _ _ | exact below_arr rfl⟩, ?_⟩
      · have q : exE w l ks (i + 1) = 1 := by rename_i c1 c2; rw [hnx, if_neg (by simpa using c1), if_pos (.inr (by simpa using ht))]
        refine N_i _ ?_ ?_
        · first | trivial | assumption | omega
        · refine keep_env (by first | exact Nat.zero_le _ | exact Nat.le_of_ble_eq_true rfl) ?_ ?_ trivial
          · repeat' first
              | exact trivial
              | refine ⟨⟨by first | rfl | assumption | exact congrArg (fun n => AV.d (iD n)) e_i | exact congrArg (fun n => AV.d (iD n)) q.symm, rfl⟩, ?_⟩
          · repeat' first
              | exact trivial
              | refine ⟨⟨ltB rfl, _, rfl, by first | rfl | assumption, by first | exact below1 rfl | exact below_dblk _ _ _ | exact below_arr rfl⟩, ?_⟩
      · have q : exE w l ks (i + 1) = 1 := by rename_i c1; rw [hnx, if_neg (by simpa using c1), if_pos (.inl (by simpa using ht))]
        refine N_i _ ?_ ?_
        · first | trivial | assumption | omega
        · refine keep_env (by first | exact Nat.zero_le _ | exact Nat.le_of_ble_eq_true rfl) ?_ ?_ trivial
          · repeat' first
              | exact trivial
              | refine ⟨⟨by first | rfl | assumption | exact congrArg (fun n => AV.d (iD n)) e_i | exact congrArg (fun n => AV.d (iD n)) q.symm, rfl⟩, ?_⟩
          · repeat' first
              | exact trivial
              | refine ⟨⟨ltB rfl, _, rfl, by first | rfl | assumption, by first | exact below1 rfl | exact below_dblk _ _ _ | exact below_arr rfl⟩, ?_⟩
      · have q : exE w l ks (i + 1) = e := by rw [hnx, if_pos (by simpa using ht)]
        refine N_i _ ?_ ?_
        · first | trivial | assumption | omega
        · refine keep_env (by first | exact Nat.zero_le _ | exact Nat.le_of_ble_eq_true rfl) ?_ ?_ trivial
          · repeat' first
              | exact trivial
              | refine ⟨⟨by first | rfl | assumption | exact congrArg (fun n => AV.d (iD n)) e_i | exact congrArg (fun n => AV.d (iD n)) q.symm, rfl⟩, ?_⟩
          · repeat' first
              | exact trivial
              | refine ⟨⟨ltB rfl, _, rfl, by first | rfl | assumption, by first | exact below1 rfl | exact below_dblk _ _ _ | exact below_arr rfl⟩, ?_⟩
    · intro A_last I_last
      rw [exE_end]
      have hsm := same_c (G := GG) w w l l false t (by omega)
      have hsm2 := same_c (G := GG) w' w' l' l' false t' (by omega)
      have heq := equal38 (G := GG) ks false u (by omega)
      rw [decide_eq_true ⟨rfl, rfl⟩] at hsm hsm2
      have h36 := check36 w l false (by omega)
      have h32 := same32 w l false w' l' false (by omega) (by omega)
      have h33 := over33 w l false w' l' false (by omega) (by omega) (fun W _ a c => (ovl_ok a c).1)
      have h34 := entropy34 w l false ks false (by omega) (by omega)
      by_cases hA : chkS w l = 0
      · have hA1 : True := trivial
        obtain ⟨W, rfl, hs⟩ := chk_ok hA
        have hpos : 0 < l.length := by have := hs.len; have := hs.lo; omega
        have h26 := canon26 (G := GG) W l false W (by omega) hpos (fun q hq => vl_w (hs.vl q hq)) (by have := hs.lo; omega) (by have := hs.hi; omega)
        have h31 := canon31o hs false
        have hks : entE W ks = 0 → ∀ k, k ∈ ks → 0 ≤ k := fun he k hk => by
          obtain ⟨j, hj, rfl⟩ := List.getElem_of_mem hk
          exact (entA_ok hj (entE_zero he j hj)).1
        rw [entD, if_neg (fun h => h hA)] at h34
        rw [if_neg (fun h => h hA)]
        rw [hA] at h36 ⊢
        rw [Int.toNat_natCast] at h26
        have hRl := redRows_len l (2 * W)
        by_cases hB : bothS W l w' l' = 0
        · have hb0 : True := trivial
          obtain ⟨W2, e2, e3, _, hs'⟩ := both_ok hB
          obtain rfl : W2 = W := by omega
          subst e3
          have h26b := canon26 (G := GG) W2 l' false W2 (by omega) (by have := hs'.len; have := hs'.lo; omega) (fun q hq => vl_w (hs'.vl q hq)) (by have := hs'.lo; omega) (by have := hs'.hi; omega)
          have h28 := over28 (G := GG) ⟨hs.lo, hs.hi⟩ l false l' (by omega) (by omega) hs.vl (ovR_run hs hs').1
          rw [sameD, if_pos hB] at h32
          rw [overD, if_pos hB] at h33
          rw [Int.toNat_natCast] at h26b h32 h33
          rw [(ovl_ok hs hs').2] at h33
          have h27 := equal27 (G := GG) W2 W2 (redRows l (2 * W2)) (redRows l' (2 * W2)) false false (by rw [hRl]; omega)
          have hd : decide ((W2 : Int) = W2 ∧ redRows l (2 * W2) = redRows l' (2 * W2)) = decide (redRows l (2 * W2) = redRows l' (2 * W2)) := by simp
          rw [hd] at h27
          rw [hb, hB]
          generalize decide (redRows l (2 * W2) = redRows l' (2 * W2)) = dd at h27 h32
          generalize redRows l (2 * W2) = R at *
          generalize redRows l' (2 * W2) = R' at *
          generalize ovR W2 l' l = ov at h28 h33
          have ht1 := theirs18o (G := GG) W2 R true (by omega) (by omega)
          have h27R := equal27 (G := GG) W2 W2 R R false false (by omega)
          rw [decide_eq_true ⟨rfl, rfl⟩] at h27R
          rw [hRl] at ht1
          have hrR : ∀ ρ : Nat → Nat, some (Blk.ren ρ (dblk 4 (R.map Ps.l))) = some (dblk 4 (R.map Ps.l)) := fun ρ => by rw [ren_dblk]
          cases dd with
          | true =>
            by_cases hE : entE W2 ks = 0
            · have hE1 : True := trivial
              have h29 := ent29 (G := GG) (w := W2) l false ks u (by omega) (by omega) (by omega) (fun k hk => hks hE k hk) hs.lo hs.hi
              rw [if_neg (fun h => h hE), ent_eq hs hE] at h34
              rw [hE]
              generalize entR W2 l ks = en at h29 h34
              by_cases hz : n < 1 ∨ n > 12
              · have h30 := zero30o hz
                have h35 := zero35o hz
                have hZl : True := trivial
                conv => whnf
                repeat (refine LookP.mk _ rfl ?_; conv => whnf)
                intro t ht
                cases t
                rotate_left
                · exfalso; first | (simp at ht; done) | (simp at ht; omega)
                conv => whnf
                repeat' first
                  | (refine LookP.mk _ (by first | rfl | exact lendA (hrR _) (by simp [hRl, hZl]) | exact lendW (hrR _) (by simp [hRl, hZl])) ?_; conv => whnf)
                  | (refine ShlP.mk _ (by first | (simp only [List.set, over, List.take, List.drop, List.append_eq, List.nil_append, List.cons_append, List.length]; rfl) | rfl) ?_; conv => whnf)
                  | (refine And.intro (by first | (simp [hRl, hZl]; done) | assumption | exact ⟨by kernel_rfl, rfl⟩ | decide | omega | exact ⟨rfl, by decide, by simp only [List.length_map, Nat.zero_add]; omega⟩) ?_; conv => whnf)
                  | (refine beqT ?_; conv => whnf)
                  | (refine pc_use (h35) ?_; conv => whnf)
                  | (refine pc_head (h35) ?_; conv => whnf)
                  | (refine po_use h31 ?_; conv => whnf)
                  | (refine pc_use (h30) ?_; conv => whnf)
                  | (refine pc_head (h30) ?_; conv => whnf)
                  | (refine pc_use (h32) ?_; conv => whnf)
                  | (refine pc_head (h32) ?_; conv => whnf)
                  | (refine pc_use (h33) ?_; conv => whnf)
                  | (refine pc_head (h33) ?_; conv => whnf)
                  | (refine pc_use (h34) ?_; conv => whnf)
                  | (refine pc_head (h34) ?_; conv => whnf)
                  | (refine pc_use (h36) ?_; conv => whnf)
                  | (refine pc_head (h36) ?_; conv => whnf)
                  | (refine pc_use (hsm) ?_; conv => whnf)
                  | (refine pc_head (hsm) ?_; conv => whnf)
                  | (refine pc_use (hsm2) ?_; conv => whnf)
                  | (refine pc_head (hsm2) ?_; conv => whnf)
                  | (refine pc_use (heq) ?_; conv => whnf)
                  | (refine pc_head (heq) ?_; conv => whnf)
                  | (refine pc_use (awake_c) ?_; conv => whnf)
                  | (refine pc_head (awake_c) ?_; conv => whnf)
                  | (refine pc_use (h26) ?_; conv => whnf)
                  | (refine pc_head (h26) ?_; conv => whnf)
                  | (refine pc_use (hth) ?_; conv => whnf)
                  | (refine pc_head (hth) ?_; conv => whnf)
                  | (refine pc_use (h26b) ?_; conv => whnf)
                  | (refine pc_head (h26b) ?_; conv => whnf)
                  | (refine pc_use (hth') ?_; conv => whnf)
                  | (refine pc_head (hth') ?_; conv => whnf)
                  | (refine pc_use (h27) ?_; conv => whnf)
                  | (refine pc_head (h27) ?_; conv => whnf)
                  | (refine pc_use (h28) ?_; conv => whnf)
                  | (refine pc_head (h28) ?_; conv => whnf)
                  | (refine pc_use (h29) ?_; conv => whnf)
                  | (refine pc_head (h29) ?_; conv => whnf)
                  | (refine pc_use (alikeE _) ?_; conv => whnf)
                  | (refine pc_head (alikeE _) ?_; conv => whnf)
                  | (refine spine_rd (rd_call rfl rfl (hrR _)) ?_; conv => whnf)
                  | (refine po_head ht1 ?_; conv => whnf)
                  | (refine pc_use (h27R) ?_; conv => whnf)
                  | (refine pc_head (h27R) ?_; conv => whnf)
                  | (rw [flOf_rows]; conv => whnf)
                  | (refine ShhP.mk _ rfl ?_; conv => whnf)
                  | (refine call_walk pok Tryz.func37 chk37 ?_; conv => whnf)
                  | (refine HpP.force ?_; conv => whnf)
                  | (intro t ht; cases t <;> conv => whnf)
                all_goals first | exact fin rfl | (exfalso; simp at ht; done)
              · obtain ⟨N, rfl⟩ : ∃ N : Nat, n = N := ⟨n.toNat, by omega⟩
                have h30 := zero30 (w := N) (by omega) (by omega)
                have h35 := zero35p (w := N) ⟨by omega, by omega⟩
                have hZl : (zeroS N).length = N := by simp [zeroS]
                unfold zD at h30
                generalize zeroS N = Z at h30 h35 hZl
                have ht2 := theirs18o (G := GG) N Z false (by omega) (by omega)
                have h27Z := equal27 (G := GG) N N Z Z false false (by omega)
                rw [decide_eq_true ⟨rfl, rfl⟩] at h27Z
                rw [hZl] at ht2
                have hrZ : ∀ ρ : Nat → Nat, some (Blk.ren ρ (dblk 4 (Z.map Ps.l))) = some (dblk 4 (Z.map Ps.l)) := fun ρ => by rw [ren_dblk]
                conv => whnf
                repeat (refine LookP.mk _ rfl ?_; conv => whnf)
                intro t ht
                cases t
                rotate_left
                · exfalso; first | (simp at ht; done) | (simp at ht; omega)
                conv => whnf
                repeat' first
                  | (refine LookP.mk _ (by first | rfl | exact lendA (hrR _) (by simp [hRl, hZl]) | exact lendW (hrR _) (by simp [hRl, hZl]) | exact lendA (hrZ _) (by simp [hRl, hZl]) | exact lendW (hrZ _) (by simp [hRl, hZl])) ?_; conv => whnf)
                  | (refine ShlP.mk _ (by first | (simp only [List.set, over, List.take, List.drop, List.append_eq, List.nil_append, List.cons_append, List.length]; rfl) | rfl) ?_; conv => whnf)
                  | (refine And.intro (by first | (simp [hRl, hZl]; done) | assumption | exact ⟨by kernel_rfl, rfl⟩ | decide | omega | exact ⟨rfl, by decide, by simp only [List.length_map, Nat.zero_add]; omega⟩) ?_; conv => whnf)
                  | (refine beqT ?_; conv => whnf)
                  | (refine po_use h35 ?_; conv => whnf)
                  | (refine po_use h31 ?_; conv => whnf)
                  | (refine pc_use (h30) ?_; conv => whnf)
                  | (refine pc_head (h30) ?_; conv => whnf)
                  | (refine pc_use (h32) ?_; conv => whnf)
                  | (refine pc_head (h32) ?_; conv => whnf)
                  | (refine pc_use (h33) ?_; conv => whnf)
                  | (refine pc_head (h33) ?_; conv => whnf)
                  | (refine pc_use (h34) ?_; conv => whnf)
                  | (refine pc_head (h34) ?_; conv => whnf)
                  | (refine pc_use (h36) ?_; conv => whnf)
                  | (refine pc_head (h36) ?_; conv => whnf)
                  | (refine pc_use (hsm) ?_; conv => whnf)
                  | (refine pc_head (hsm) ?_; conv => whnf)
                  | (refine pc_use (hsm2) ?_; conv => whnf)
                  | (refine pc_head (hsm2) ?_; conv => whnf)
                  | (refine pc_use (heq) ?_; conv => whnf)
                  | (refine pc_head (heq) ?_; conv => whnf)
                  | (refine pc_use (awake_c) ?_; conv => whnf)
                  | (refine pc_head (awake_c) ?_; conv => whnf)
                  | (refine pc_use (h26) ?_; conv => whnf)
                  | (refine pc_head (h26) ?_; conv => whnf)
                  | (refine pc_use (hth) ?_; conv => whnf)
                  | (refine pc_head (hth) ?_; conv => whnf)
                  | (refine pc_use (h26b) ?_; conv => whnf)
                  | (refine pc_head (h26b) ?_; conv => whnf)
                  | (refine pc_use (hth') ?_; conv => whnf)
                  | (refine pc_head (hth') ?_; conv => whnf)
                  | (refine pc_use (h27) ?_; conv => whnf)
                  | (refine pc_head (h27) ?_; conv => whnf)
                  | (refine pc_use (h28) ?_; conv => whnf)
                  | (refine pc_head (h28) ?_; conv => whnf)
                  | (refine pc_use (h29) ?_; conv => whnf)
                  | (refine pc_head (h29) ?_; conv => whnf)
                  | (refine spine_rd (rd_call rfl rfl (hrR _)) ?_; conv => whnf)
                  | (refine spine_rd (rd_call rfl rfl (hrZ _)) ?_; conv => whnf)
                  | (refine po_head ht1 ?_; conv => whnf)
                  | (refine po_head ht2 ?_; conv => whnf)
                  | (refine pc_use (h27R) ?_; conv => whnf)
                  | (refine pc_head (h27R) ?_; conv => whnf)
                  | (refine pc_use (h27Z) ?_; conv => whnf)
                  | (refine pc_head (h27Z) ?_; conv => whnf)
                  | (rw [flOf_rows]; conv => whnf)
                  | (refine ShhP.mk _ rfl ?_; conv => whnf)
                  | (refine call_walk pok Tryz.func37 chk37 ?_; conv => whnf)
                  | (refine HpP.force ?_; conv => whnf)
                  | (intro t ht; cases t <;> conv => whnf)
                all_goals first | exact fin rfl | (exfalso; simp at ht; done)
            · have hE1 := hE
              rw [if_pos hE] at h34
              generalize entE W2 ks = e14 at *
              by_cases hz : n < 1 ∨ n > 12
              · have h30 := zero30o hz
                have h35 := zero35o hz
                have hZl : True := trivial
                conv => whnf
                repeat (refine LookP.mk _ rfl ?_; conv => whnf)
                intro t ht
                cases t
                rotate_left
                · exfalso; first | (simp at ht; done) | (simp at ht; omega)
                conv => whnf
                repeat' first
                  | (refine LookP.mk _ (by first | rfl | exact lendA (hrR _) (by simp [hRl, hZl]) | exact lendW (hrR _) (by simp [hRl, hZl])) ?_; conv => whnf)
                  | (refine ShlP.mk _ (by first | (simp only [List.set, over, List.take, List.drop, List.append_eq, List.nil_append, List.cons_append, List.length]; rfl) | rfl) ?_; conv => whnf)
                  | (refine And.intro (by first | (simp [hRl, hZl]; done) | assumption | exact ⟨by kernel_rfl, rfl⟩ | decide | omega | exact ⟨rfl, by decide, by simp only [List.length_map, Nat.zero_add]; omega⟩) ?_; conv => whnf)
                  | (refine beqT ?_; conv => whnf)
                  | (refine beqF hE1 ?_; conv => whnf)
                  | (refine pc_use (h35) ?_; conv => whnf)
                  | (refine pc_head (h35) ?_; conv => whnf)
                  | (refine po_use h31 ?_; conv => whnf)
                  | (refine pc_use (h30) ?_; conv => whnf)
                  | (refine pc_head (h30) ?_; conv => whnf)
                  | (refine pc_use (h32) ?_; conv => whnf)
                  | (refine pc_head (h32) ?_; conv => whnf)
                  | (refine pc_use (h33) ?_; conv => whnf)
                  | (refine pc_head (h33) ?_; conv => whnf)
                  | (refine pc_use (h34) ?_; conv => whnf)
                  | (refine pc_head (h34) ?_; conv => whnf)
                  | (refine pc_use (h36) ?_; conv => whnf)
                  | (refine pc_head (h36) ?_; conv => whnf)
                  | (refine pc_use (hsm) ?_; conv => whnf)
                  | (refine pc_head (hsm) ?_; conv => whnf)
                  | (refine pc_use (hsm2) ?_; conv => whnf)
                  | (refine pc_head (hsm2) ?_; conv => whnf)
                  | (refine pc_use (heq) ?_; conv => whnf)
                  | (refine pc_head (heq) ?_; conv => whnf)
                  | (refine pc_use (awake_c) ?_; conv => whnf)
                  | (refine pc_head (awake_c) ?_; conv => whnf)
                  | (refine pc_use (h26) ?_; conv => whnf)
                  | (refine pc_head (h26) ?_; conv => whnf)
                  | (refine pc_use (hth) ?_; conv => whnf)
                  | (refine pc_head (hth) ?_; conv => whnf)
                  | (refine pc_use (h26b) ?_; conv => whnf)
                  | (refine pc_head (h26b) ?_; conv => whnf)
                  | (refine pc_use (hth') ?_; conv => whnf)
                  | (refine pc_head (hth') ?_; conv => whnf)
                  | (refine pc_use (h27) ?_; conv => whnf)
                  | (refine pc_head (h27) ?_; conv => whnf)
                  | (refine pc_use (h28) ?_; conv => whnf)
                  | (refine pc_head (h28) ?_; conv => whnf)
                  | (refine pc_use (alikeE _) ?_; conv => whnf)
                  | (refine pc_head (alikeE _) ?_; conv => whnf)
                  | (refine spine_rd (rd_call rfl rfl (hrR _)) ?_; conv => whnf)
                  | (refine po_head ht1 ?_; conv => whnf)
                  | (refine pc_use (h27R) ?_; conv => whnf)
                  | (refine pc_head (h27R) ?_; conv => whnf)
                  | (rw [flOf_rows]; conv => whnf)
                  | (refine ShhP.mk _ rfl ?_; conv => whnf)
                  | (refine call_walk pok Tryz.func37 chk37 ?_; conv => whnf)
                  | (refine HpP.force ?_; conv => whnf)
                  | (intro t ht; cases t <;> conv => whnf)
                all_goals first | exact fin rfl | (exfalso; simp at ht; done)
              · obtain ⟨N, rfl⟩ : ∃ N : Nat, n = N := ⟨n.toNat, by omega⟩
                have h30 := zero30 (w := N) (by omega) (by omega)
                have h35 := zero35p (w := N) ⟨by omega, by omega⟩
                have hZl : (zeroS N).length = N := by simp [zeroS]
                unfold zD at h30
                generalize zeroS N = Z at h30 h35 hZl
                have ht2 := theirs18o (G := GG) N Z false (by omega) (by omega)
                have h27Z := equal27 (G := GG) N N Z Z false false (by omega)
                rw [decide_eq_true ⟨rfl, rfl⟩] at h27Z
                rw [hZl] at ht2
                have hrZ : ∀ ρ : Nat → Nat, some (Blk.ren ρ (dblk 4 (Z.map Ps.l))) = some (dblk 4 (Z.map Ps.l)) := fun ρ => by rw [ren_dblk]
                conv => whnf
                repeat (refine LookP.mk _ rfl ?_; conv => whnf)
                intro t ht
                cases t
                rotate_left
                · exfalso; first | (simp at ht; done) | (simp at ht; omega)
                conv => whnf
                repeat' first
                  | (refine LookP.mk _ (by first | rfl | exact lendA (hrR _) (by simp [hRl, hZl]) | exact lendW (hrR _) (by simp [hRl, hZl]) | exact lendA (hrZ _) (by simp [hRl, hZl]) | exact lendW (hrZ _) (by simp [hRl, hZl])) ?_; conv => whnf)
                  | (refine ShlP.mk _ (by first | (simp only [List.set, over, List.take, List.drop, List.append_eq, List.nil_append, List.cons_append, List.length]; rfl) | rfl) ?_; conv => whnf)
                  | (refine And.intro (by first | (simp [hRl, hZl]; done) | assumption | exact ⟨by kernel_rfl, rfl⟩ | decide | omega | exact ⟨rfl, by decide, by simp only [List.length_map, Nat.zero_add]; omega⟩) ?_; conv => whnf)
                  | (refine beqT ?_; conv => whnf)
                  | (refine beqF hE1 ?_; conv => whnf)
                  | (refine po_use h35 ?_; conv => whnf)
                  | (refine po_use h31 ?_; conv => whnf)
                  | (refine pc_use (h30) ?_; conv => whnf)
                  | (refine pc_head (h30) ?_; conv => whnf)
                  | (refine pc_use (h32) ?_; conv => whnf)
                  | (refine pc_head (h32) ?_; conv => whnf)
                  | (refine pc_use (h33) ?_; conv => whnf)
                  | (refine pc_head (h33) ?_; conv => whnf)
                  | (refine pc_use (h34) ?_; conv => whnf)
                  | (refine pc_head (h34) ?_; conv => whnf)
                  | (refine pc_use (h36) ?_; conv => whnf)
                  | (refine pc_head (h36) ?_; conv => whnf)
                  | (refine pc_use (hsm) ?_; conv => whnf)
                  | (refine pc_head (hsm) ?_; conv => whnf)
                  | (refine pc_use (hsm2) ?_; conv => whnf)
                  | (refine pc_head (hsm2) ?_; conv => whnf)
                  | (refine pc_use (heq) ?_; conv => whnf)
                  | (refine pc_head (heq) ?_; conv => whnf)
                  | (refine pc_use (awake_c) ?_; conv => whnf)
                  | (refine pc_head (awake_c) ?_; conv => whnf)
                  | (refine pc_use (h26) ?_; conv => whnf)
                  | (refine pc_head (h26) ?_; conv => whnf)
                  | (refine pc_use (hth) ?_; conv => whnf)
                  | (refine pc_head (hth) ?_; conv => whnf)
                  | (refine pc_use (h26b) ?_; conv => whnf)
                  | (refine pc_head (h26b) ?_; conv => whnf)
                  | (refine pc_use (hth') ?_; conv => whnf)
                  | (refine pc_head (hth') ?_; conv => whnf)
                  | (refine pc_use (h27) ?_; conv => whnf)
                  | (refine pc_head (h27) ?_; conv => whnf)
                  | (refine pc_use (h28) ?_; conv => whnf)
                  | (refine pc_head (h28) ?_; conv => whnf)
                  | (refine spine_rd (rd_call rfl rfl (hrR _)) ?_; conv => whnf)
                  | (refine spine_rd (rd_call rfl rfl (hrZ _)) ?_; conv => whnf)
                  | (refine po_head ht1 ?_; conv => whnf)
                  | (refine po_head ht2 ?_; conv => whnf)
                  | (refine pc_use (h27R) ?_; conv => whnf)
                  | (refine pc_head (h27R) ?_; conv => whnf)
                  | (refine pc_use (h27Z) ?_; conv => whnf)
                  | (refine pc_head (h27Z) ?_; conv => whnf)
                  | (rw [flOf_rows]; conv => whnf)
                  | (refine ShhP.mk _ rfl ?_; conv => whnf)
                  | (refine call_walk pok Tryz.func37 chk37 ?_; conv => whnf)
                  | (refine HpP.force ?_; conv => whnf)
                  | (intro t ht; cases t <;> conv => whnf)
                all_goals first | exact fin rfl | (exfalso; simp at ht; done)
          | false =>
            by_cases hE : entE W2 ks = 0
            · have hE1 : True := trivial
              have h29 := ent29 (G := GG) (w := W2) l false ks u (by omega) (by omega) (by omega) (fun k hk => hks hE k hk) hs.lo hs.hi
              rw [if_neg (fun h => h hE), ent_eq hs hE] at h34
              rw [hE]
              generalize entR W2 l ks = en at h29 h34
              by_cases hz : n < 1 ∨ n > 12
              · have h30 := zero30o hz
                have h35 := zero35o hz
                have hZl : True := trivial
                conv => whnf
                repeat (refine LookP.mk _ rfl ?_; conv => whnf)
                intro t ht
                cases t
                rotate_left
                · exfalso; first | (simp at ht; done) | (simp at ht; omega)
                conv => whnf
                repeat' first
                  | (refine LookP.mk _ (by first | rfl | exact lendA (hrR _) (by simp [hRl, hZl]) | exact lendW (hrR _) (by simp [hRl, hZl])) ?_; conv => whnf)
                  | (refine ShlP.mk _ (by first | (simp only [List.set, over, List.take, List.drop, List.append_eq, List.nil_append, List.cons_append, List.length]; rfl) | rfl) ?_; conv => whnf)
                  | (refine And.intro (by first | (simp [hRl, hZl]; done) | assumption | exact ⟨by kernel_rfl, rfl⟩ | decide | omega | exact ⟨rfl, by decide, by simp only [List.length_map, Nat.zero_add]; omega⟩) ?_; conv => whnf)
                  | (refine beqT ?_; conv => whnf)
                  | (refine pc_use (h35) ?_; conv => whnf)
                  | (refine pc_head (h35) ?_; conv => whnf)
                  | (refine po_use h31 ?_; conv => whnf)
                  | (refine pc_use (h30) ?_; conv => whnf)
                  | (refine pc_head (h30) ?_; conv => whnf)
                  | (refine pc_use (h32) ?_; conv => whnf)
                  | (refine pc_head (h32) ?_; conv => whnf)
                  | (refine pc_use (h33) ?_; conv => whnf)
                  | (refine pc_head (h33) ?_; conv => whnf)
                  | (refine pc_use (h34) ?_; conv => whnf)
                  | (refine pc_head (h34) ?_; conv => whnf)
                  | (refine pc_use (h36) ?_; conv => whnf)
                  | (refine pc_head (h36) ?_; conv => whnf)
                  | (refine pc_use (hsm) ?_; conv => whnf)
                  | (refine pc_head (hsm) ?_; conv => whnf)
                  | (refine pc_use (hsm2) ?_; conv => whnf)
                  | (refine pc_head (hsm2) ?_; conv => whnf)
                  | (refine pc_use (heq) ?_; conv => whnf)
                  | (refine pc_head (heq) ?_; conv => whnf)
                  | (refine pc_use (awake_c) ?_; conv => whnf)
                  | (refine pc_head (awake_c) ?_; conv => whnf)
                  | (refine pc_use (h26) ?_; conv => whnf)
                  | (refine pc_head (h26) ?_; conv => whnf)
                  | (refine pc_use (hth) ?_; conv => whnf)
                  | (refine pc_head (hth) ?_; conv => whnf)
                  | (refine pc_use (h26b) ?_; conv => whnf)
                  | (refine pc_head (h26b) ?_; conv => whnf)
                  | (refine pc_use (hth') ?_; conv => whnf)
                  | (refine pc_head (hth') ?_; conv => whnf)
                  | (refine pc_use (h27) ?_; conv => whnf)
                  | (refine pc_head (h27) ?_; conv => whnf)
                  | (refine pc_use (h28) ?_; conv => whnf)
                  | (refine pc_head (h28) ?_; conv => whnf)
                  | (refine pc_use (h29) ?_; conv => whnf)
                  | (refine pc_head (h29) ?_; conv => whnf)
                  | (refine pc_use (alikeE _) ?_; conv => whnf)
                  | (refine pc_head (alikeE _) ?_; conv => whnf)
                  | (refine spine_rd (rd_call rfl rfl (hrR _)) ?_; conv => whnf)
                  | (refine po_head ht1 ?_; conv => whnf)
                  | (refine pc_use (h27R) ?_; conv => whnf)
                  | (refine pc_head (h27R) ?_; conv => whnf)
                  | (rw [flOf_rows]; conv => whnf)
                  | (refine ShhP.mk _ rfl ?_; conv => whnf)
                  | (refine call_walk pok Tryz.func37 chk37 ?_; conv => whnf)
                  | (refine HpP.force ?_; conv => whnf)
                  | (intro t ht; cases t <;> conv => whnf)
                all_goals first | exact fin rfl | (exfalso; simp at ht; done)
              · obtain ⟨N, rfl⟩ : ∃ N : Nat, n = N := ⟨n.toNat, by omega⟩
                have h30 := zero30 (w := N) (by omega) (by omega)
                have h35 := zero35p (w := N) ⟨by omega, by omega⟩
                have hZl : (zeroS N).length = N := by simp [zeroS]
                unfold zD at h30
                generalize zeroS N = Z at h30 h35 hZl
                have ht2 := theirs18o (G := GG) N Z false (by omega) (by omega)
                have h27Z := equal27 (G := GG) N N Z Z false false (by omega)
                rw [decide_eq_true ⟨rfl, rfl⟩] at h27Z
                rw [hZl] at ht2
                have hrZ : ∀ ρ : Nat → Nat, some (Blk.ren ρ (dblk 4 (Z.map Ps.l))) = some (dblk 4 (Z.map Ps.l)) := fun ρ => by rw [ren_dblk]
                conv => whnf
                repeat (refine LookP.mk _ rfl ?_; conv => whnf)
                intro t ht
                cases t
                rotate_left
                · exfalso; first | (simp at ht; done) | (simp at ht; omega)
                conv => whnf
                repeat' first
                  | (refine LookP.mk _ (by first | rfl | exact lendA (hrR _) (by simp [hRl, hZl]) | exact lendW (hrR _) (by simp [hRl, hZl]) | exact lendA (hrZ _) (by simp [hRl, hZl]) | exact lendW (hrZ _) (by simp [hRl, hZl])) ?_; conv => whnf)
                  | (refine ShlP.mk _ (by first | (simp only [List.set, over, List.take, List.drop, List.append_eq, List.nil_append, List.cons_append, List.length]; rfl) | rfl) ?_; conv => whnf)
                  | (refine And.intro (by first | (simp [hRl, hZl]; done) | assumption | exact ⟨by kernel_rfl, rfl⟩ | decide | omega | exact ⟨rfl, by decide, by simp only [List.length_map, Nat.zero_add]; omega⟩) ?_; conv => whnf)
                  | (refine beqT ?_; conv => whnf)
                  | (refine po_use h35 ?_; conv => whnf)
                  | (refine po_use h31 ?_; conv => whnf)
                  | (refine pc_use (h30) ?_; conv => whnf)
                  | (refine pc_head (h30) ?_; conv => whnf)
                  | (refine pc_use (h32) ?_; conv => whnf)
                  | (refine pc_head (h32) ?_; conv => whnf)
                  | (refine pc_use (h33) ?_; conv => whnf)
                  | (refine pc_head (h33) ?_; conv => whnf)
                  | (refine pc_use (h34) ?_; conv => whnf)
                  | (refine pc_head (h34) ?_; conv => whnf)
                  | (refine pc_use (h36) ?_; conv => whnf)
                  | (refine pc_head (h36) ?_; conv => whnf)
                  | (refine pc_use (hsm) ?_; conv => whnf)
                  | (refine pc_head (hsm) ?_; conv => whnf)
                  | (refine pc_use (hsm2) ?_; conv => whnf)
                  | (refine pc_head (hsm2) ?_; conv => whnf)
                  | (refine pc_use (heq) ?_; conv => whnf)
                  | (refine pc_head (heq) ?_; conv => whnf)
                  | (refine pc_use (awake_c) ?_; conv => whnf)
                  | (refine pc_head (awake_c) ?_; conv => whnf)
                  | (refine pc_use (h26) ?_; conv => whnf)
                  | (refine pc_head (h26) ?_; conv => whnf)
                  | (refine pc_use (hth) ?_; conv => whnf)
                  | (refine pc_head (hth) ?_; conv => whnf)
                  | (refine pc_use (h26b) ?_; conv => whnf)
                  | (refine pc_head (h26b) ?_; conv => whnf)
                  | (refine pc_use (hth') ?_; conv => whnf)
                  | (refine pc_head (hth') ?_; conv => whnf)
                  | (refine pc_use (h27) ?_; conv => whnf)
                  | (refine pc_head (h27) ?_; conv => whnf)
                  | (refine pc_use (h28) ?_; conv => whnf)
                  | (refine pc_head (h28) ?_; conv => whnf)
                  | (refine pc_use (h29) ?_; conv => whnf)
                  | (refine pc_head (h29) ?_; conv => whnf)
                  | (refine spine_rd (rd_call rfl rfl (hrR _)) ?_; conv => whnf)
                  | (refine spine_rd (rd_call rfl rfl (hrZ _)) ?_; conv => whnf)
                  | (refine po_head ht1 ?_; conv => whnf)
                  | (refine po_head ht2 ?_; conv => whnf)
                  | (refine pc_use (h27R) ?_; conv => whnf)
                  | (refine pc_head (h27R) ?_; conv => whnf)
                  | (refine pc_use (h27Z) ?_; conv => whnf)
                  | (refine pc_head (h27Z) ?_; conv => whnf)
                  | (rw [flOf_rows]; conv => whnf)
                  | (refine ShhP.mk _ rfl ?_; conv => whnf)
                  | (refine call_walk pok Tryz.func37 chk37 ?_; conv => whnf)
                  | (refine HpP.force ?_; conv => whnf)
                  | (intro t ht; cases t <;> conv => whnf)
                all_goals first | exact fin rfl | (exfalso; simp at ht; done)
            · have hE1 := hE
              rw [if_pos hE] at h34
              generalize entE W2 ks = e14 at *
              by_cases hz : n < 1 ∨ n > 12
              · have h30 := zero30o hz
                have h35 := zero35o hz
                have hZl : True := trivial
                conv => whnf
                repeat (refine LookP.mk _ rfl ?_; conv => whnf)
                intro t ht
                cases t
                rotate_left
                · exfalso; first | (simp at ht; done) | (simp at ht; omega)
                conv => whnf
                repeat' first
                  | (refine LookP.mk _ (by first | rfl | exact lendA (hrR _) (by simp [hRl, hZl]) | exact lendW (hrR _) (by simp [hRl, hZl])) ?_; conv => whnf)
                  | (refine ShlP.mk _ (by first | (simp only [List.set, over, List.take, List.drop, List.append_eq, List.nil_append, List.cons_append, List.length]; rfl) | rfl) ?_; conv => whnf)
                  | (refine And.intro (by first | (simp [hRl, hZl]; done) | assumption | exact ⟨by kernel_rfl, rfl⟩ | decide | omega | exact ⟨rfl, by decide, by simp only [List.length_map, Nat.zero_add]; omega⟩) ?_; conv => whnf)
                  | (refine beqT ?_; conv => whnf)
                  | (refine beqF hE1 ?_; conv => whnf)
                  | (refine pc_use (h35) ?_; conv => whnf)
                  | (refine pc_head (h35) ?_; conv => whnf)
                  | (refine po_use h31 ?_; conv => whnf)
                  | (refine pc_use (h30) ?_; conv => whnf)
                  | (refine pc_head (h30) ?_; conv => whnf)
                  | (refine pc_use (h32) ?_; conv => whnf)
                  | (refine pc_head (h32) ?_; conv => whnf)
                  | (refine pc_use (h33) ?_; conv => whnf)
                  | (refine pc_head (h33) ?_; conv => whnf)
                  | (refine pc_use (h34) ?_; conv => whnf)
                  | (refine pc_head (h34) ?_; conv => whnf)
                  | (refine pc_use (h36) ?_; conv => whnf)
                  | (refine pc_head (h36) ?_; conv => whnf)
                  | (refine pc_use (hsm) ?_; conv => whnf)
                  | (refine pc_head (hsm) ?_; conv => whnf)
                  | (refine pc_use (hsm2) ?_; conv => whnf)
                  | (refine pc_head (hsm2) ?_; conv => whnf)
                  | (refine pc_use (heq) ?_; conv => whnf)
                  | (refine pc_head (heq) ?_; conv => whnf)
                  | (refine pc_use (awake_c) ?_; conv => whnf)
                  | (refine pc_head (awake_c) ?_; conv => whnf)
                  | (refine pc_use (h26) ?_; conv => whnf)
                  | (refine pc_head (h26) ?_; conv => whnf)
                  | (refine pc_use (hth) ?_; conv => whnf)
                  | (refine pc_head (hth) ?_; conv => whnf)
                  | (refine pc_use (h26b) ?_; conv => whnf)
                  | (refine pc_head (h26b) ?_; conv => whnf)
                  | (refine pc_use (hth') ?_; conv => whnf)
                  | (refine pc_head (hth') ?_; conv => whnf)
                  | (refine pc_use (h27) ?_; conv => whnf)
                  | (refine pc_head (h27) ?_; conv => whnf)
                  | (refine pc_use (h28) ?_; conv => whnf)
                  | (refine pc_head (h28) ?_; conv => whnf)
                  | (refine pc_use (alikeE _) ?_; conv => whnf)
                  | (refine pc_head (alikeE _) ?_; conv => whnf)
                  | (refine spine_rd (rd_call rfl rfl (hrR _)) ?_; conv => whnf)
                  | (refine po_head ht1 ?_; conv => whnf)
                  | (refine pc_use (h27R) ?_; conv => whnf)
                  | (refine pc_head (h27R) ?_; conv => whnf)
                  | (rw [flOf_rows]; conv => whnf)
                  | (refine ShhP.mk _ rfl ?_; conv => whnf)
                  | (refine call_walk pok Tryz.func37 chk37 ?_; conv => whnf)
                  | (refine HpP.force ?_; conv => whnf)
                  | (intro t ht; cases t <;> conv => whnf)
                all_goals first | exact fin rfl | (exfalso; simp at ht; done)
              · obtain ⟨N, rfl⟩ : ∃ N : Nat, n = N := ⟨n.toNat, by omega⟩
                have h30 := zero30 (w := N) (by omega) (by omega)
                have h35 := zero35p (w := N) ⟨by omega, by omega⟩
                have hZl : (zeroS N).length = N := by simp [zeroS]
                unfold zD at h30
                generalize zeroS N = Z at h30 h35 hZl
                have ht2 := theirs18o (G := GG) N Z false (by omega) (by omega)
                have h27Z := equal27 (G := GG) N N Z Z false false (by omega)
                rw [decide_eq_true ⟨rfl, rfl⟩] at h27Z
                rw [hZl] at ht2
                have hrZ : ∀ ρ : Nat → Nat, some (Blk.ren ρ (dblk 4 (Z.map Ps.l))) = some (dblk 4 (Z.map Ps.l)) := fun ρ => by rw [ren_dblk]
                conv => whnf
                repeat (refine LookP.mk _ rfl ?_; conv => whnf)
                intro t ht
                cases t
                rotate_left
                · exfalso; first | (simp at ht; done) | (simp at ht; omega)
                conv => whnf
                repeat' first
                  | (refine LookP.mk _ (by first | rfl | exact lendA (hrR _) (by simp [hRl, hZl]) | exact lendW (hrR _) (by simp [hRl, hZl]) | exact lendA (hrZ _) (by simp [hRl, hZl]) | exact lendW (hrZ _) (by simp [hRl, hZl])) ?_; conv => whnf)
                  | (refine ShlP.mk _ (by first | (simp only [List.set, over, List.take, List.drop, List.append_eq, List.nil_append, List.cons_append, List.length]; rfl) | rfl) ?_; conv => whnf)
                  | (refine And.intro (by first | (simp [hRl, hZl]; done) | assumption | exact ⟨by kernel_rfl, rfl⟩ | decide | omega | exact ⟨rfl, by decide, by simp only [List.length_map, Nat.zero_add]; omega⟩) ?_; conv => whnf)
                  | (refine beqT ?_; conv => whnf)
                  | (refine beqF hE1 ?_; conv => whnf)
                  | (refine po_use h35 ?_; conv => whnf)
                  | (refine po_use h31 ?_; conv => whnf)
                  | (refine pc_use (h30) ?_; conv => whnf)
                  | (refine pc_head (h30) ?_; conv => whnf)
                  | (refine pc_use (h32) ?_; conv => whnf)
                  | (refine pc_head (h32) ?_; conv => whnf)
                  | (refine pc_use (h33) ?_; conv => whnf)
                  | (refine pc_head (h33) ?_; conv => whnf)
                  | (refine pc_use (h34) ?_; conv => whnf)
                  | (refine pc_head (h34) ?_; conv => whnf)
                  | (refine pc_use (h36) ?_; conv => whnf)
                  | (refine pc_head (h36) ?_; conv => whnf)
                  | (refine pc_use (hsm) ?_; conv => whnf)
                  | (refine pc_head (hsm) ?_; conv => whnf)
                  | (refine pc_use (hsm2) ?_; conv => whnf)
                  | (refine pc_head (hsm2) ?_; conv => whnf)
                  | (refine pc_use (heq) ?_; conv => whnf)
                  | (refine pc_head (heq) ?_; conv => whnf)
                  | (refine pc_use (awake_c) ?_; conv => whnf)
                  | (refine pc_head (awake_c) ?_; conv => whnf)
                  | (refine pc_use (h26) ?_; conv => whnf)
                  | (refine pc_head (h26) ?_; conv => whnf)
                  | (refine pc_use (hth) ?_; conv => whnf)
                  | (refine pc_head (hth) ?_; conv => whnf)
                  | (refine pc_use (h26b) ?_; conv => whnf)
                  | (refine pc_head (h26b) ?_; conv => whnf)
                  | (refine pc_use (hth') ?_; conv => whnf)
                  | (refine pc_head (hth') ?_; conv => whnf)
                  | (refine pc_use (h27) ?_; conv => whnf)
                  | (refine pc_head (h27) ?_; conv => whnf)
                  | (refine pc_use (h28) ?_; conv => whnf)
                  | (refine pc_head (h28) ?_; conv => whnf)
                  | (refine spine_rd (rd_call rfl rfl (hrR _)) ?_; conv => whnf)
                  | (refine spine_rd (rd_call rfl rfl (hrZ _)) ?_; conv => whnf)
                  | (refine po_head ht1 ?_; conv => whnf)
                  | (refine po_head ht2 ?_; conv => whnf)
                  | (refine pc_use (h27R) ?_; conv => whnf)
                  | (refine pc_head (h27R) ?_; conv => whnf)
                  | (refine pc_use (h27Z) ?_; conv => whnf)
                  | (refine pc_head (h27Z) ?_; conv => whnf)
                  | (rw [flOf_rows]; conv => whnf)
                  | (refine ShhP.mk _ rfl ?_; conv => whnf)
                  | (refine call_walk pok Tryz.func37 chk37 ?_; conv => whnf)
                  | (refine HpP.force ?_; conv => whnf)
                  | (intro t ht; cases t <;> conv => whnf)
                all_goals first | exact fin rfl | (exfalso; simp at ht; done)
        · have hb0 : b ≠ 0 := by rw [hb]; exact hB
          rw [sameD, ← hb, if_neg hb0] at h32
          rw [overD, ← hb, if_neg hb0] at h33
          generalize redRows l (2 * W) = R at *
          have ht1 := theirs18o (G := GG) W R true (by omega) (by omega)
          have h27R := equal27 (G := GG) W W R R false false (by omega)
          rw [decide_eq_true ⟨rfl, rfl⟩] at h27R
          rw [hRl] at ht1
          have hrR : ∀ ρ : Nat → Nat, some (Blk.ren ρ (dblk 4 (R.map Ps.l))) = some (dblk 4 (R.map Ps.l)) := fun ρ => by rw [ren_dblk]
          by_cases hE : entE W ks = 0
          · have hE1 : True := trivial
            have h29 := ent29 (G := GG) (w := W) l false ks u (by omega) (by omega) (by omega) (fun k hk => hks hE k hk) hs.lo hs.hi
            rw [if_neg (fun h => h hE), ent_eq hs hE] at h34
            rw [hE]
            generalize entR W l ks = en at h29 h34
            by_cases hz : n < 1 ∨ n > 12
            · have h30 := zero30o hz
              have h35 := zero35o hz
              have hZl : True := trivial
              conv => whnf
              repeat (refine LookP.mk _ rfl ?_; conv => whnf)
              intro t ht
              cases t
              rotate_left
              · exfalso; first | (simp at ht; done) | (simp at ht; omega)
              conv => whnf
              repeat' first
                | (refine LookP.mk _ (by first | rfl | exact lendA (hrR _) (by simp [hRl, hZl]) | exact lendW (hrR _) (by simp [hRl, hZl])) ?_; conv => whnf)
                | (refine ShlP.mk _ (by first | (simp only [List.set, over, List.take, List.drop, List.append_eq, List.nil_append, List.cons_append, List.length]; rfl) | rfl) ?_; conv => whnf)
                | (refine And.intro (by first | (simp [hRl, hZl]; done) | assumption | exact ⟨by kernel_rfl, rfl⟩ | decide | omega | exact ⟨rfl, by decide, by simp only [List.length_map, Nat.zero_add]; omega⟩) ?_; conv => whnf)
                | (refine beqT ?_; conv => whnf)
                | (refine beqF hb0 ?_; conv => whnf)
                | (refine pc_use (h35) ?_; conv => whnf)
                | (refine pc_head (h35) ?_; conv => whnf)
                | (refine po_use h31 ?_; conv => whnf)
                | (refine pc_use (h30) ?_; conv => whnf)
                | (refine pc_head (h30) ?_; conv => whnf)
                | (refine pc_use (h32) ?_; conv => whnf)
                | (refine pc_head (h32) ?_; conv => whnf)
                | (refine pc_use (h33) ?_; conv => whnf)
                | (refine pc_head (h33) ?_; conv => whnf)
                | (refine pc_use (h34) ?_; conv => whnf)
                | (refine pc_head (h34) ?_; conv => whnf)
                | (refine pc_use (h36) ?_; conv => whnf)
                | (refine pc_head (h36) ?_; conv => whnf)
                | (refine pc_use (hsm) ?_; conv => whnf)
                | (refine pc_head (hsm) ?_; conv => whnf)
                | (refine pc_use (hsm2) ?_; conv => whnf)
                | (refine pc_head (hsm2) ?_; conv => whnf)
                | (refine pc_use (heq) ?_; conv => whnf)
                | (refine pc_head (heq) ?_; conv => whnf)
                | (refine pc_use (awake_c) ?_; conv => whnf)
                | (refine pc_head (awake_c) ?_; conv => whnf)
                | (refine pc_use (h26) ?_; conv => whnf)
                | (refine pc_head (h26) ?_; conv => whnf)
                | (refine pc_use (hth) ?_; conv => whnf)
                | (refine pc_head (hth) ?_; conv => whnf)
                | (refine pc_use (h29) ?_; conv => whnf)
                | (refine pc_head (h29) ?_; conv => whnf)
                | (refine pc_use (alikeE _) ?_; conv => whnf)
                | (refine pc_head (alikeE _) ?_; conv => whnf)
                | (refine spine_rd (rd_call rfl rfl (hrR _)) ?_; conv => whnf)
                | (refine po_head ht1 ?_; conv => whnf)
                | (refine pc_use (h27R) ?_; conv => whnf)
                | (refine pc_head (h27R) ?_; conv => whnf)
                | (rw [flOf_rows]; conv => whnf)
                | (refine ShhP.mk _ rfl ?_; conv => whnf)
                | (refine call_walk pok Tryz.func37 chk37 ?_; conv => whnf)
                | (refine HpP.force ?_; conv => whnf)
                | (intro t ht; cases t <;> conv => whnf)
              all_goals first | exact fin rfl | (exfalso; simp at ht; done)
            · obtain ⟨N, rfl⟩ : ∃ N : Nat, n = N := ⟨n.toNat, by omega⟩
              have h30 := zero30 (w := N) (by omega) (by omega)
              have h35 := zero35p (w := N) ⟨by omega, by omega⟩
              have hZl : (zeroS N).length = N := by simp [zeroS]
              unfold zD at h30
              generalize zeroS N = Z at h30 h35 hZl
              have ht2 := theirs18o (G := GG) N Z false (by omega) (by omega)
              have h27Z := equal27 (G := GG) N N Z Z false false (by omega)
              rw [decide_eq_true ⟨rfl, rfl⟩] at h27Z
              rw [hZl] at ht2
              have hrZ : ∀ ρ : Nat → Nat, some (Blk.ren ρ (dblk 4 (Z.map Ps.l))) = some (dblk 4 (Z.map Ps.l)) := fun ρ => by rw [ren_dblk]
              conv => whnf
              repeat (refine LookP.mk _ rfl ?_; conv => whnf)
              intro t ht
              cases t
              rotate_left
              · exfalso; first | (simp at ht; done) | (simp at ht; omega)
              conv => whnf
              repeat' first
                | (refine LookP.mk _ (by first | rfl | exact lendA (hrR _) (by simp [hRl, hZl]) | exact lendW (hrR _) (by simp [hRl, hZl]) | exact lendA (hrZ _) (by simp [hRl, hZl]) | exact lendW (hrZ _) (by simp [hRl, hZl])) ?_; conv => whnf)
                | (refine ShlP.mk _ (by first | (simp only [List.set, over, List.take, List.drop, List.append_eq, List.nil_append, List.cons_append, List.length]; rfl) | rfl) ?_; conv => whnf)
                | (refine And.intro (by first | (simp [hRl, hZl]; done) | assumption | exact ⟨by kernel_rfl, rfl⟩ | decide | omega | exact ⟨rfl, by decide, by simp only [List.length_map, Nat.zero_add]; omega⟩) ?_; conv => whnf)
                | (refine beqT ?_; conv => whnf)
                | (refine beqF hb0 ?_; conv => whnf)
                | (refine po_use h35 ?_; conv => whnf)
                | (refine po_use h31 ?_; conv => whnf)
                | (refine pc_use (h30) ?_; conv => whnf)
                | (refine pc_head (h30) ?_; conv => whnf)
                | (refine pc_use (h32) ?_; conv => whnf)
                | (refine pc_head (h32) ?_; conv => whnf)
                | (refine pc_use (h33) ?_; conv => whnf)
                | (refine pc_head (h33) ?_; conv => whnf)
                | (refine pc_use (h34) ?_; conv => whnf)
                | (refine pc_head (h34) ?_; conv => whnf)
                | (refine pc_use (h36) ?_; conv => whnf)
                | (refine pc_head (h36) ?_; conv => whnf)
                | (refine pc_use (hsm) ?_; conv => whnf)
                | (refine pc_head (hsm) ?_; conv => whnf)
                | (refine pc_use (hsm2) ?_; conv => whnf)
                | (refine pc_head (hsm2) ?_; conv => whnf)
                | (refine pc_use (heq) ?_; conv => whnf)
                | (refine pc_head (heq) ?_; conv => whnf)
                | (refine pc_use (awake_c) ?_; conv => whnf)
                | (refine pc_head (awake_c) ?_; conv => whnf)
                | (refine pc_use (h26) ?_; conv => whnf)
                | (refine pc_head (h26) ?_; conv => whnf)
                | (refine pc_use (hth) ?_; conv => whnf)
                | (refine pc_head (hth) ?_; conv => whnf)
                | (refine pc_use (h29) ?_; conv => whnf)
                | (refine pc_head (h29) ?_; conv => whnf)
                | (refine spine_rd (rd_call rfl rfl (hrR _)) ?_; conv => whnf)
                | (refine spine_rd (rd_call rfl rfl (hrZ _)) ?_; conv => whnf)
                | (refine po_head ht1 ?_; conv => whnf)
                | (refine po_head ht2 ?_; conv => whnf)
                | (refine pc_use (h27R) ?_; conv => whnf)
                | (refine pc_head (h27R) ?_; conv => whnf)
                | (refine pc_use (h27Z) ?_; conv => whnf)
                | (refine pc_head (h27Z) ?_; conv => whnf)
                | (rw [flOf_rows]; conv => whnf)
                | (refine ShhP.mk _ rfl ?_; conv => whnf)
                | (refine call_walk pok Tryz.func37 chk37 ?_; conv => whnf)
                | (refine HpP.force ?_; conv => whnf)
                | (intro t ht; cases t <;> conv => whnf)
              all_goals first | exact fin rfl | (exfalso; simp at ht; done)
          · have hE1 := hE
            rw [if_pos hE] at h34
            generalize entE W ks = e14 at *
            by_cases hz : n < 1 ∨ n > 12
            · have h30 := zero30o hz
              have h35 := zero35o hz
              have hZl : True := trivial
              conv => whnf
              repeat (refine LookP.mk _ rfl ?_; conv => whnf)
              intro t ht
              cases t
              rotate_left
              · exfalso; first | (simp at ht; done) | (simp at ht; omega)
              conv => whnf
              repeat' first
                | (refine LookP.mk _ (by first | rfl | exact lendA (hrR _) (by simp [hRl, hZl]) | exact lendW (hrR _) (by simp [hRl, hZl])) ?_; conv => whnf)
                | (refine ShlP.mk _ (by first | (simp only [List.set, over, List.take, List.drop, List.append_eq, List.nil_append, List.cons_append, List.length]; rfl) | rfl) ?_; conv => whnf)
                | (refine And.intro (by first | (simp [hRl, hZl]; done) | assumption | exact ⟨by kernel_rfl, rfl⟩ | decide | omega | exact ⟨rfl, by decide, by simp only [List.length_map, Nat.zero_add]; omega⟩) ?_; conv => whnf)
                | (refine beqT ?_; conv => whnf)
                | (refine beqF hb0 ?_; conv => whnf)
                | (refine beqF hE1 ?_; conv => whnf)
                | (refine pc_use (h35) ?_; conv => whnf)
                | (refine pc_head (h35) ?_; conv => whnf)
                | (refine po_use h31 ?_; conv => whnf)
                | (refine pc_use (h30) ?_; conv => whnf)
                | (refine pc_head (h30) ?_; conv => whnf)
                | (refine pc_use (h32) ?_; conv => whnf)
                | (refine pc_head (h32) ?_; conv => whnf)
                | (refine pc_use (h33) ?_; conv => whnf)
                | (refine pc_head (h33) ?_; conv => whnf)
                | (refine pc_use (h34) ?_; conv => whnf)
                | (refine pc_head (h34) ?_; conv => whnf)
                | (refine pc_use (h36) ?_; conv => whnf)
                | (refine pc_head (h36) ?_; conv => whnf)
                | (refine pc_use (hsm) ?_; conv => whnf)
                | (refine pc_head (hsm) ?_; conv => whnf)
                | (refine pc_use (hsm2) ?_; conv => whnf)
                | (refine pc_head (hsm2) ?_; conv => whnf)
                | (refine pc_use (heq) ?_; conv => whnf)
                | (refine pc_head (heq) ?_; conv => whnf)
                | (refine pc_use (awake_c) ?_; conv => whnf)
                | (refine pc_head (awake_c) ?_; conv => whnf)
                | (refine pc_use (h26) ?_; conv => whnf)
                | (refine pc_head (h26) ?_; conv => whnf)
                | (refine pc_use (hth) ?_; conv => whnf)
                | (refine pc_head (hth) ?_; conv => whnf)
                | (refine pc_use (alikeE _) ?_; conv => whnf)
                | (refine pc_head (alikeE _) ?_; conv => whnf)
                | (refine spine_rd (rd_call rfl rfl (hrR _)) ?_; conv => whnf)
                | (refine po_head ht1 ?_; conv => whnf)
                | (refine pc_use (h27R) ?_; conv => whnf)
                | (refine pc_head (h27R) ?_; conv => whnf)
                | (rw [flOf_rows]; conv => whnf)
                | (refine ShhP.mk _ rfl ?_; conv => whnf)
                | (refine call_walk pok Tryz.func37 chk37 ?_; conv => whnf)
                | (refine HpP.force ?_; conv => whnf)
                | (intro t ht; cases t <;> conv => whnf)
              all_goals first | exact fin rfl | (exfalso; simp at ht; done)
            · obtain ⟨N, rfl⟩ : ∃ N : Nat, n = N := ⟨n.toNat, by omega⟩
              have h30 := zero30 (w := N) (by omega) (by omega)
              have h35 := zero35p (w := N) ⟨by omega, by omega⟩
              have hZl : (zeroS N).length = N := by simp [zeroS]
              unfold zD at h30
              generalize zeroS N = Z at h30 h35 hZl
              have ht2 := theirs18o (G := GG) N Z false (by omega) (by omega)
              have h27Z := equal27 (G := GG) N N Z Z false false (by omega)
              rw [decide_eq_true ⟨rfl, rfl⟩] at h27Z
              rw [hZl] at ht2
              have hrZ : ∀ ρ : Nat → Nat, some (Blk.ren ρ (dblk 4 (Z.map Ps.l))) = some (dblk 4 (Z.map Ps.l)) := fun ρ => by rw [ren_dblk]
              conv => whnf
              repeat (refine LookP.mk _ rfl ?_; conv => whnf)
              intro t ht
              cases t
              rotate_left
              · exfalso; first | (simp at ht; done) | (simp at ht; omega)
              conv => whnf
              repeat' first
                | (refine LookP.mk _ (by first | rfl | exact lendA (hrR _) (by simp [hRl, hZl]) | exact lendW (hrR _) (by simp [hRl, hZl]) | exact lendA (hrZ _) (by simp [hRl, hZl]) | exact lendW (hrZ _) (by simp [hRl, hZl])) ?_; conv => whnf)
                | (refine ShlP.mk _ (by first | (simp only [List.set, over, List.take, List.drop, List.append_eq, List.nil_append, List.cons_append, List.length]; rfl) | rfl) ?_; conv => whnf)
                | (refine And.intro (by first | (simp [hRl, hZl]; done) | assumption | exact ⟨by kernel_rfl, rfl⟩ | decide | omega | exact ⟨rfl, by decide, by simp only [List.length_map, Nat.zero_add]; omega⟩) ?_; conv => whnf)
                | (refine beqT ?_; conv => whnf)
                | (refine beqF hb0 ?_; conv => whnf)
                | (refine beqF hE1 ?_; conv => whnf)
                | (refine po_use h35 ?_; conv => whnf)
                | (refine po_use h31 ?_; conv => whnf)
                | (refine pc_use (h30) ?_; conv => whnf)
                | (refine pc_head (h30) ?_; conv => whnf)
                | (refine pc_use (h32) ?_; conv => whnf)
                | (refine pc_head (h32) ?_; conv => whnf)
                | (refine pc_use (h33) ?_; conv => whnf)
                | (refine pc_head (h33) ?_; conv => whnf)
                | (refine pc_use (h34) ?_; conv => whnf)
                | (refine pc_head (h34) ?_; conv => whnf)
                | (refine pc_use (h36) ?_; conv => whnf)
                | (refine pc_head (h36) ?_; conv => whnf)
                | (refine pc_use (hsm) ?_; conv => whnf)
                | (refine pc_head (hsm) ?_; conv => whnf)
                | (refine pc_use (hsm2) ?_; conv => whnf)
                | (refine pc_head (hsm2) ?_; conv => whnf)
                | (refine pc_use (heq) ?_; conv => whnf)
                | (refine pc_head (heq) ?_; conv => whnf)
                | (refine pc_use (awake_c) ?_; conv => whnf)
                | (refine pc_head (awake_c) ?_; conv => whnf)
                | (refine pc_use (h26) ?_; conv => whnf)
                | (refine pc_head (h26) ?_; conv => whnf)
                | (refine pc_use (hth) ?_; conv => whnf)
                | (refine pc_head (hth) ?_; conv => whnf)
                | (refine spine_rd (rd_call rfl rfl (hrR _)) ?_; conv => whnf)
                | (refine spine_rd (rd_call rfl rfl (hrZ _)) ?_; conv => whnf)
                | (refine po_head ht1 ?_; conv => whnf)
                | (refine po_head ht2 ?_; conv => whnf)
                | (refine pc_use (h27R) ?_; conv => whnf)
                | (refine pc_head (h27R) ?_; conv => whnf)
                | (refine pc_use (h27Z) ?_; conv => whnf)
                | (refine pc_head (h27Z) ?_; conv => whnf)
                | (rw [flOf_rows]; conv => whnf)
                | (refine ShhP.mk _ rfl ?_; conv => whnf)
                | (refine call_walk pok Tryz.func37 chk37 ?_; conv => whnf)
                | (refine HpP.force ?_; conv => whnf)
                | (intro t ht; cases t <;> conv => whnf)
              all_goals first | exact fin rfl | (exfalso; simp at ht; done)
      · have hA1 := hA
        have hE1 : True := trivial
        have h31 := canon31 w l false (by omega)
        have hb0 : b ≠ 0 := by rw [hb]; unfold bothS; rw [if_pos hA]; exact hA
        rw [canonD, if_neg hA] at h31
        rw [sameD, ← hb, if_neg hb0] at h32
        rw [overD, ← hb, if_neg hb0] at h33
        rw [entD, if_pos hA] at h34
        rw [if_pos hA]
        generalize chkS w l = e12 at *
        have hRl : True := trivial
        by_cases hz : n < 1 ∨ n > 12
        · have h30 := zero30o hz
          have h35 := zero35o hz
          have hZl : True := trivial
          conv => whnf
          repeat (refine LookP.mk _ rfl ?_; conv => whnf)
          intro t ht
          cases t
          rotate_left
          · exfalso; first | (simp at ht; done) | (simp at ht; omega)
          conv => whnf
          repeat' first
            | (refine LookP.mk _ (by first | rfl) ?_; conv => whnf)
            | (refine ShlP.mk _ (by first | (simp only [List.set, over, List.take, List.drop, List.append_eq, List.nil_append, List.cons_append, List.length]; rfl) | rfl) ?_; conv => whnf)
            | (refine And.intro (by first | (simp [hRl, hZl]; done) | assumption | exact ⟨by kernel_rfl, rfl⟩ | decide | omega | exact ⟨rfl, by decide, by simp only [List.length_map, Nat.zero_add]; omega⟩) ?_; conv => whnf)
            | (refine beqT ?_; conv => whnf)
            | (refine beqF hA1 ?_; conv => whnf)
            | (refine beqF hb0 ?_; conv => whnf)
            | (refine pc_use (h35) ?_; conv => whnf)
            | (refine pc_head (h35) ?_; conv => whnf)
            | (refine pc_use (h31) ?_; conv => whnf)
            | (refine pc_head (h31) ?_; conv => whnf)
            | (refine pc_use (alikeE _) ?_; conv => whnf)
            | (refine pc_head (alikeE _) ?_; conv => whnf)
            | (refine pc_use (h30) ?_; conv => whnf)
            | (refine pc_head (h30) ?_; conv => whnf)
            | (refine pc_use (h32) ?_; conv => whnf)
            | (refine pc_head (h32) ?_; conv => whnf)
            | (refine pc_use (h33) ?_; conv => whnf)
            | (refine pc_head (h33) ?_; conv => whnf)
            | (refine pc_use (h34) ?_; conv => whnf)
            | (refine pc_head (h34) ?_; conv => whnf)
            | (refine pc_use (h36) ?_; conv => whnf)
            | (refine pc_head (h36) ?_; conv => whnf)
            | (refine pc_use (hsm) ?_; conv => whnf)
            | (refine pc_head (hsm) ?_; conv => whnf)
            | (refine pc_use (hsm2) ?_; conv => whnf)
            | (refine pc_head (hsm2) ?_; conv => whnf)
            | (refine pc_use (heq) ?_; conv => whnf)
            | (refine pc_head (heq) ?_; conv => whnf)
            | (refine pc_use (awake_c) ?_; conv => whnf)
            | (refine pc_head (awake_c) ?_; conv => whnf)
            | (refine HpP.force ?_; conv => whnf)
            | (intro t ht; cases t <;> conv => whnf)
          all_goals first | exact fin rfl | (exfalso; simp at ht; done)
        · obtain ⟨N, rfl⟩ : ∃ N : Nat, n = N := ⟨n.toNat, by omega⟩
          have h30 := zero30 (w := N) (by omega) (by omega)
          have h35 := zero35p (w := N) ⟨by omega, by omega⟩
          have hZl : (zeroS N).length = N := by simp [zeroS]
          unfold zD at h30
          generalize zeroS N = Z at h30 h35 hZl
          have ht2 := theirs18o (G := GG) N Z false (by omega) (by omega)
          have h27Z := equal27 (G := GG) N N Z Z false false (by omega)
          rw [decide_eq_true ⟨rfl, rfl⟩] at h27Z
          rw [hZl] at ht2
          have hrZ : ∀ ρ : Nat → Nat, some (Blk.ren ρ (dblk 4 (Z.map Ps.l))) = some (dblk 4 (Z.map Ps.l)) := fun ρ => by rw [ren_dblk]
          conv => whnf
          repeat (refine LookP.mk _ rfl ?_; conv => whnf)
          intro t ht
          cases t
          rotate_left
          · exfalso; first | (simp at ht; done) | (simp at ht; omega)
          conv => whnf
          repeat' first
            | (refine LookP.mk _ (by first | rfl | exact lendA (hrZ _) (by simp [hRl, hZl]) | exact lendW (hrZ _) (by simp [hRl, hZl])) ?_; conv => whnf)
            | (refine ShlP.mk _ (by first | (simp only [List.set, over, List.take, List.drop, List.append_eq, List.nil_append, List.cons_append, List.length]; rfl) | rfl) ?_; conv => whnf)
            | (refine And.intro (by first | (simp [hRl, hZl]; done) | assumption | exact ⟨by kernel_rfl, rfl⟩ | decide | omega | exact ⟨rfl, by decide, by simp only [List.length_map, Nat.zero_add]; omega⟩) ?_; conv => whnf)
            | (refine beqT ?_; conv => whnf)
            | (refine beqF hA1 ?_; conv => whnf)
            | (refine beqF hb0 ?_; conv => whnf)
            | (refine po_use h35 ?_; conv => whnf)
            | (refine pc_use (h31) ?_; conv => whnf)
            | (refine pc_head (h31) ?_; conv => whnf)
            | (refine pc_use (alikeE _) ?_; conv => whnf)
            | (refine pc_head (alikeE _) ?_; conv => whnf)
            | (refine pc_use (h30) ?_; conv => whnf)
            | (refine pc_head (h30) ?_; conv => whnf)
            | (refine pc_use (h32) ?_; conv => whnf)
            | (refine pc_head (h32) ?_; conv => whnf)
            | (refine pc_use (h33) ?_; conv => whnf)
            | (refine pc_head (h33) ?_; conv => whnf)
            | (refine pc_use (h34) ?_; conv => whnf)
            | (refine pc_head (h34) ?_; conv => whnf)
            | (refine pc_use (h36) ?_; conv => whnf)
            | (refine pc_head (h36) ?_; conv => whnf)
            | (refine pc_use (hsm) ?_; conv => whnf)
            | (refine pc_head (hsm) ?_; conv => whnf)
            | (refine pc_use (hsm2) ?_; conv => whnf)
            | (refine pc_head (hsm2) ?_; conv => whnf)
            | (refine pc_use (heq) ?_; conv => whnf)
            | (refine pc_head (heq) ?_; conv => whnf)
            | (refine pc_use (awake_c) ?_; conv => whnf)
            | (refine pc_head (awake_c) ?_; conv => whnf)
            | (refine spine_rd (rd_call rfl rfl (hrZ _)) ?_; conv => whnf)
            | (refine po_head ht2 ?_; conv => whnf)
            | (refine pc_use (h27Z) ?_; conv => whnf)
            | (refine pc_head (h27Z) ?_; conv => whnf)
            | (rw [flOf_rows]; conv => whnf)
            | (refine ShhP.mk _ rfl ?_; conv => whnf)
            | (refine call_walk pok Tryz.func37 chk37 ?_; conv => whnf)
            | (refine HpP.force ?_; conv => whnf)
            | (intro t ht; cases t <;> conv => whnf)
          all_goals first | exact fin rfl | (exfalso; simp at ht; done)
end Go.Tz


/-! The law StabChecks, any sizes. -/
namespace Go.Tz
open Go Go.AL Go.Proofs Go.Ma
theorem checks4 (w : Int) (l : List Ps) (t : Bool) (w' : Int) (l' : List Ps) (t' : Bool) (ks : List Int) (u : Bool) (n : Int) : PC Pr GG 4 [stD w l t, stD w' l' t', intsD ks u, iD n] (.bool true) := by
  by_cases h : l.length ≤ 20 ∧ l'.length ≤ 20 ∧ ks.length ≤ 20
  · exact sc4 w l t w' l' t' ks u n h.1 h.2.1 h.2.2
  · refine pc_walk pok Tryz.func4 chk4 ?_
    conv => whnf
    repeat' first
      | (refine LookP.mk _ rfl ?_; conv => whnf)
      | (refine ShlP.mk _ (by first | (simp only [List.set, over, List.take, List.drop, List.append_eq, List.nil_append, List.cons_append, List.length]; rfl) | rfl) ?_; conv => whnf)
      | (refine And.intro (by first | assumption | exact ⟨by kernel_rfl, rfl⟩ | decide | omega | exact ⟨rfl, by decide, by simp only [List.length_map, Nat.zero_add]; omega⟩) ?_; conv => whnf)
      | (refine pc_use (awake_c) ?_; conv => whnf)
      | (refine pc_head (awake_c) ?_; conv => whnf)
      | (refine HpP.force ?_; conv => whnf)
      | (intro t ht; cases t <;> conv => whnf)
    all_goals first | exact fin rfl | skip
    all_goals (exfalso; rename_i c1 c2; simp at ht c1 c2; omega)
end Go.Tz


/-! Arguments of the card, opened. -/
namespace Go.Tz
open Go Go.AL Go.Proofs Go.ChangeShapes Go.WideShapes Go.ChangeAt Go.RowKit Go.Deep
variable {H : Type} {enc : TypeId × Value → H} {W : World} {spare : Nat → Bool} {held : Bool}
theorem cell_lt {b o : Nat} {v : Value} (h : W.cell? ⟨b, o, none⟩ = some v) : b < W.heap.size := by
  refine Classical.byContradiction fun hn => ?_
  have : W.heap[b]? = none := Array.getElem?_eq_none (by omega)
  unfold World.cell? at h
  simp [this] at h
/-- The cells of a string. -/
def Ps.v (q : Ps) (j : Nat) : Value := match j with
  | 0 => .int .i64 q.w
  | 1 => .int .i64 q.x
  | 2 => .int .i64 q.z
  | _ => .int .i64 q.p
instance : Inhabited Ps := ⟨Ps.z0⟩
theorem list4 {α : Type} : ∀ {l : List α}, l.length = 4 → ∃ a b c d, l = [a, b, c, d]
  | [a, b, c, d], _ => ⟨a, b, c, d, rfl⟩
theorem list2 {α : Type} : ∀ {l : List α}, l.length = 2 → ∃ a b, l = [a, b]
  | [a, b], _ => ⟨a, b, rfl⟩
theorem ps_open {fuel : Nat} {cs : List Value} {x : DataW H × List MemPlace} (h : DataW.trod enc Pr W 0 spare held fuel 69 cs = some x) : ∃ q : Ps, cs = [q.v 0, q.v 1, q.v 2, q.v 3] := by
  obtain ⟨xs, n, _, _, hl, hlen, hf⟩ := DataW.trod_struct Tryz.underlying69 h
  have c69 : Pr.cellsOf 69 = 4 := by kernel_rfl
  have c3 : Pr.cellsOf 3 = 1 := by kernel_rfl
  rw [c69] at hl
  have h0 : DataW.trod enc Pr W 0 spare held n 3 ((cs.drop 0).take (Pr.cellsOf 3)) = xs[0]? := hf 0 ⟨ "Wires", 3, 0, false, "", "", 0⟩ rfl
  have h1 : DataW.trod enc Pr W 0 spare held n 3 ((cs.drop 1).take (Pr.cellsOf 3)) = xs[1]? := hf 1 ⟨ "X", 3, 1, false, "", "", 8⟩ rfl
  have h2 : DataW.trod enc Pr W 0 spare held n 3 ((cs.drop 2).take (Pr.cellsOf 3)) = xs[2]? := hf 2 ⟨ "Z", 3, 2, false, "", "", 16⟩ rfl
  have h3 : DataW.trod enc Pr W 0 spare held n 3 ((cs.drop 3).take (Pr.cellsOf 3)) = xs[3]? := hf 3 ⟨ "Phase", 3, 3, false, "", "", 24⟩ rfl
  rw [c3] at h0 h1 h2 h3
  obtain ⟨x0, x1, x2, x3, rfl⟩ := list4 hlen
  obtain ⟨a, b, c, d, rfl⟩ := list4 hl
  obtain ⟨n0, e0, _⟩ := DataW.trod_int Tryz.underlying3 (show DataW.trod enc Pr W 0 spare held n 3 [a] = some x0 from h0)
  obtain ⟨n1, e1, _⟩ := DataW.trod_int Tryz.underlying3 (show DataW.trod enc Pr W 0 spare held n 3 [b] = some x1 from h1)
  obtain ⟨n2, e2, _⟩ := DataW.trod_int Tryz.underlying3 (show DataW.trod enc Pr W 0 spare held n 3 [c] = some x2 from h2)
  obtain ⟨n3, e3, _⟩ := DataW.trod_int Tryz.underlying3 (show DataW.trod enc Pr W 0 spare held n 3 [d] = some x3 from h3)
  cases e0; cases e1; cases e2; cases e3
  exact ⟨⟨n0, n1, n2, n3⟩, rfl⟩
theorem rows_open {fuel : Nat} {cs : List Value} {x : DataW H × List MemPlace} (h : DataW.trod enc Pr W 0 spare held fuel 22 cs = some x) : ∃ (l : List Ps) (v : Value), cs = [v] ∧ DRel W (fun k => k < W.heap.size) (rowsD l false) v := by
  rcases open_slice Tryz.underlying22 h with ⟨rfl, _⟩ | ⟨a, len, cap, m, n, D, Pl, rfl, _, hl, _, hm, _, hx⟩
  · exact ⟨[], _, rfl, .sl0 _ _ _ (fun h => by cases h)⟩
  have c69 : Pr.cellsOf 69 = 4 := by kernel_rfl
  rw [c69] at hx
  have hlm : len ≤ m := by rw [hm]; split <;> omega
  have hq : ∀ i, i < len → ∃ q : Ps, ∀ j, j < 4 → W.cell? ((a.add (i * 4)).add j) = some (q.v j) := fun i hi => by
    obtain ⟨cs', h1, h2⟩ := hx i (by omega)
    obtain ⟨q, rfl⟩ := ps_open h2
    obtain ⟨_, _, h3⟩ := World.cells?_some h1
    refine ⟨q, fun j hj => ?_⟩
    rw [h3 j hj]
    match j, hj with
    | 0, _ => rfl
    | 1, _ => rfl
    | 2, _ => rfl
    | 3, _ => rfl
  obtain ⟨q, hq⟩ := choose_lt hq
  obtain ⟨b, o, s⟩ := a
  by_cases hz : len = 0
  · subst hz
    exact ⟨[], _, rfl, .sl0 _ _ _ (fun h => by cases h)⟩
  have hs : s = none := by
    have := World.cell?_spot (hq 0 (by omega) 0 (by decide))
    simpa [Addr.add] using this
  subst hs
  have hcell : ∀ i j, i < len → j < 4 → W.cell? ⟨b, o + i * 4 + j, none⟩ = some ((q i).v j) := fun i j hi hj => by
    have := hq i hi j hj
    rwa [add_plain, add_plain] at this
  have hb : b < W.heap.size := cell_lt (hcell 0 0 (by omega) (by decide))
  refine ⟨(List.range len).map q, _, rfl, ?_⟩
  have key := DRel.sl (w := W) (RO := fun k => k < W.heap.size) (((List.range len).map q).map Ps.l) false b o cap 4 (fun i j => (q i).v j) hb (by simpa using hl) (fun h => by cases h) (rows_len _)
    (fun i j el d h1 h2 => by
      have hi : i < len := by
        have := (List.getElem?_eq_some_iff.1 h1).1
        simpa using this
      have hel := rows_len ((List.range len).map q) el (List.mem_of_getElem? h1)
      have hj : j < 4 := by
        have := (List.getElem?_eq_some_iff.1 h2).1
        omega
      exact hcell i j hi hj)
    (fun i j el d h1 h2 => by
      have hi : i < len := by
        have := (List.getElem?_eq_some_iff.1 h1).1
        simpa using this
      have he : el = (q i).l := by
        simp [hi] at h1
        exact h1.symm
      subst he
      match j, h2 with
      | 0, h2 => cases h2; exact .int _ _
      | 1, h2 => cases h2; exact .int _ _
      | 2, h2 => cases h2; exact .int _ _
      | 3, h2 => cases h2; exact .int _ _
      | j + 4, h2 => simp [Ps.l] at h2)
  have e : (((List.range len).map q).map Ps.l).length = len := by simp
  rw [e] at key
  exact key
theorem ints_open {fuel : Nat} {cs : List Value} {x : DataW H × List MemPlace} (h : DataW.trod enc Pr W 0 spare held fuel 42 cs = some x) : ∃ (l : List Int) (v : Value), cs = [v] ∧ DRel W (fun k => k < W.heap.size) (intsD l false) v := by
  have c3 : Pr.cellsOf 3 = 1 := by kernel_rfl
  rcases open_slice1 Tryz.underlying42 c3 h with ⟨rfl, _⟩ | ⟨a, len, cap, m, n, V, D, Pl, rfl, _, hl, _, hm, _, hx⟩
  · exact ⟨[], _, rfl, .sl0 _ _ _ (fun h => by cases h)⟩
  have hlm : len ≤ m := by rw [hm]; split <;> omega
  have hq : ∀ i, i < len → ∃ k : Int, W.cell? (a.add i) = some (.int .i64 k) := fun i hi => by
    obtain ⟨h1, h2⟩ := hx i (by omega)
    obtain ⟨k, e, _⟩ := DataW.trod_int Tryz.underlying3 h2
    exact ⟨k, by rw [h1, (List.cons.inj e).1]⟩
  obtain ⟨q, hq⟩ := choose_lt hq
  obtain ⟨b, o, s⟩ := a
  by_cases hz : len = 0
  · subst hz
    exact ⟨[], _, rfl, .sl0 _ _ _ (fun h => by cases h)⟩
  have hs : s = none := by
    have := World.cell?_spot (hq 0 (by omega))
    simpa [Addr.add] using this
  subst hs
  have hcell : ∀ i, i < len → W.cell? ⟨b, o + i, none⟩ = some (.int .i64 (q i)) := fun i hi => by
    have := hq i hi
    rwa [add_plain] at this
  have hb : b < W.heap.size := cell_lt (hcell 0 (by omega))
  refine ⟨(List.range len).map q, _, rfl, ?_⟩
  have key := DRel.sl (w := W) (RO := fun k => k < W.heap.size) (((List.range len).map q).map fun k => [iD k]) false b o cap 1 (fun i _ => .int .i64 (q i)) hb (by simpa using hl) (fun h => by cases h) (fun el hel => by obtain ⟨k, _, rfl⟩ := List.mem_map.1 hel; rfl)
    (fun i j el d h1 h2 => by
      have hi : i < len := by
        have := (List.getElem?_eq_some_iff.1 h1).1
        simpa using this
      have hel : el.length = 1 := by obtain ⟨k, _, rfl⟩ := List.mem_map.1 (List.mem_of_getElem? h1); rfl
      have hj : j = 0 := by
        have := (List.getElem?_eq_some_iff.1 h2).1
        omega
      subst hj
      have := hcell i hi
      rw [Nat.mul_one, Nat.add_zero]; exact this)
    (fun i j el d h1 h2 => by
      have hi : i < len := by
        have := (List.getElem?_eq_some_iff.1 h1).1
        simpa using this
      have he : el = [iD (q i)] := by
        simp [hi] at h1
        exact h1.symm
      subst he
      match j, h2 with
      | 0, h2 => cases h2; exact .int _ _
      | j + 1, h2 => simp at h2)
  have e : (((List.range len).map q).map fun k => [iD k]).length = len := by simp
  rw [e] at key
  exact key
theorem st_open {v : Value} {d : DataW H} {ps : List MemPlace} (hval : ∃ cs, v = .agg cs) (h : DataW.Trod enc Pr W 0 spare held 24 v d ps) : ∃ (w : Int) (l : List Ps), DRel W (fun k => k < W.heap.size) (stD w l false) v := by
  obtain ⟨cs, rfl⟩ := hval
  obtain ⟨fuel, hf⟩ := h
  obtain ⟨y0, y1, n, _, hl, h0, h1⟩ := trod_struct2 Tryz.underlying24 hf
  have c24 : Pr.cellsOf 24 = 2 := by kernel_rfl
  have c3 : Pr.cellsOf 3 = 1 := by kernel_rfl
  have c22 : Pr.cellsOf 22 = 1 := by kernel_rfl
  rw [c24] at hl
  obtain ⟨l0⟩ := cs
  have hl : l0.length = 2 := hl
  obtain ⟨a, b, rfl⟩ := list2 hl
  have h0 : DataW.trod enc Pr W 0 spare held n 3 (([a, b].drop 0).take (Pr.cellsOf 3)) = some y0 := h0
  have h1 : DataW.trod enc Pr W 0 spare held n 22 (([a, b].drop 1).take (Pr.cellsOf 22)) = some y1 := h1
  rw [c3] at h0
  rw [c22] at h1
  have h0 : DataW.trod enc Pr W 0 spare held n 3 [a] = some y0 := h0
  have h1 : DataW.trod enc Pr W 0 spare held n 22 [b] = some y1 := h1
  obtain ⟨w, e, _⟩ := DataW.trod_int Tryz.underlying3 h0
  obtain ⟨l, u, e2, hd⟩ := rows_open h1
  cases e; cases e2
  refine ⟨w, l, .agg _ _ rfl fun i d hi => ?_⟩
  match i, hi with
  | 0, hi => cases hi; exact .int _ _
  | 1, hi => cases hi; exact hd
  | i + 2, hi => simp at hi
end Go.Tz


/-! What the tables hold, by the card's condition. -/
namespace Go.Tz
open Go Go.AL Go.Proofs Go.ChangeShapes Go.WideShapes Go.ChangeAt Go.RowKit Go.Deep
variable {H : Type} {enc : TypeId × Value → H} {W : World} {spare : Nat → Bool} {held : Bool}
abbrev laid2 : List (String × DataW Unit) := [("math/bits.deBruijn32tab", YtehjjpbpdfnnfaaGreatDoor.Rows.laid_math_bits_deBruijn32tab), ("math/bits.deBruijn64tab", YtehjjpbpdfnnfaaGreatDoor.Rows.laid_math_bits_deBruijn64tab)]
theorem g1 : Pr.globalNamed "math/bits.deBruijn32tab" = some 1 := by kernel_rfl
theorem g2 : Pr.globalNamed "math/bits.deBruijn64tab" = some 2 := by kernel_rfl
theorem ints_arr {t N : Nat} {fuel : Nat} {cs : List Value} {x : DataW H × List MemPlace} {ks : List Int} (ht : Pr.underlying t = some (.array N 5)) (h : DataW.trod enc Pr W 0 spare held fuel t cs = some x) (hx : x.1 = .agg (ks.map fun k : Int => DataW.lit (Lit.int .u8 k))) :
    ∀ (j : Nat) (k : Int), ks[j]? = some k → cs[j]? = some (Value.int .u8 k) := by
  obtain ⟨xs, m, _, rfl, hl, hn, hel⟩ := DataW.trod_array ht h
  have c5 : Pr.cellsOf 5 = 1 := by kernel_rfl
  have u5 : Pr.underlying 5 = some (.int .u8) := by kernel_rfl
  intro j k hk
  have hxe : xs.map (·.1) = ks.map fun k => DataW.lit (Lit.int .u8 k) := by
    simpa using hx
  have hj : j < xs.length := by
    have h1 := (List.getElem?_eq_some_iff.1 hk).1
    have h2 := congrArg List.length hxe
    simp at h2; omega
  have h0 := hel j (by omega)
  rw [c5, Nat.mul_one, List.getElem?_eq_getElem hj] at h0
  obtain ⟨n, e1, e2, _⟩ := DataW.trod_int u5 h0
  have h3 : (xs[j]).1 = DataW.lit (Lit.int .u8 k) := by
    have := congrArg (fun l => l[j]?) hxe
    simp only [List.getElem?_map, List.getElem?_eq_getElem hj, hk, Option.map_some] at this
    exact Option.some.inj this
  rw [e2] at h3
  have hnk : n = k := by cases h3; rfl
  subst hnk
  have h4 := congrArg (fun l : List Value => l[0]?) e1
  simp only [List.getElem?_take, List.getElem?_drop] at h4
  simpa using h4
def k32 : List Int := tab32.map fun d => match d with
  | .int _ n => n
  | _ => 0
def k64 : List Int := tab64.map fun d => match d with
  | .int _ n => n
  | _ => 0
theorem d32 : (YtehjjpbpdfnnfaaGreatDoor.Rows.laid_math_bits_deBruijn32tab : DataW H) = .agg (k32.map fun k : Int => DataW.lit (Lit.int .u8 k)) := rfl
theorem d64 : (YtehjjpbpdfnnfaaGreatDoor.Rows.laid_math_bits_deBruijn64tab : DataW H) = .agg (k64.map fun k : Int => DataW.lit (Lit.int .u8 k)) := rfl
theorem t32 : tab32 = k32.map fun k => .int .u8 k := rfl
theorem t64 : tab64 = k64.map fun k => .int .u8 k := rfl
theorem rop_of {RO : Nat → Prop} {g : Nat} (hg : RO g) {ks : List Int} (h : ∀ (j : Nat) (k : Int), ks[j]? = some k → W.cell? ⟨g, j, none⟩ = some (Value.int .u8 k)) : DRel W RO (.rop (ks.map fun k => .int .u8 k) 0) (.pointer (some ⟨g, 0, none⟩)) := by
  have := DRel.rop (w := W) (RO := RO) (ks.map fun k => D.int .u8 k) 0 g 0 (fun j => .int .u8 (ks.getD j 0)) hg (fun j d hd => by
    rw [List.getElem?_map, Option.map_eq_some_iff] at hd
    obtain ⟨k, hk, rfl⟩ := hd
    rw [Nat.zero_add, h j k hk, List.getD_eq_getElem?_getD, hk]; rfl) (fun j d hd => by
    rw [List.getElem?_map, Option.map_eq_some_iff] at hd
    obtain ⟨k, hk, rfl⟩ := hd
    rw [List.getD_eq_getElem?_getD, hk]
    exact .int _ _)
  exact this
/-- The condition of the card gives the tables. -/
theorem glob_of (h : laidMetH Pr laid2 W) : ∀ g ds, GG g = some ds → DRel W (fun k => k < W.heap.size) (.rop ds 0) (.pointer (some ⟨g, 0, none⟩)) := by
  rw [MakeChecks.laidMetH_plain _ _ _ (by kernel_rfl)] at h
  obtain ⟨ps, ⟨g0, t0, cs0, f0, p0, q0, hg0, ht0, hv0, hd0, ⟨h1g, h1t, cs1, f1, p1, q1, hg1, ht1, hv1, hd1, _, _⟩, _⟩, _, _⟩ := h
  obtain rfl := Option.some.inj (g1.symm.trans hg0)
  obtain rfl := Option.some.inj (g2.symm.trans hg1)
  have u1 : (Pr.globals[1]?).map (·.type) = some 312 := by kernel_rfl
  have u2 : (Pr.globals[2]?).map (·.type) = some 313 := by kernel_rfl
  have v1 : Pr.underlying 312 = some (.array 32 5) := by kernel_rfl
  have v2 : Pr.underlying 313 = some (.array 64 5) := by kernel_rfl
  have w1 : (312 : Nat) = t0 := Option.some.inj (u1.symm.trans ht0)
  have w2 : (313 : Nat) = h1t := Option.some.inj (u2.symm.trans ht1)
  rw [w1] at v1
  rw [w2] at v2
  have c0 := ints_arr (ks := k32) v1 hd0 d32
  have c1 := ints_arr (ks := k64) v2 hd1 d64
  have e0 : ∀ (j : Nat) (k : Int), k32[j]? = some k → W.cell? ⟨1, j, none⟩ = some (Value.int .u8 k) := fun j k hk => by
    rw [World.var?_cell hg0 hv0 j]
    have := c0 j k hk
    rwa [Array.getElem?_toList] at this
  have e1 : ∀ (j : Nat) (k : Int), k64[j]? = some k → W.cell? ⟨2, j, none⟩ = some (Value.int .u8 k) := fun j k hk => by
    rw [World.var?_cell hg1 hv1 j]
    have := c1 j k hk
    rwa [Array.getElem?_toList] at this
  have r1 := rop_of (RO := fun k => k < W.heap.size) (cell_lt (e0 0 0 rfl)) e0
  have r2 := rop_of (RO := fun k => k < W.heap.size) (cell_lt (e1 0 0 rfl)) e1
  intro g ds hg
  unfold GG at hg
  split at hg
  · rename_i e
    obtain rfl := Nat.eq_of_beq_eq_true e
    cases hg
    exact r1
  · split at hg
    · rename_i e
      obtain rfl := Nat.eq_of_beq_eq_true e
      cases hg
      exact r2
    · cases hg
end Go.Tz

