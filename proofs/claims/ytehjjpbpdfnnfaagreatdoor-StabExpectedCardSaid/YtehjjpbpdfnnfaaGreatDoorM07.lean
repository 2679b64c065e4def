import Derived.Test.YtehjjpbpdfnnfaaGreatDoorM06
namespace Go.Tz
open Go Go.AL Go.Proofs Go.Ma
theorem chk10 : chkFn Tryz.f10 = true := by kernel_rfl
set_option maxHeartbeats 8000000 in
theorem expected10 (bs : List Int) (t : Bool) (x : Int) (hx0 : 0 ≤ x) (hx1 : x < 256) : PC Pr GK 10 [bytesD bs t, .int .u8 x] (.bool true) := by
 have c15 := up awake_c
 refine pc_walk pok Tryz.func10 chk10 ?_
 conv => whnf
 repeat' first | ((first | refine LookP.mk _ rfl ?_ | refine ShlP.mk _ (by first | (simp only [List.set, over, List.take, List.drop, List.append_eq, List.nil_append, List.cons_append, List.length]; rfl) | rfl) ?_ | refine And.intro (by first | assumption | exact ⟨by kernel_rfl, rfl⟩ | decide | omega | exact ⟨rfl, by decide, by simp only [List.length_map, Nat.zero_add]; omega⟩) ?_ | refine HpP.force ?_); conv => whnf) | (intro t ht; cases t <;> conv => whnf)
 refine of_use ?_
 intro b u hb
 conv => whnf
 repeat' first | ((first | refine LookP.mk _ rfl ?_ | refine ShlP.mk _ (by first | (simp only [List.set, over, List.take, List.drop, List.append_eq, List.nil_append, List.cons_append, List.length]; rfl) | rfl) ?_ | refine And.intro (by first | assumption | exact ⟨by kernel_rfl, rfl⟩ | decide | omega | exact ⟨rfl, by decide, by simp only [List.length_map, Nat.zero_add]; omega⟩) ?_ | refine HpP.force ?_); conv => whnf) | (intro t ht; cases t <;> conv => whnf)
 have k1 := (sc63 b u 1 8 (by decide) (by omega) (by decide) (by decide)).k
 refine sk_use (nx := 0) (st := 2463534242) k1 (by decide) (by decide) rfl ?_
 intro w st1 nx1 b1 hw8
 conv => whnf
 repeat' first | ((first | refine LookP.mk _ rfl ?_ | refine ShlP.mk _ (by first | (simp only [List.set, over, List.take, List.drop, List.append_eq, List.nil_append, List.cons_append, List.length]; rfl) | rfl) ?_ | refine And.intro (by first | assumption | exact ⟨by kernel_rfl, rfl⟩ | decide | omega | exact ⟨rfl, by decide, by simp only [List.length_map, Nat.zero_add]; omega⟩) ?_ | refine HpP.force ?_); conv => whnf) | (intro t ht; cases t <;> conv => whnf)
 have hw : 1 ≤ w ∧ w ≤ 12 := ⟨hw8.1, by omega⟩
 have k2 := sk64 b u w 24 hw (by decide) (by omega)
 refine sk_use (nx := nx1) (st := st1) k2 (by decide) (by omega) rfl ?_
 rintro ⟨l, lt⟩ st2 nx2 b2 hs
 dsimp only at hs ⊢
 have hlen := hs.len
 conv => whnf
 repeat' first | ((first | refine LookP.mk _ rfl ?_ | refine ShlP.mk _ (by first | (simp only [List.set, over, List.take, List.drop, List.append_eq, List.nil_append, List.cons_append, List.length]; rfl) | rfl) ?_ | refine And.intro (by first | assumption | exact ⟨by kernel_rfl, rfl⟩ | decide | omega | exact ⟨rfl, by decide, by simp only [List.length_map, Nat.zero_add]; omega⟩) ?_ | refine HpP.force ?_); conv => whnf) | (intro t ht; cases t <;> conv => whnf)
 refine loop_use2 (σ := { s : Nat × Ps // s.1 ≤ l.length ∧ InG w l s.2 }) (fun s => ⟨[(1, .d (.int .u8 x)), (5, .ptr 0 3 0 0), (6, .d (iD w)), (7, .ptr 70 2 0 0), (9, .ptr 71 4 0 0), (10, .d (iD 0)), (45, .d (rowsD l lt)), (46, .d (iD (l.map Ps.l).length)), (47, .d (iD s.1.1))], [(0, some (storeB b u nx2 st2)), (70, some (.arr 2 [[.d (iD w), .d (rowsD l lt)]])), (71, some (.arr 4 [s.1.2.l.map AV.d]))], 72⟩) (fun s => l.length - s.1.1) ⟨(0, mk w 0 0 0), Nat.zero_le _, ing_one w l⟩ ?_ (by kernel_rfl) ?_
 ·refine keep_env (by first | exact Nat.zero_le _ | exact Nat.le_of_ble_eq_true rfl) ?_ ?_ trivial
  ·repeat' first | exact trivial | refine ⟨⟨by first | rfl | assumption, rfl⟩, ?_⟩
  ·repeat' first | exact trivial | refine ⟨⟨ltB rfl, _, rfl, by first | rfl | assumption, by first | exact below1 rfl | exact below_dblk _ _ _ | exact below_arr rfl⟩, ?_⟩
 ·rintro ⟨⟨i, p⟩, h1, h2⟩ A hA
  dsimp only at h1 h2 hA ⊢
  have e1 : iadd .i64 (i : Int) 1 = ((i + 1 : Nat) : Int) := iadd_nat (b := 1) (by omega)
  have hiw : (0 : Int) ≤ (i : Int) := Int.natCast_nonneg _
  by_cases hi : i < l.length
  ·have hg := get_l hi
   have hq : l[i] ∈ l := List.getElem_mem hi
   have c1 := mul66v hw h2.1 (hs.vl _ hq)
   have hn := ing_mul hs h2 hq
   generalize timS p l[i] = r at c1 hn
   generalize l[i] = q at c1 hg
   conv => whnf
   repeat (refine LookP.mk _ rfl ?_; conv => whnf)
   intro t ht
   cases t
   ·exfalso; first | (simp at ht; done) | (simp at ht; omega)
   conv => whnf
   repeat' first | ((first | refine LookP.mk _ (by first | rfl | exact hg) ?_ | refine ShlP.mk _ (by first | (simp only [List.set, over, List.take, List.drop, List.append_eq, List.nil_append, List.cons_append, List.length]; rfl) | rfl) ?_ | refine And.intro (by first | exact hiw | assumption | exact ⟨by kernel_rfl, rfl⟩ | decide | omega | exact ⟨rfl, by decide, by simp only [List.length_map, Nat.zero_add]; omega⟩) ?_ | refine pc_use c1 ?_ | refine pc_head c1 ?_ | refine HpP.force ?_); conv => whnf) | (intro t ht; cases t <;> conv => whnf)
   ·refine hA _ ⟨(i + 1, p), hi, h2⟩ ?_ (by show l.length - (i + 1) < l.length - i; omega)
    refine keep_env (by first | exact Nat.zero_le _ | exact Nat.le_of_ble_eq_true rfl) ?_ ?_ trivial
    ·repeat' first | exact trivial | refine ⟨⟨by first | rfl | assumption | exact congrArg (fun n => AV.d (iD n)) e1, rfl⟩, ?_⟩
    ·repeat' first | exact trivial | refine ⟨⟨ltB rfl, _, rfl, by first | rfl | assumption, by first | exact below1 rfl | exact below_dblk _ _ _ | exact below_arr rfl⟩, ?_⟩
   ·exfalso; simp at ht
   ·refine hA _ ⟨(i + 1, r), hi, hn⟩ ?_ (by show l.length - (i + 1) < l.length - i; omega)
    refine keep_env (by first | exact Nat.zero_le _ | exact Nat.le_of_ble_eq_true rfl) ?_ ?_ trivial
    ·repeat' first | exact trivial | refine ⟨⟨by first | rfl | assumption | exact congrArg (fun n => AV.d (iD n)) e1, rfl⟩, ?_⟩
    ·repeat' first | exact trivial | refine ⟨⟨ltB rfl, _, rfl, by first | rfl | assumption, by first | exact below1 rfl | exact below_dblk _ _ _ | exact below_arr rfl⟩, ?_⟩
  ·conv => whnf
   repeat (refine LookP.mk _ rfl ?_; conv => whnf)
   intro t ht
   cases t
   rotate_left
   ·exfalso; first | (simp at ht; done) | (simp at ht; omega)
   conv => whnf
   obtain ⟨r, r1, r2, r3⟩ := turn_ok hs.hi h2.1
   obtain ⟨a1, a2⟩ := ing_exp hs h2
   obtain ⟨a3, a4⟩ := turn_exp hs h2 r1 r2
   have cP := ex_data hs h2.1 a1 lt a2
   have cR := ex_data hs r1 a3 lt a4
   have cR : PC Pr GK 48 [stD w l lt, .agg [iD p.w, iD p.x, iD p.z, iD ((iadd .i64 p.p 2).tmod 4)]] (.tup [iD (-1), iD 0]) := by
    rw [← r3]; exact cR
   repeat' first | ((first | refine LookP.mk _ rfl ?_ | refine ShlP.mk _ (by first | (simp only [List.set, over, List.take, List.drop, List.append_eq, List.nil_append, List.cons_append, List.length]; rfl) | rfl) ?_ | refine And.intro (by first | assumption | exact ⟨by kernel_rfl, rfl⟩ | decide | omega | exact ⟨rfl, by decide, by simp only [List.length_map, Nat.zero_add]; omega⟩) ?_ | refine pc_use cP ?_ | refine pc_head cP ?_ | refine pc_use cR ?_ | refine pc_head cR ?_ | refine HpP.force ?_); conv => whnf) | (intro t ht; cases t <;> conv => whnf)
   all_goals first
    | (exfalso; simp at *; done)
    | skip
   have k3 := (sc67 b u w hw (by omega)).k
   refine sk_use (nx := nx2) (st := st2) k3 (by decide) (by omega) rfl ?_
   intro m0 st3 nx3 b3 hm0
   obtain ⟨m, hm, he, hml⟩ := even_ok hm0
   have cM := ex_data hs hm he lt rfl
   have hA2 := exp_all hs hm he
   have hT2 : ∀ g, GtOk w g → expP (appG w g l) (thrG w g m) = expP l m := fun g hg => exp_thr hs hg hm he
   generalize expP l m = e at cM hA2 hT2
   have cM : PC Pr GK 48 [stD w l lt, .agg [iD m0.w, iD m0.x, iD m0.z, iD (imul .i64 (iquo .i64 m0.p 2) 2)]] (.tup [iD e, iD 0]) := by
    rw [← hml]; exact cM
   conv => whnf
   repeat' first | ((first | refine LookP.mk _ rfl ?_ | refine ShlP.mk _ (by first | (simp only [List.set, over, List.take, List.drop, List.append_eq, List.nil_append, List.cons_append, List.length]; rfl) | rfl) ?_ | refine And.intro (by first | assumption | exact ⟨by kernel_rfl, rfl⟩ | decide | omega | exact ⟨rfl, by decide, by simp only [List.length_map, Nat.zero_add]; omega⟩) ?_ | refine pc_use cM ?_ | refine pc_head cM ?_ | refine HpP.force ?_); conv => whnf) | (intro t ht; cases t <;> conv => whnf)
   refine for_use pok (fun j => ⟨[(5, .ptr 0 3 0 0), (6, .d (iD w)), (7, .ptr 70 2 0 0), (10, .d (iD 0)), (18, .ptr 80 4 0 0), (19, .d (iD e)), (20, .d (.bool ((l.take j).all fun q => comV q m))), (120, .d (rowsD l lt)), (121, .d (iD (l.map Ps.l).length)), (122, .d (iD j))], [(0, some (storeB b u nx3 st3)), (70, some (.arr 2 [[.d (iD w), .d (rowsD l lt)]])), (80, some (.arr 4 [m.l.map AV.d]))], 81⟩) (l.length) (fun _ => True) (trivial) ?_ (by kernel_rfl) ?_ ?_
   ·refine keep_env (by first | exact Nat.zero_le _ | exact Nat.le_of_ble_eq_true rfl) ?_ ?_ trivial
    ·repeat' first | exact trivial | refine ⟨⟨by first | rfl | assumption, rfl⟩, ?_⟩
    ·repeat' first | exact trivial | refine ⟨⟨ltB rfl, _, rfl, by first | rfl | assumption | (rw [hml]; rfl), by first | exact below1 rfl | exact below_dblk _ _ _ | exact below_arr rfl⟩, ?_⟩
   ·intro j A_j h_j I_j N_j
    have e_j : iadd .i64 (j : Int) 1 = ((j + 1 : Nat) : Int) := iadd_nat (by first | omega | (simp at *; omega))
    have hg := get_l h_j
    have hq : l[j] ∈ l := List.getElem_mem h_j
    have cC := up (commute68v (G := GG) hw (hs.vl _ hq) hm)
    have hall : (l.take (j + 1)).all (fun q => comV q m) = ((l.take j).all (fun q => comV q m) && comV l[j] m) := by
     rw [take_snoc h_j, List.all_append]; simp
    generalize comV l[j] m = c at cC hall
    generalize l[j] = q at cC hg
    conv => whnf
    repeat (refine LookP.mk _ rfl ?_; conv => whnf)
    intro t ht
    cases t
    ·exfalso; first | (simp at ht; done) | (simp at ht; omega)
    conv => whnf
    generalize (l.take j).all (fun q => comV q m) = bb at hall ⊢
    cases bb
    ·repeat' first | ((first | refine LookP.mk _ (by first | rfl | exact hg) ?_ | refine ShlP.mk _ (by first | (simp only [List.set, over, List.take, List.drop, List.append_eq, List.nil_append, List.cons_append, List.length]; rfl) | rfl) ?_ | refine And.intro (by first | assumption | exact ⟨by kernel_rfl, rfl⟩ | decide | omega | exact ⟨rfl, by decide, by simp only [List.length_map, Nat.zero_add]; omega⟩) ?_ | refine pc_use cC ?_ | refine pc_head cC ?_ | refine HpP.force ?_); conv => whnf) | (intro t ht; cases t <;> conv => whnf)
     ·refine N_j _ ?_ ?_
      ·first | trivial | assumption | omega
      ·refine keep_env (by first | exact Nat.zero_le _ | exact Nat.le_of_ble_eq_true rfl) ?_ ?_ trivial
       ·repeat' first | exact trivial | refine ⟨⟨by first | rfl | assumption | exact congrArg (fun n => AV.d (iD n)) e_j | exact congrArg (fun n => AV.d (D.bool n)) hall.symm, rfl⟩, ?_⟩
       ·repeat' first | exact trivial | refine ⟨⟨ltB rfl, _, rfl, by first | rfl | assumption | (rw [hml]; rfl), by first | exact below1 rfl | exact below_dblk _ _ _ | exact below_arr rfl⟩, ?_⟩
     ·exfalso; simp at ht
    ·repeat' first | ((first | refine LookP.mk _ (by first | rfl | exact hg) ?_ | refine ShlP.mk _ (by first | (simp only [List.set, over, List.take, List.drop, List.append_eq, List.nil_append, List.cons_append, List.length]; rfl) | rfl) ?_ | refine And.intro (by first | assumption | exact ⟨by kernel_rfl, rfl⟩ | decide | omega | exact ⟨rfl, by decide, by simp only [List.length_map, Nat.zero_add]; omega⟩) ?_ | refine pc_use cC ?_ | refine pc_head cC ?_ | refine HpP.force ?_); conv => whnf) | (intro t ht; cases t <;> conv => whnf)
     ·refine N_j _ ?_ ?_
      ·first | trivial | assumption | omega
      ·refine keep_env (by first | exact Nat.zero_le _ | exact Nat.le_of_ble_eq_true rfl) ?_ ?_ trivial
       ·repeat' first | exact trivial | refine ⟨⟨by first | rfl | assumption | exact congrArg (fun n => AV.d (iD n)) e_j | exact congrArg (fun n => AV.d (D.bool n)) (hall.trans (Bool.true_and c)).symm, rfl⟩, ?_⟩
       ·repeat' first | exact trivial | refine ⟨⟨ltB rfl, _, rfl, by first | rfl | assumption | (rw [hml]; rfl), by first | exact below1 rfl | exact below_dblk _ _ _ | exact below_arr rfl⟩, ?_⟩
     ·exfalso; simp at ht
   ·intro A_last I_last
    have hT : l.take l.length = l := List.take_of_length_le (Nat.le_refl _)
    rw [hT, ← hA2]
    generalize hz : (e != 0) = z
    cases z
    ·conv => whnf
     repeat (refine LookP.mk _ rfl ?_; conv => whnf)
     intro t ht
     cases t
     rotate_left
     ·exfalso; first | (simp at ht; done) | (simp at ht; omega)
     conv => whnf
     have k4 := (sc65 b u w hw (by omega)).k
     repeat' first | ((first | refine LookP.mk _ rfl ?_ | refine ShlP.mk _ (by first | (simp only [List.set, over, List.take, List.drop, List.append_eq, List.nil_append, List.cons_append, List.length]; rfl) | rfl) ?_ | refine And.intro (by first | assumption | exact ⟨by kernel_rfl, rfl⟩ | decide | omega | exact ⟨rfl, by decide, by simp only [List.length_map, Nat.zero_add]; omega⟩) ?_ | refine HpP.force ?_); conv => whnf) | (intro t ht; cases t <;> conv => whnf)
     refine sk_use (nx := nx3) (st := st3) k4 (by decide) (by omega) rfl ?_
     intro g st4 nx4 b4 hg
     have cA := apply47d hs hg lt
     have cT := through69d hw hg hm
     have cX := ex_data (appG_sok hg.chk hg.kind hs) (thrG_vl hs.hi hg.chk hg.kind hm) (thr_even hs hg hm he) true (hT2 g hg)
     generalize appG w g l = L2 at cA cX
     generalize thrG w g m = r2 at cT cX
     have hee : (e == e) = true := by simp
     conv => whnf
     repeat' first | ((first | refine LookP.mk _ rfl ?_ | refine ShlP.mk _ (by first | (simp only [List.set, over, List.take, List.drop, List.append_eq, List.nil_append, List.cons_append, List.length]; rfl) | rfl) ?_ | refine And.intro (by first | assumption | exact ⟨by kernel_rfl, rfl⟩ | decide | omega | exact ⟨rfl, by decide, by simp only [List.length_map, Nat.zero_add]; omega⟩) ?_ | refine pc_use cA ?_ | refine pc_head cA ?_ | refine pc_use cT ?_ | refine pc_head cT ?_ | refine pc_use cX ?_ | refine pc_head cX ?_ | refine pc_use c15 ?_ | refine pc_head c15 ?_ | rw [hee] | refine HpP.force ?_); conv => whnf) | (intro t ht; cases t <;> conv => whnf)
     all_goals first
      | exact fin rfl
      | (exfalso; rw [hz] at ht; cases ht; done)
      | (exfalso; simp at ht; done)
      | (exfalso; simp [hz] at *; done)
    ·conv => whnf
     repeat (refine LookP.mk _ rfl ?_; conv => whnf)
     intro t ht
     cases t
     rotate_left
     ·exfalso; first | (simp at ht; done) | (simp at ht; omega)
     conv => whnf
     have k4 := (sc65 b u w hw (by omega)).k
     repeat' first | ((first | refine LookP.mk _ rfl ?_ | refine ShlP.mk _ (by first | (simp only [List.set, over, List.take, List.drop, List.append_eq, List.nil_append, List.cons_append, List.length]; rfl) | rfl) ?_ | refine And.intro (by first | assumption | exact ⟨by kernel_rfl, rfl⟩ | decide | omega | exact ⟨rfl, by decide, by simp only [List.length_map, Nat.zero_add]; omega⟩) ?_ | refine HpP.force ?_); conv => whnf) | (intro t ht; cases t <;> conv => whnf)
     refine sk_use (nx := nx3) (st := st3) k4 (by decide) (by omega) rfl ?_
     intro g st4 nx4 b4 hg
     have cA := apply47d hs hg lt
     have cT := through69d hw hg hm
     have cX := ex_data (appG_sok hg.chk hg.kind hs) (thrG_vl hs.hi hg.chk hg.kind hm) (thr_even hs hg hm he) true (hT2 g hg)
     generalize appG w g l = L2 at cA cX
     generalize thrG w g m = r2 at cT cX
     have hee : (e == e) = true := by simp
     conv => whnf
     repeat' first | ((first | refine LookP.mk _ rfl ?_ | refine ShlP.mk _ (by first | (simp only [List.set, over, List.take, List.drop, List.append_eq, List.nil_append, List.cons_append, List.length]; rfl) | rfl) ?_ | refine And.intro (by first | assumption | exact ⟨by kernel_rfl, rfl⟩ | decide | omega | exact ⟨rfl, by decide, by simp only [List.length_map, Nat.zero_add]; omega⟩) ?_ | refine pc_use cA ?_ | refine pc_head cA ?_ | refine pc_use cT ?_ | refine pc_head cT ?_ | refine pc_use cX ?_ | refine pc_head cX ?_ | refine pc_use c15 ?_ | refine pc_head c15 ?_ | rw [hee] | refine HpP.force ?_); conv => whnf) | (intro t ht; cases t <;> conv => whnf)
     all_goals first
      | exact fin rfl
      | (exfalso; rw [hz] at ht; cases ht; done)
      | (exfalso; simp at ht; done)
      | (exfalso; simp [hz] at *; done)
end Go.Tz
