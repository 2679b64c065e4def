import Derived.Test.YtehjjpbpdfnnfaaGreatDoorM07
namespace Go.Tz
open Go Go.AL Go.Proofs Go.Ma
theorem chk9 : chkFnL [16, 32] Tryz.f9 = true := by kernel_rfl
set_option maxHeartbeats 8000000 in
theorem entropy9 (bs : List Int) (t : Bool) (x : Int) (hx0 : 0 ≤ x) (hx1 : x < 256) : PC Pr GK 9 [bytesD bs t, .int .u8 x] (.bool true) := by
 have c15 := up awake_c
 refine pc_walkL pok [16, 32] Tryz.func9 chk9 ?_
 conv => whnf
 repeat' first | ((first | refine LookP.mk _ rfl ?_ | refine ShlP.mk _ (by first | (simp only [List.set, over, List.take, List.drop, List.append_eq, List.nil_append, List.cons_append, List.length]; rfl) | rfl) ?_ | refine And.intro (by first | assumption | exact ⟨by kernel_rfl, rfl⟩ | decide | omega | exact ⟨rfl, by decide, by simp only [List.length_map, Nat.zero_add]; omega⟩) ?_ | refine HpP.force ?_); conv => whnf) | (intro t ht; cases t <;> conv => whnf)
 refine of_useN ?_
 intro b u hb
 conv => whnf
 repeat' first | ((first | refine LookP.mk _ rfl ?_ | refine ShlP.mk _ (by first | (simp only [List.set, over, List.take, List.drop, List.append_eq, List.nil_append, List.cons_append, List.length]; rfl) | rfl) ?_ | refine And.intro (by first | assumption | exact ⟨by kernel_rfl, rfl⟩ | decide | omega | exact ⟨rfl, by decide, by simp only [List.length_map, Nat.zero_add]; omega⟩) ?_ | refine HpP.force ?_); conv => whnf) | (intro t ht; cases t <;> conv => whnf)
 have k1 := (sc63 b u 1 8 (by decide) (by omega) (by decide) (by decide)).k
 refine sk_useN (sn := 0) (nx := 0) (st := 2463534242) k1 (by decide) (by decide) rfl ?_
 intro w st1 nx1 b1 hw8
 conv => whnf
 repeat' first | ((first | refine LookP.mk _ rfl ?_ | refine ShlP.mk _ (by first | (simp only [List.set, over, List.take, List.drop, List.append_eq, List.nil_append, List.cons_append, List.length]; rfl) | rfl) ?_ | refine And.intro (by first | assumption | exact ⟨by kernel_rfl, rfl⟩ | decide | omega | exact ⟨rfl, by decide, by simp only [List.length_map, Nat.zero_add]; omega⟩) ?_ | refine HpP.force ?_); conv => whnf) | (intro t ht; cases t <;> conv => whnf)
 have hw : 1 ≤ w ∧ w ≤ 12 := ⟨hw8.1, by omega⟩
 have k2 := sk64 b u w 24 hw (by decide) (by omega)
 refine sk_useN (sn := 0) (nx := nx1) (st := st1) k2 (by decide) (by omega) rfl ?_
 rintro ⟨l, lt⟩ st2 nx2 b2 hs
 dsimp only at hs ⊢
 have hlen := hs.len
 conv => whnf
 repeat' first | ((first | refine LookP.mk _ rfl ?_ | refine ShlP.mk _ (by first | (simp only [List.set, over, List.take, List.drop, List.append_eq, List.nil_append, List.cons_append, List.length]; rfl) | rfl) ?_ | refine And.intro (by first | assumption | exact ⟨by kernel_rfl, rfl⟩ | decide | omega | exact ⟨rfl, by decide, by simp only [List.length_map, Nat.zero_add]; omega⟩) ?_ | refine HpP.force ?_); conv => whnf) | (intro t ht; cases t <;> conv => whnf)
 obtain ⟨f, hf⟩ : ∃ f : Nat → Bool, ∀ i : Nat, (iand .i64 (ishr .i64 (IntKind.i64.wrap x) (i : Int)) 1 == 1) = f i := ⟨fun i => _, fun i => rfl⟩
 refine loop_mid (fun _ : Unit => ⟨[(5, .ptr 0 3 0 0), (6, .d (iD w)), (7, .ptr 1 2 0 0), (9, .sl 2 1 0 (hereL f true w).length (hereL f true w).length false), (10, .d (intsD (hereL f false w) false))], [(0, some (storeB b u nx2 st2)), (1, some (.arr 2 [[.d (iD w), .d (rowsD l lt)]])), (2, some (dblk 1 ((hereL f true w).map fun k => [iD k])))], 3⟩) (fun _ => True) (.exit 0) ?_ ?_
 ·refine for_use pok (fun i => ⟨[(1, .d (.int .u8 x)), (5, .ptr 0 3 0 0), (6, .d (iD w)), (7, .ptr 1 2 0 0), (9, .sl 2 1 0 (hereL f true i).length (hereL f true i).length false), (10, .sl 3 1 0 (hereL f false i).length (hereL f false i).length false), (35, .d (iD w)), (36, .d (iD i))], [(0, some (storeB b u nx2 st2)), (1, some (.arr 2 [[.d (iD w), .d (rowsD l lt)]])), (2, some (dblk 1 ((hereL f true i).map fun k => [iD k]))), (3, some (dblk 1 ((hereL f false i).map fun k => [iD k])))], 4⟩) (w) (fun _ => True) (trivial) ?_ (by kernel_rfl) ?_ ?_
  ·refine Sub.trans (Sub.trans (sub_nil (t := 9) (S := 1) (Nat.zero_le _) rfl) (sub_nil (t := 10) (S := 1) (Nat.zero_le _) rfl)) ?_
   refine keep_env (by first | exact Nat.zero_le _ | exact Nat.le_of_ble_eq_true rfl) ?_ ?_ trivial
   ·repeat' first | exact trivial | refine ⟨⟨by first | rfl | assumption, rfl⟩, ?_⟩
   ·repeat' first | exact trivial | refine ⟨⟨ltB rfl, _, rfl, by first | rfl | assumption, by first | exact below1 rfl | exact below_dblk _ _ _ | exact below_arr rfl⟩, ?_⟩
  ·intro i A_i h_i I_i N_i
   have e_i : iadd .i64 (i : Int) 1 = ((i + 1 : Nat) : Int) := iadd_nat (by first | omega | (simp at *; omega))
   have hiw : (0 : Int) ≤ (i : Int) := Int.natCast_nonneg _
   have hfi := hf i
   have hl := here_len f i
   cases hfv : f i with
   | true =>
    rw [hfv] at hfi
    have hA := here_yes (b := true) hfv
    have hB := here_no (f := f) (i := i) (b := false) (by rw [hfv]; rfl)
    have hsn : ((hereL f true (i + 1)).map fun k => [iD k]) = ((hereL f true i).map fun k => [iD k]) ++ [[iD (i : Int)]] := by rw [hA, List.map_append]; rfl
    have hAl : (hereL f true (i + 1)).length = (hereL f true i).length + 1 := by rw [hA, List.length_append]; rfl
    rw [hB] at N_i
    generalize hereL f true (i + 1) = A' at hsn hAl N_i
    generalize hereL f true i = A at hsn hAl hl ⊢
    generalize hereL f false i = B at hl N_i ⊢
    conv => whnf
    repeat (refine LookP.mk _ rfl ?_; conv => whnf)
    intro t ht
    cases t
    ·exfalso; first | (simp at ht; done) | (simp at ht; omega)
    conv => whnf
    repeat' first | ((first | refine LookP.mk _ rfl ?_ | refine ShlP.mk _ (by first | (simp only [List.set, over, List.take, List.drop, List.append_eq, List.nil_append, List.cons_append, List.length]; rfl) | rfl) ?_ | (refine And.intro (by first | exact hiw | exact Nat.le_refl _ | exact ⟨by rw [List.length_map, List.length_map], by decide, by show (2 * (A.length + 1) + 192) * 8 ≤ 281474976710656; omega⟩ | assumption | exact ⟨by kernel_rfl, rfl⟩ | decide | omega | exact ⟨rfl, by decide, by simp only [List.length_map, Nat.zero_add]; omega⟩) ?_) | refine knownB hfi ?_ | rw [nbeq] | refine HpP.force ?_); conv => whnf) | (intro t ht; cases t <;> conv => whnf)
    rw [hAl] at N_i
    refine N_i _ ?_ ?_
    ·first | trivial | assumption | omega
    ·first | refine ren_env [(2, 5)] ?_ ?_ ?_ trivial | refine ren_envB [(2, 5)] rfl rfl ?_ ?_ ?_ trivial
     ·repeat' first | exact trivial | refine ⟨⟨by first | rfl | assumption | exact congrArg (fun n => AV.d (iD n)) e_i, rfl⟩, ?_⟩
     ·repeat' first | exact trivial | refine ⟨⟨ltB rfl, _, rfl, by first | rfl | assumption | exact get_ren rfl (by first | rfl | assumption | exact get_ren rfl (by rw [hsn]; exact congrArg some (dblk_snoc rfl))) | exact get_ren rfl (by rw [hsn]; exact congrArg some (dblk_snoc rfl)), by first | exact below1 rfl | exact below_dblk _ _ _ | exact below_arr rfl⟩, ?_⟩
     ·repeat' first | exact trivial | (refine And.intro ?_ ?_) | (exact fun _ => rfl) | (exact fun h => absurd h (Nat.ne_of_beq_eq_false rfl))
   | false =>
    rw [hfv] at hfi
    have hA := here_no (f := f) (i := i) (b := true) (by rw [hfv]; rfl)
    have hB := here_yes (b := false) hfv
    have hsn : ((hereL f false (i + 1)).map fun k => [iD k]) = ((hereL f false i).map fun k => [iD k]) ++ [[iD (i : Int)]] := by rw [hB, List.map_append]; rfl
    have hBl : (hereL f false (i + 1)).length = (hereL f false i).length + 1 := by rw [hB, List.length_append]; rfl
    rw [hA] at N_i
    generalize hereL f false (i + 1) = B' at hsn hBl N_i
    generalize hereL f true i = A at hl N_i ⊢
    generalize hereL f false i = B at hsn hBl hl ⊢
    conv => whnf
    repeat (refine LookP.mk _ rfl ?_; conv => whnf)
    intro t ht
    cases t
    ·exfalso; first | (simp at ht; done) | (simp at ht; omega)
    conv => whnf
    repeat' first | ((first | refine LookP.mk _ rfl ?_ | refine ShlP.mk _ (by first | (simp only [List.set, over, List.take, List.drop, List.append_eq, List.nil_append, List.cons_append, List.length]; rfl) | rfl) ?_ | (refine And.intro (by first | exact hiw | exact Nat.le_refl _ | exact ⟨by rw [List.length_map, List.length_map], by decide, by show (2 * (B.length + 1) + 192) * 8 ≤ 281474976710656; omega⟩ | assumption | exact ⟨by kernel_rfl, rfl⟩ | decide | omega | exact ⟨rfl, by decide, by simp only [List.length_map, Nat.zero_add]; omega⟩) ?_) | refine knownB hfi ?_ | rw [nbeq] | refine HpP.force ?_); conv => whnf) | (intro t ht; cases t <;> conv => whnf)
    rw [hBl] at N_i
    refine N_i _ ?_ ?_
    ·first | trivial | assumption | omega
    ·first | refine ren_env [(3, 5)] ?_ ?_ ?_ trivial | refine ren_envB [(3, 5)] rfl rfl ?_ ?_ ?_ trivial
     ·repeat' first | exact trivial | refine ⟨⟨by first | rfl | assumption | exact congrArg (fun n => AV.d (iD n)) e_i, rfl⟩, ?_⟩
     ·repeat' first | exact trivial | refine ⟨⟨ltB rfl, _, rfl, by first | rfl | assumption | exact get_ren rfl (by first | rfl | assumption | exact get_ren rfl (by rw [hsn]; exact congrArg some (dblk_snoc rfl))) | exact get_ren rfl (by rw [hsn]; exact congrArg some (dblk_snoc rfl)), by first | exact below1 rfl | exact below_dblk _ _ _ | exact below_arr rfl⟩, ?_⟩
     ·repeat' first | exact trivial | (refine And.intro ?_ ?_) | (exact fun _ => rfl) | (exact fun h => absurd h (Nat.ne_of_beq_eq_false rfl))
  ·intro A_last I_last
   conv => whnf
   repeat (refine LookP.mk _ rfl ?_; conv => whnf)
   intro t ht
   cases t
   rotate_left
   ·exfalso; first | (simp at ht; done) | (simp at ht; omega)
   conv => whnf
   refine ⟨(), trivial, rfl, Sub.trans (sub_freezeE (t := 10) (nm := 3) (N := (hereL f false w).length) (es := (hereL f false w).map fun k => [iD k]) rfl rfl (by rw [List.length_map])) ?_⟩
   refine keep_env (by first | exact Nat.zero_le _ | exact Nat.le_of_ble_eq_true rfl) ?_ ?_ trivial
   ·repeat' first | exact trivial | refine ⟨⟨by first | rfl | assumption, rfl⟩, ?_⟩
   ·repeat' first | exact trivial | refine ⟨⟨ltB rfl, _, rfl, by first | rfl | assumption, by first | exact below1 rfl | exact below_dblk _ _ _ | exact below_arr rfl⟩, ?_⟩
 ·intro _ _
  conv => whnf
  have hA1000 : (hereL f true w).length ≤ 1000 := by have := here_len f w; omega
  have hB1000 : (hereL f false w).length ≤ 1000 := by have := here_len f w; omega
  have cA := ent34d hs (here_wrs f true w) lt false
  have cB := ent34d hs (here_wrs f false w) lt false
  have cAB := ent34d hs (all_wrs f w) lt false
  obtain ⟨g1, g2, g3, g4, g5, g6⟩ := ent_facts hs f
  rw [g5] at cAB
  have hmore : ∀ x, x ∈ hereL f false w → PC Pr GK 34 [stD w l lt, intsD (hereL f true w ++ [x]) false] (.tup [iD (enI l (hereL f true w ++ [x])), iD 0]) := fun x hx => ent34d hs (more_wrs hx) lt false
  have hgate : ∀ (L : List Ps) (g : Gt), SOk w L → enI L (hereL f true w) = enI l (hereL f true w) → GtOk w g → oneSide (hereL f true w) g → enI (appG w g L) (hereL f true w) = enI l (hereL f true w) := fun L g h1 h2 h3 h4 => (ent_gate h1 (here_wrs f true w) h3 h4).trans h2
  have hend : ∀ L, SOk w L → enI L (hereL f true w) = enI l (hereL f true w) → ∀ t', PC Pr GK 34 [stD w L t', intsD (hereL f true w) false] (.tup [iD (enI l (hereL f true w)), iD 0]) := fun L h1 h2 t' => by
   rw [← h2]; exact ent34d h1 (here_wrs f true w) t' false
  rw [← g1] at cB
  generalize hereL f true w = A at *
  generalize hereL f false w = B at *
  generalize ha : enI l A = a at *
  have ownA : ∀ {H : AHeap}, H.get 2 = some (dblk 1 (A.map fun k => [iD k])) → AsD H (.sl 2 1 0 A.length A.length false) (intsD A false) := fun h => asD_own h (by rw [List.length_map])
  repeat' first | ((first | refine LookP.mk _ rfl ?_ | refine ShlP.mk _ (by first | (simp only [List.set, over, List.take, List.drop, List.append_eq, List.nil_append, List.cons_append, List.length]; rfl) | rfl) ?_ | refine And.intro (by first | assumption | exact ⟨by kernel_rfl, rfl⟩ | decide | omega | exact ⟨rfl, by decide, by simp only [List.length_map, Nat.zero_add]; omega⟩) ?_ | refine pc_lend2 cA (.d _) (ownA rfl) rfl ?_ | refine pc_use cB ?_ | refine pc_head cB ?_ | refine HpP.force ?_); conv => whnf) | (intro t ht; cases t <;> conv => whnf)
  refine reg16c (by kernel_rfl) [(5, .ptr 0 3 0 0), (6, .d (iD w)), (7, .ptr 1 2 0 0), (9, .sl 2 1 0 A.length A.length false), (10, .d (intsD B false)), (12, .d (iD a)), (13, .d (iD 0)), (14, .d (iD a)), (15, .d (iD 0))] [(0, storeB b u nx2 st2), (1, .arr 2 [[.d (iD w), .d (rowsD l lt)]]), (2, dblk 1 (A.map fun k => [iD k]))] 3 hA1000 hB1000 (by repeat' first | exact trivial | (refine ⟨⟨Nat.le_of_ble_eq_true rfl, rfl⟩, ?_⟩)) (by simp) (by simp) (by simp) (by simp) (by simp) (by repeat' first | exact trivial | (refine ⟨⟨Nat.le_of_ble_eq_true rfl, by first | exact below_dblk _ _ _ | exact below1 rfl | exact below_arr rfl⟩, ?_⟩)) cAB (Nat.le_of_ble_eq_true rfl) (by repeat' first | exact trivial | (refine ⟨rfl, ?_⟩)) (by repeat' first | exact trivial | (refine ⟨rfl, ?_⟩)) ?_
  conv => whnf
  have z0 : ((0 : Int) != 0) = false := rfl
  have za : (a != a) = false := by simp
  have zn : decide (a < 0) = false := decide_eq_false (by omega)
  have zm : decide (a > if (((B.map fun k => [iD k]).length : Nat) : Int) < (A.length : Int) then (((B.map fun k => [iD k]).length : Nat) : Int) else (A.length : Int)) = false := decide_eq_false (by
   rw [List.length_map]
   split <;> omega)
  repeat' first | ((first | refine LookP.mk _ rfl ?_ | refine ShlP.mk _ (by first | (simp only [List.set, over, List.take, List.drop, List.append_eq, List.nil_append, List.cons_append, List.length]; rfl) | rfl) ?_ | refine And.intro (by first | assumption | exact ⟨by kernel_rfl, rfl⟩ | decide | omega | exact ⟨rfl, by decide, by simp only [List.length_map, Nat.zero_add]; omega⟩) ?_ | refine knownB z0 ?_ | refine knownB za ?_ | refine knownB zn ?_ | refine knownB zm ?_ | refine HpP.force ?_); conv => whnf) | (intro t ht; cases t <;> conv => whnf)
  refine loop_use2 (σ := { s : Nat × List Ps × Bool × Nat × Int // s.1 ≤ 6 ∧ SOk w s.2.1 ∧ enI s.2.1 A = a ∧ s.2.2.2.1 ≤ nx2 + 13 * s.1 }) (fun s => ⟨[(5, .ptr 0 3 0 0), (6, .d (iD w)), (7, .ptr 1 2 0 0), (9, .sl 2 1 0 A.length A.length false), (10, .d (intsD B false)), (12, .d (iD a)), (18, .ptr 3 2 0 0), (108, .d (iD s.1.1))], [(0, some (storeB b u s.1.2.2.2.1 s.1.2.2.2.2)), (1, some (.arr 2 [[.d (iD w), .d (rowsD l lt)]])), (2, some (dblk 1 (A.map fun k => [iD k]))), (3, some (.arr 2 [[.d (iD w), .d (rowsD s.1.2.1 s.1.2.2.1)]]))], 4⟩) (fun s => 6 - s.1.1) ⟨(0, l, lt, nx2, st2), Nat.zero_le _, hs, ha, Nat.le_refl _⟩ ?_ (by kernel_rfl) ?_
  ·refine keep_env (by first | exact Nat.zero_le _ | exact Nat.le_of_ble_eq_true rfl) ?_ ?_ trivial
   ·repeat' first | exact trivial | refine ⟨⟨by first | rfl | assumption, rfl⟩, ?_⟩
   ·repeat' first | exact trivial | refine ⟨⟨ltB rfl, _, rfl, by first | rfl | assumption, by first | exact below1 rfl | exact below_dblk _ _ _ | exact below_arr rfl⟩, ?_⟩
  ·rintro ⟨⟨i, L, Lt, nx3, st3⟩, h1, h2, h3, h4⟩ A_i hA
   dsimp only at h1 h2 h3 h4 hA ⊢
   have e1 : iadd .i64 (i : Int) 1 = ((i + 1 : Nat) : Int) := iadd_nat (b := 1) (by omega)
   by_cases hi : i < 6
   ·conv => whnf
    repeat (refine LookP.mk _ rfl ?_; conv => whnf)
    intro t ht
    cases t
    ·exfalso; first | (simp at ht; done) | (simp at ht; omega)
    conv => whnf
    have k4 := (sc65 b u w hw (by omega)).k
    repeat' first | ((first | refine LookP.mk _ rfl ?_ | refine ShlP.mk _ (by first | (simp only [List.set, over, List.take, List.drop, List.append_eq, List.nil_append, List.cons_append, List.length]; rfl) | rfl) ?_ | refine And.intro (by first | assumption | exact ⟨by kernel_rfl, rfl⟩ | decide | omega | exact ⟨rfl, by decide, by simp only [List.length_map, Nat.zero_add]; omega⟩) ?_ | refine HpP.force ?_); conv => whnf) | (intro t ht; cases t <;> conv => whnf)
    refine sk_useN (sn := 0) (nx := nx3) (st := st3) k4 (by decide) (by omega) rfl ?_
    intro g st4 nx4 b4 hg
    have cA := apply47d h2 hg Lt
    have hL' := appG_sok hg.chk hg.kind h2
    have hG := hgate L g h2 h3 hg
    generalize appG w g L = L2 at cA hL' hG
    by_cases hl2 : g.ws.length = 2
    ·have hl : ((((g.ws.map fun k => [iD k]).length : Nat) : Int) == 2) = true := by rw [List.length_map, hl2]; rfl
     have q0 : (g.ws.map fun k => [iD k])[(0 : Int).toNat]? = some [iD (g.ws.getD 0 0)] := by
      rw [List.getElem?_map, List.getD_eq_getElem?_getD, List.getElem?_eq_getElem (show (0 : Int).toNat < g.ws.length by rw [hl2]; decide), List.getElem?_eq_getElem (show 0 < g.ws.length by omega)]; rfl
     have q1 : (g.ws.map fun k => [iD k])[(1 : Int).toNat]? = some [iD (g.ws.getD 1 0)] := by
      rw [List.getElem?_map, List.getD_eq_getElem?_getD, List.getElem?_eq_getElem (show (1 : Int).toNat < g.ws.length by rw [hl2]; decide), List.getElem?_eq_getElem (show 1 < g.ws.length by omega)]; rfl
     have c0 := has25 (G := GK) A false (g.ws.getD 0 0) (by omega)
     have c1 := has25 (G := GK) A false (g.ws.getD 1 0) (by omega)
     have hO : decide (g.ws.getD 0 0 ∈ A) = decide (g.ws.getD 1 0 ∈ A) → oneSide A g := fun q _ => q
     generalize decide (g.ws.getD 0 0 ∈ A) = p0 at c0 hO
     generalize decide (g.ws.getD 1 0 ∈ A) = p1 at c1 hO
     cases p0 <;> cases p1
     all_goals conv => whnf
     ·repeat' first | ((first | refine LookP.mk _ (by first | rfl | exact q0 | exact q1 | exact lendH rfl (by rw [List.length_map])) ?_ | refine ShlP.mk _ (by first | (simp only [List.set, over, List.take, List.drop, List.append_eq, List.nil_append, List.cons_append, List.length]; rfl) | rfl) ?_ | refine And.intro (by first | assumption | exact ⟨by kernel_rfl, rfl⟩ | decide | omega | exact ⟨rfl, by decide, by simp only [List.length_map, Nat.zero_add]; omega⟩) ?_ | refine knownB hl ?_ | refine knownB z0 ?_ | refine spine_rd (l := [2]) (rd_call rfl rfl (show _ = some (dblk 1 (A.map fun k => [iD k])) from rfl)) ?_ | refine pc_use c0 ?_ | refine pc_head c0 ?_ | refine pc_use c1 ?_ | refine pc_head c1 ?_ | refine pc_use cA ?_ | refine pc_head cA ?_ | refine HpP.force ?_); conv => whnf) | (intro t ht; cases t <;> conv => whnf)
      all_goals first
       | (exfalso; contradiction)
       | (exfalso; simp at ht; done)
       | skip
      refine hA _ ⟨(i + 1, L2, true, nx4, st4), hi, hL', hG (hO rfl), by show nx4 ≤ nx2 + 13 * (i + 1); omega⟩ ?_ (by show 6 - (i + 1) < 6 - i; omega)
      refine keep_env (by first | exact Nat.zero_le _ | exact Nat.le_of_ble_eq_true rfl) ?_ ?_ trivial
      ·repeat' first | exact trivial | refine ⟨⟨by first | rfl | assumption | exact congrArg (fun n => AV.d (iD n)) e1, rfl⟩, ?_⟩
      ·repeat' first | exact trivial | refine ⟨⟨ltB rfl, _, rfl, by first | rfl | assumption, by first | exact below1 rfl | exact below_dblk _ _ _ | exact below_arr rfl⟩, ?_⟩
     ·repeat' first | ((first | refine LookP.mk _ (by first | rfl | exact q0 | exact q1 | exact lendH rfl (by rw [List.length_map])) ?_ | refine ShlP.mk _ (by first | (simp only [List.set, over, List.take, List.drop, List.append_eq, List.nil_append, List.cons_append, List.length]; rfl) | rfl) ?_ | refine And.intro (by first | assumption | exact ⟨by kernel_rfl, rfl⟩ | decide | omega | exact ⟨rfl, by decide, by simp only [List.length_map, Nat.zero_add]; omega⟩) ?_ | refine knownB hl ?_ | refine knownB z0 ?_ | refine spine_rd (l := [2]) (rd_call rfl rfl (show _ = some (dblk 1 (A.map fun k => [iD k])) from rfl)) ?_ | refine pc_use c0 ?_ | refine pc_head c0 ?_ | refine pc_use c1 ?_ | refine pc_head c1 ?_ | refine pc_use cA ?_ | refine pc_head cA ?_ | refine HpP.force ?_); conv => whnf) | (intro t ht; cases t <;> conv => whnf)
      all_goals first
       | (exfalso; contradiction)
       | (exfalso; simp at ht; done)
       | skip
      refine hA _ ⟨(i + 1, L, Lt, nx4, st4), hi, h2, h3, by show nx4 ≤ nx2 + 13 * (i + 1); omega⟩ ?_ (by show 6 - (i + 1) < 6 - i; omega)
      refine keep_env (by first | exact Nat.zero_le _ | exact Nat.le_of_ble_eq_true rfl) ?_ ?_ trivial
      ·repeat' first | exact trivial | refine ⟨⟨by first | rfl | assumption | exact congrArg (fun n => AV.d (iD n)) e1, rfl⟩, ?_⟩
      ·repeat' first | exact trivial | refine ⟨⟨ltB rfl, _, rfl, by first | rfl | assumption, by first | exact below1 rfl | exact below_dblk _ _ _ | exact below_arr rfl⟩, ?_⟩
     ·repeat' first | ((first | refine LookP.mk _ (by first | rfl | exact q0 | exact q1 | exact lendH rfl (by rw [List.length_map])) ?_ | refine ShlP.mk _ (by first | (simp only [List.set, over, List.take, List.drop, List.append_eq, List.nil_append, List.cons_append, List.length]; rfl) | rfl) ?_ | refine And.intro (by first | assumption | exact ⟨by kernel_rfl, rfl⟩ | decide | omega | exact ⟨rfl, by decide, by simp only [List.length_map, Nat.zero_add]; omega⟩) ?_ | refine knownB hl ?_ | refine knownB z0 ?_ | refine spine_rd (l := [2]) (rd_call rfl rfl (show _ = some (dblk 1 (A.map fun k => [iD k])) from rfl)) ?_ | refine pc_use c0 ?_ | refine pc_head c0 ?_ | refine pc_use c1 ?_ | refine pc_head c1 ?_ | refine pc_use cA ?_ | refine pc_head cA ?_ | refine HpP.force ?_); conv => whnf) | (intro t ht; cases t <;> conv => whnf)
      all_goals first
       | (exfalso; contradiction)
       | (exfalso; simp at ht; done)
       | skip
      refine hA _ ⟨(i + 1, L, Lt, nx4, st4), hi, h2, h3, by show nx4 ≤ nx2 + 13 * (i + 1); omega⟩ ?_ (by show 6 - (i + 1) < 6 - i; omega)
      refine keep_env (by first | exact Nat.zero_le _ | exact Nat.le_of_ble_eq_true rfl) ?_ ?_ trivial
      ·repeat' first | exact trivial | refine ⟨⟨by first | rfl | assumption | exact congrArg (fun n => AV.d (iD n)) e1, rfl⟩, ?_⟩
      ·repeat' first | exact trivial | refine ⟨⟨ltB rfl, _, rfl, by first | rfl | assumption, by first | exact below1 rfl | exact below_dblk _ _ _ | exact below_arr rfl⟩, ?_⟩
     ·repeat' first | ((first | refine LookP.mk _ (by first | rfl | exact q0 | exact q1 | exact lendH rfl (by rw [List.length_map])) ?_ | refine ShlP.mk _ (by first | (simp only [List.set, over, List.take, List.drop, List.append_eq, List.nil_append, List.cons_append, List.length]; rfl) | rfl) ?_ | refine And.intro (by first | assumption | exact ⟨by kernel_rfl, rfl⟩ | decide | omega | exact ⟨rfl, by decide, by simp only [List.length_map, Nat.zero_add]; omega⟩) ?_ | refine knownB hl ?_ | refine knownB z0 ?_ | refine spine_rd (l := [2]) (rd_call rfl rfl (show _ = some (dblk 1 (A.map fun k => [iD k])) from rfl)) ?_ | refine pc_use c0 ?_ | refine pc_head c0 ?_ | refine pc_use c1 ?_ | refine pc_head c1 ?_ | refine pc_use cA ?_ | refine pc_head cA ?_ | refine HpP.force ?_); conv => whnf) | (intro t ht; cases t <;> conv => whnf)
      all_goals first
       | (exfalso; contradiction)
       | (exfalso; simp at ht; done)
       | skip
      refine hA _ ⟨(i + 1, L2, true, nx4, st4), hi, hL', hG (hO rfl), by show nx4 ≤ nx2 + 13 * (i + 1); omega⟩ ?_ (by show 6 - (i + 1) < 6 - i; omega)
      refine keep_env (by first | exact Nat.zero_le _ | exact Nat.le_of_ble_eq_true rfl) ?_ ?_ trivial
      ·repeat' first | exact trivial | refine ⟨⟨by first | rfl | assumption | exact congrArg (fun n => AV.d (iD n)) e1, rfl⟩, ?_⟩
      ·repeat' first | exact trivial | refine ⟨⟨ltB rfl, _, rfl, by first | rfl | assumption, by first | exact below1 rfl | exact below_dblk _ _ _ | exact below_arr rfl⟩, ?_⟩
    ·have hl : ((((g.ws.map fun k => [iD k]).length : Nat) : Int) == 2) = false := by
      rw [List.length_map]
      exact beq_false_of_ne (by omega)
     have hO : oneSide A g := fun q => absurd q hl2
     conv => whnf
     ·repeat' first | ((first | refine LookP.mk _ rfl ?_ | refine ShlP.mk _ (by first | (simp only [List.set, over, List.take, List.drop, List.append_eq, List.nil_append, List.cons_append, List.length]; rfl) | rfl) ?_ | refine And.intro (by first | assumption | exact ⟨by kernel_rfl, rfl⟩ | decide | omega | exact ⟨rfl, by decide, by simp only [List.length_map, Nat.zero_add]; omega⟩) ?_ | refine knownB hl ?_ | refine knownB z0 ?_ | refine pc_use cA ?_ | refine pc_head cA ?_ | refine HpP.force ?_); conv => whnf) | (intro t ht; cases t <;> conv => whnf)
      all_goals first
       | (exfalso; contradiction)
       | (exfalso; simp at ht; done)
       | skip
      refine hA _ ⟨(i + 1, L2, true, nx4, st4), hi, hL', hG hO, by show nx4 ≤ nx2 + 13 * (i + 1); omega⟩ ?_ (by show 6 - (i + 1) < 6 - i; omega)
      refine keep_env (by first | exact Nat.zero_le _ | exact Nat.le_of_ble_eq_true rfl) ?_ ?_ trivial
      ·repeat' first | exact trivial | refine ⟨⟨by first | rfl | assumption | exact congrArg (fun n => AV.d (iD n)) e1, rfl⟩, ?_⟩
      ·repeat' first | exact trivial | refine ⟨⟨ltB rfl, _, rfl, by first | rfl | assumption, by first | exact below1 rfl | exact below_dblk _ _ _ | exact below_arr rfl⟩, ?_⟩
   ·conv => whnf
    repeat (refine LookP.mk _ rfl ?_; conv => whnf)
    intro t ht
    cases t
    rotate_left
    ·exfalso; first | (simp at ht; done) | (simp at ht; omega)
    conv => whnf
    have hE := hend L h2 h3 Lt
    cases B with
    | nil =>
     have hgt : decide ((((([] : List Int).map fun k => [iD k]).length : Nat) : Int) > 0) = false := rfl
     repeat' first | ((first | refine LookP.mk _ rfl ?_ | refine ShlP.mk _ (by first | (simp only [List.set, over, List.take, List.drop, List.append_eq, List.nil_append, List.cons_append, List.length]; rfl) | rfl) ?_ | refine And.intro (by first | assumption | exact ⟨by kernel_rfl, rfl⟩ | decide | omega | exact ⟨rfl, by decide, by simp only [List.length_map, Nat.zero_add]; omega⟩) ?_ | refine pc_lend2 hE (.d _) (ownA rfl) rfl ?_ | refine knownB z0 ?_ | refine knownB za ?_ | refine knownB hgt ?_ | refine pc_use c15 ?_ | refine pc_head c15 ?_ | refine HpP.force ?_); conv => whnf) | (intro t ht; cases t <;> conv => whnf)
     exact fin rfl
    | cons y B =>
     have hgt : decide (((((y :: B).map fun k => [iD k]).length : Nat) : Int) > 0) = true := decide_eq_true (by rw [List.length_map, List.length_cons]; omega)
     have cM := hmore y (by simp)
     have gy := g6 y (by simp)
     generalize enI l (A ++ [y]) = m at cM gy
     repeat' first | ((first | refine LookP.mk _ rfl ?_ | refine ShlP.mk _ (by first | (simp only [List.set, over, List.take, List.drop, List.append_eq, List.nil_append, List.cons_append, List.length]; rfl) | rfl) ?_ | refine And.intro (by first | assumption | exact ⟨by kernel_rfl, rfl⟩ | decide | omega | exact ⟨rfl, by decide, by simp only [List.length_map, Nat.zero_add]; omega⟩) ?_ | refine pc_lend2 hE (.d _) (ownA rfl) rfl ?_ | refine knownB z0 ?_ | refine knownB za ?_ | refine knownB hgt ?_ | refine HpP.force ?_); conv => whnf) | (intro t ht; cases t <;> conv => whnf)
     refine reg32c (A := A) (B := B) (x := y) (by kernel_rfl) [(7, .ptr 1 2 0 0), (9, .sl 2 1 0 A.length A.length false), (10, .d (intsD (y :: B) false)), (12, .d (iD a))] [(12, .d (iD a))] [(0, storeB b u nx3 st3), (1, .arr 2 [[.d (iD w), .d (rowsD l lt)]]), (3, .arr 2 [[.d (iD w), .d (rowsD L Lt)]])] 4 hA1000 (by repeat' first | exact trivial | (refine ⟨Nat.le_of_ble_eq_true rfl, ?_⟩)) ⟨⟨by simp, rfl⟩, trivial⟩ (by simp) (by simp) (by simp) (by simp) (by repeat' first | exact trivial | (refine ⟨⟨⟨Nat.ne_of_beq_eq_false rfl, Nat.le_of_ble_eq_true rfl⟩, by first | exact below_dblk _ _ _ | exact below1 rfl | exact below_arr rfl⟩, ?_⟩)) (by decide) cM (Nat.le_of_ble_eq_true rfl) (by repeat' first | exact trivial | (refine ⟨rfl, ?_⟩)) (by repeat' first | exact trivial | (refine ⟨rfl, ?_⟩)) rfl ?_
     conv => whnf
     have e3 : isub .i64 a 1 = a - 1 := isub_eq (by omega) (by omega)
     have e4 : iadd .i64 a 1 = a + 1 := iadd_eq (by omega) (by omega)
     have m1 : decide (m < a - 1) = false := decide_eq_false (by omega)
     have m2 : decide (m > a + 1) = false := decide_eq_false (by omega)
     repeat' first | ((first | refine LookP.mk _ rfl ?_ | refine ShlP.mk _ (by first | (simp only [List.set, over, List.take, List.drop, List.append_eq, List.nil_append, List.cons_append, List.length]; rfl) | rfl) ?_ | refine And.intro (by first | assumption | exact ⟨by kernel_rfl, rfl⟩ | decide | omega | exact ⟨rfl, by decide, by simp only [List.length_map, Nat.zero_add]; omega⟩) ?_ | rw [e3] | rw [e4] | refine knownB z0 ?_ | refine knownB m1 ?_ | refine knownB m2 ?_ | refine pc_use c15 ?_ | refine pc_head c15 ?_ | refine HpP.force ?_); conv => whnf) | (intro t ht; cases t <;> conv => whnf)
     exact fin rfl
end Go.Tz
