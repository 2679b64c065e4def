import Derived.Test.YtehjjpbpdfnnfaaGreatDoorM07
namespace Go.Tz
open Go Go.AL Go.Proofs Go.Ma
theorem bneT {a : Int} {k : Bool → Prop} (h : k false) : ∀ t, (a != a) = t → k t := fun t e => by
  have e2 : false = t := (show (a != a) = false by simp).symm.trans e
  exact e2 ▸ h
theorem bneL {a b : Int} {k : Bool → Prop} (hne : decide (a ≠ b) = true) (h : k true) : ∀ t, (a != b) = t → k t := fun t e => by
  have e1 : (a != b) = decide (a ≠ b) := by rw [Bool.eq_iff_iff]; simp
  have e2 : true = t := (e1.trans hne).symm.trans e
  exact e2 ▸ h
theorem cchk_own (w b : Int) (l : List Gt) : cchk w b (l.map Gt.own) = cchk w b l := by
  unfold cchk
  rw [List.length_map, List.find?_map]
  have e : ((fun g => decide (gchk g w b ≠ 0)) ∘ Gt.own) = fun g => decide (gchk g w b ≠ 0) := rfl
  rw [e]
  cases l.find? (fun g => decide (gchk g w b ≠ 0)) <;> rfl
theorem ofE_own (w b : Int) (l : List Gt) : ofE w b (l.map Gt.own) = ofE w b l := by
  unfold ofE
  rw [cchk_own, List.all_map]; rfl
theorem ofS_own (w : Nat) (l : List Gt) : ofS w (l.map Gt.own) = ofS w l := by
  unfold ofS
  rw [List.foldl_map]; rfl
theorem chk5 : chkFn Tryz.f5 = true := by kernel_rfl
theorem exp_eq {w : Nat} {l : List Ps} (hs : SOk w l) {p : Ps} (hp : Vl w p) (hpp : p.p.tmod 2 = 0) : expP l p = expR w l p :=
  expOk_uniq (fun _ => Iff.rfl) (expP_ok hs hp ((eok_nf hs.hi hp).2 hpp)) (expR_ok hs hp ((eok_nf hs.hi hp).2 hpp))
set_option maxHeartbeats 8000000 in
theorem gates5a (w : Int) (l : List Ps) (t : Bool) (cw cb : Int) (gs : List Gt) (ct : Bool) (k : Int) (ws : List Int) (u : Bool) (b i : Int) (p : Ps) (h1 : l.length ≤ 20) (h2 : greatB gs = false) (h3 : ws.length ≤ 6) : PC Pr GG 5 [stD w l t, circD cw cb gs ct, (Gt.mk k ws u b i).d, p.d] (.bool true) := by
  have hgs : gs.length ≤ 130 ∧ ∀ g, g ∈ gs → g.ws.length ≤ 6 := by
    unfold greatB at h2
    rw [Bool.or_eq_false_iff] at h2
    exact ⟨by simpa using h2.1, fun g hg => by have := List.any_eq_false.1 h2.2 g hg; simpa using this⟩
  have hgw : ∀ g, g ∈ gs → g.ws.length ≤ 1000 := fun g hg => by have := hgs.2 g hg; omega
  have hgw' : ∀ g, g ∈ gs.map Gt.own → g.ws.length ≤ 1000 := fun g hg => by
    obtain ⟨x, hx, rfl⟩ := List.mem_map.1 hg
    exact hgw x hx
  have c39 := great39 (G := GG) cw cb gs ct
  rw [h2] at c39
  have c16 := own_c (G := GG) w l t (by omega)
  have c18 := theirs_c (G := GG) w l t (by omega)
  have c17 := scheck17 (G := GG) w l false (by omega)
  have c40 := own40 (G := GG) cw cb gs ct (by omega) hgw
  have c24 := cloneI (G := GG) ws u (by omega)
  have c42 := kind42 (G := GG) k
  have c43 := check43 (G := GG) p
  have c23 := same_c (G := GG) w w l l false t (by omega)
  rw [decide_eq_true ⟨rfl, rfl⟩] at c23
  have c50 := same50 (G := GG) cw cb gs ct false (by omega) hgw
  have c51 : PC Pr GG 51 [(Gt.mk k ws false b i).d, (Gt.mk k ws u b i).d] (.bool true) := same51 (G := GG) ⟨k, ws, u, b, i⟩ false (show ws.length ≤ 1000 by omega)
  have hZl : True := trivial
  have hRl : True := trivial
  have hL3 : ws.length ≤ 1000 := by omega
  by_cases hc : chkS w l = 0
  · obtain ⟨W, rfl, hs⟩ := chk_ok hc
    have hlen := hs.len
    have hlo := hs.lo
    rw [hc] at c17
    have c41 := cg41 (G := GG) ⟨k, ws, u, b, i⟩ W 0 ⟨by have := hs.lo; omega, by have := hs.hi; omega⟩ (by decide) hL3
    by_cases hA : gchk ⟨k, ws, u, b, i⟩ W 0 = 0
    · by_cases hK : kindB k = true
      · skip
        have hapE : apE W l ⟨k, ws, false, b, i⟩ = if gchk ⟨k, ws, u, b, i⟩ W 0 ≠ 0 then gchk ⟨k, ws, u, b, i⟩ W 0 else if kindB k = true then 0 else 7 := by unfold apE; rw [hc, if_neg (by simp)]; rfl
        rw [if_neg (fun q => q hA), if_pos hK] at hapE
        have c47 := apply47 (w := W) (l := l) (g := ⟨k, ws, false, b, i⟩) hapE false hL3
        have c44 := apply44 (G := GG) ⟨hs.lo, hs.hi⟩ ⟨k, ws, u, b, i⟩ hA hK l false (by omega) (by omega) hs.vl
        have eR : appG W ⟨k, ws, false, b, i⟩ l = appG W ⟨k, ws, u, b, i⟩ l := rfl
        rw [eR] at c47
        rw [hA] at c41
        rw [hK] at c42
        have hRl : (appG W ⟨k, ws, u, b, i⟩ l).length = l.length := appG_len _ _ _
        generalize appG W ⟨k, ws, u, b, i⟩ l = R at c44 c47 hRl
        have ht1 := theirs18o (G := GG) W R true (by omega) (by omega)
        have h27R := equal27 (G := GG) W W R R false false (by omega)
        rw [decide_eq_true ⟨rfl, rfl⟩] at h27R
        rw [hRl] at ht1
        have hrR : ∀ ρ : Nat → Nat, some (Blk.ren ρ (dblk 4 (R.map Ps.l))) = some (dblk 4 (R.map Ps.l)) := fun ρ => by rw [ren_dblk]
        by_cases hB : pckI p = 0
        · by_cases hX : p.w ≠ W ∨ p.p.tmod 2 = 1
          · skip
            have hexS : exS W l p = if pckI p ≠ 0 then pckI p else if p.w ≠ W ∨ p.p.tmod 2 = 1 then 7 else 0 := by unfold exS; rw [hc, if_neg (by simp)]
            rw [if_neg (fun q => q hB), if_pos hX] at hexS
            have c48 := expect48e (w := W) (l := l) (p := p) (by rw [hexS]; decide) false (by omega)
            rw [hexS] at c48
            rw [← pck_pchk, hB] at c43
            by_cases hC : ofE cw cb gs = 0
            · skip
              obtain ⟨CW, rfl, hCW⟩ : ∃ n : Nat, cw = n ∧ (1 ≤ n ∧ n ≤ 12) := by
                have := (cchk_ok (ofE_ok hC).1).1
                exact ⟨cw.toNat, by omega, by omega⟩
              have c46 := of46 hC ct (by omega) hgw
              have c49 := of49 (w := CW) (b := cb) (l := gs.map Gt.own) (by rw [ofE_own]; exact hC) false (by simp; omega) hgw'
              rw [ofS_own] at c49
              have hZl : (ofS CW gs).length = CW := by unfold ofS; rw [ofS_len, zeroS_len]
              generalize ofS CW gs = Z at c46 c49 hZl
              generalize tfB (gs.map Gt.own).length = tz at c49
              have ht2 := theirs18o (G := GG) CW Z tz (by omega) (by omega)
              have h27Z := equal27 (G := GG) CW CW Z Z false false (by omega)
              rw [decide_eq_true ⟨rfl, rfl⟩] at h27Z
              rw [hZl] at ht2
              have hrZ : ∀ ρ : Nat → Nat, some (Blk.ren ρ (dblk 4 (Z.map Ps.l))) = some (dblk 4 (Z.map Ps.l)) := fun ρ => by rw [ren_dblk]
              refine pc_walk pok Tryz.func5 chk5 ?_
              conv => whnf
              repeat' first | (refine LookP.mk _ (by first | rfl | exact lendA (hrR _) (by simp [hRl, hZl]) | exact lendW (hrR _) (by simp [hRl, hZl]) | exact lendA (hrZ _) (by simp [hRl, hZl]) | exact lendW (hrZ _) (by simp [hRl, hZl])) ?_; conv => whnf) | (refine ShlP.mk _ (by first | (simp only [List.set, over, List.take, List.drop, List.append_eq, List.nil_append, List.cons_append, List.length]; rfl) | rfl) ?_; conv => whnf) | (refine And.intro (by first | (simp [hRl, hZl]; done) | assumption | exact ⟨by kernel_rfl, rfl⟩ | decide | omega | exact ⟨rfl, by decide, by simp only [List.length_map, Nat.zero_add]; omega⟩) ?_; conv => whnf) | (refine beqT1 ?_; conv => whnf) | (refine beqF1 rfl ?_; conv => whnf) | (refine bneL rfl ?_; conv => whnf) | (refine po_use c47 ?_; conv => whnf) | (refine pc_use (c44) ?_; conv => whnf) | (refine pc_head (c44) ?_; conv => whnf) | (refine bneT ?_; conv => whnf) | (refine po_use c49 ?_; conv => whnf) | (refine pc_use (c46) ?_; conv => whnf) | (refine pc_head (c46) ?_; conv => whnf) | (refine pc_use (c39) ?_; conv => whnf) | (refine pc_head (c39) ?_; conv => whnf) | (refine pc_use (c16) ?_; conv => whnf) | (refine pc_head (c16) ?_; conv => whnf) | (refine pc_use (c40) ?_; conv => whnf) | (refine pc_head (c40) ?_; conv => whnf) | (refine pc_use (c24) ?_; conv => whnf) | (refine pc_head (c24) ?_; conv => whnf) | (refine pc_use (c18) ?_; conv => whnf) | (refine pc_head (c18) ?_; conv => whnf) | (refine pc_use (c17) ?_; conv => whnf) | (refine pc_head (c17) ?_; conv => whnf) | (refine pc_use (c41) ?_; conv => whnf) | (refine pc_head (c41) ?_; conv => whnf) | (refine pc_use (c42) ?_; conv => whnf) | (refine pc_head (c42) ?_; conv => whnf) | (refine pc_use (c43) ?_; conv => whnf) | (refine pc_head (c43) ?_; conv => whnf) | (refine pc_use (c48) ?_; conv => whnf) | (refine pc_head (c48) ?_; conv => whnf) | (refine pc_use (c23) ?_; conv => whnf) | (refine pc_head (c23) ?_; conv => whnf) | (refine pc_use (c50) ?_; conv => whnf) | (refine pc_head (c50) ?_; conv => whnf) | (refine pc_use (c51) ?_; conv => whnf) | (refine pc_head (c51) ?_; conv => whnf) | (refine pc_use (awake_c) ?_; conv => whnf) | (refine pc_head (awake_c) ?_; conv => whnf) | (refine spine_rd (rd_call rfl rfl (hrR _)) ?_; conv => whnf) | (refine spine_rd (rd_call rfl rfl (hrZ _)) ?_; conv => whnf) | (refine po_head ht1 ?_; conv => whnf) | (refine po_head ht2 ?_; conv => whnf) | (refine pc_use (h27R) ?_; conv => whnf) | (refine pc_head (h27R) ?_; conv => whnf) | (refine pc_use (h27Z) ?_; conv => whnf) | (refine pc_head (h27Z) ?_; conv => whnf) | (rw [flOf_rows]; conv => whnf) | (refine ShhP.mk _ rfl ?_; conv => whnf) | (refine call_walk pok Tryz.func37 chk37 ?_; conv => whnf) | (refine HpP.force ?_; conv => whnf) | (intro t ht; cases t <;> conv => whnf)
              all_goals first | exact fin rfl | (exfalso; simp at ht; done) | (exfalso; simp at *; omega) | (exfalso; simp_all; done)
            · skip
              have c46 := of46e hC ct (by omega) hgw
              have c49 := of49e (l := gs.map Gt.own) (by rw [ofE_own]; exact hC) false (by simp; omega) hgw'
              rw [ofE_own] at c49
              generalize ofE cw cb gs = eC at c46 c49 hC
              refine pc_walk pok Tryz.func5 chk5 ?_
              conv => whnf
              repeat' first | (refine LookP.mk _ (by first | rfl | exact lendA (hrR _) (by simp [hRl, hZl]) | exact lendW (hrR _) (by simp [hRl, hZl])) ?_; conv => whnf) | (refine ShlP.mk _ (by first | (simp only [List.set, over, List.take, List.drop, List.append_eq, List.nil_append, List.cons_append, List.length]; rfl) | rfl) ?_; conv => whnf) | (refine And.intro (by first | (simp [hRl, hZl]; done) | assumption | exact ⟨by kernel_rfl, rfl⟩ | decide | omega | exact ⟨rfl, by decide, by simp only [List.length_map, Nat.zero_add]; omega⟩) ?_; conv => whnf) | (refine beqT1 ?_; conv => whnf) | (refine beqF1 rfl ?_; conv => whnf) | (refine bneL rfl ?_; conv => whnf) | (refine po_use c47 ?_; conv => whnf) | (refine pc_use (c44) ?_; conv => whnf) | (refine pc_head (c44) ?_; conv => whnf) | (refine bneT ?_; conv => whnf) | (refine pc_use (c49) ?_; conv => whnf) | (refine pc_head (c49) ?_; conv => whnf) | (refine pc_use (c46) ?_; conv => whnf) | (refine pc_head (c46) ?_; conv => whnf) | (refine pc_use (c39) ?_; conv => whnf) | (refine pc_head (c39) ?_; conv => whnf) | (refine pc_use (c16) ?_; conv => whnf) | (refine pc_head (c16) ?_; conv => whnf) | (refine pc_use (c40) ?_; conv => whnf) | (refine pc_head (c40) ?_; conv => whnf) | (refine pc_use (c24) ?_; conv => whnf) | (refine pc_head (c24) ?_; conv => whnf) | (refine pc_use (c18) ?_; conv => whnf) | (refine pc_head (c18) ?_; conv => whnf) | (refine pc_use (c17) ?_; conv => whnf) | (refine pc_head (c17) ?_; conv => whnf) | (refine pc_use (c41) ?_; conv => whnf) | (refine pc_head (c41) ?_; conv => whnf) | (refine pc_use (c42) ?_; conv => whnf) | (refine pc_head (c42) ?_; conv => whnf) | (refine pc_use (c43) ?_; conv => whnf) | (refine pc_head (c43) ?_; conv => whnf) | (refine pc_use (c48) ?_; conv => whnf) | (refine pc_head (c48) ?_; conv => whnf) | (refine pc_use (c23) ?_; conv => whnf) | (refine pc_head (c23) ?_; conv => whnf) | (refine pc_use (c50) ?_; conv => whnf) | (refine pc_head (c50) ?_; conv => whnf) | (refine pc_use (c51) ?_; conv => whnf) | (refine pc_head (c51) ?_; conv => whnf) | (refine pc_use (awake_c) ?_; conv => whnf) | (refine pc_head (awake_c) ?_; conv => whnf) | (refine pc_use (alikeE _) ?_; conv => whnf) | (refine pc_head (alikeE _) ?_; conv => whnf) | (refine spine_rd (rd_call rfl rfl (hrR _)) ?_; conv => whnf) | (refine po_head ht1 ?_; conv => whnf) | (refine pc_use (h27R) ?_; conv => whnf) | (refine pc_head (h27R) ?_; conv => whnf) | (rw [flOf_rows]; conv => whnf) | (refine ShhP.mk _ rfl ?_; conv => whnf) | (refine call_walk pok Tryz.func37 chk37 ?_; conv => whnf) | (refine HpP.force ?_; conv => whnf) | (intro t ht; cases t <;> conv => whnf)
              all_goals first | exact fin rfl | (exfalso; simp at ht; done) | (exfalso; simp at *; omega) | (exfalso; simp_all; done)
          · skip
            have hexS : exS W l p = if pckI p ≠ 0 then pckI p else if p.w ≠ W ∨ p.p.tmod 2 = 1 then 7 else 0 := by unfold exS; rw [hc, if_neg (by simp)]
            rw [if_neg (fun q => q hB), if_neg hX] at hexS
            have c48 := expect48 (w := W) (l := l) (p := p) hexS false
            obtain ⟨W2, hW2, _, hpv, hpp⟩ := exS_ok hexS
            obtain rfl : W2 = W := by omega
            have c45 := expect45 (G := GG) hs false hpv
            rw [exp_eq hs hpv hpp] at c48
            generalize expR W2 l p = ex at c45 c48
            rw [← pck_pchk, hB] at c43
            have hpw := vl_w hpv
            obtain ⟨pw, px, pz, pp⟩ := p
            obtain rfl : pw = W2 := hpw
            have hpp : pp.tmod 2 = 0 := hpp
            by_cases hC : ofE cw cb gs = 0
            · skip
              obtain ⟨CW, rfl, hCW⟩ : ∃ n : Nat, cw = n ∧ (1 ≤ n ∧ n ≤ 12) := by
                have := (cchk_ok (ofE_ok hC).1).1
                exact ⟨cw.toNat, by omega, by omega⟩
              have c46 := of46 hC ct (by omega) hgw
              have c49 := of49 (w := CW) (b := cb) (l := gs.map Gt.own) (by rw [ofE_own]; exact hC) false (by simp; omega) hgw'
              rw [ofS_own] at c49
              have hZl : (ofS CW gs).length = CW := by unfold ofS; rw [ofS_len, zeroS_len]
              generalize ofS CW gs = Z at c46 c49 hZl
              generalize tfB (gs.map Gt.own).length = tz at c49
              have ht2 := theirs18o (G := GG) CW Z tz (by omega) (by omega)
              have h27Z := equal27 (G := GG) CW CW Z Z false false (by omega)
              rw [decide_eq_true ⟨rfl, rfl⟩] at h27Z
              rw [hZl] at ht2
              have hrZ : ∀ ρ : Nat → Nat, some (Blk.ren ρ (dblk 4 (Z.map Ps.l))) = some (dblk 4 (Z.map Ps.l)) := fun ρ => by rw [ren_dblk]
              refine pc_walk pok Tryz.func5 chk5 ?_
              conv => whnf
              repeat' first | (refine LookP.mk _ (by first | rfl | exact lendA (hrR _) (by simp [hRl, hZl]) | exact lendW (hrR _) (by simp [hRl, hZl]) | exact lendA (hrZ _) (by simp [hRl, hZl]) | exact lendW (hrZ _) (by simp [hRl, hZl])) ?_; conv => whnf) | (refine ShlP.mk _ (by first | (simp only [List.set, over, List.take, List.drop, List.append_eq, List.nil_append, List.cons_append, List.length]; rfl) | rfl) ?_; conv => whnf) | (refine And.intro (by first | (simp [hRl, hZl]; done) | assumption | exact ⟨by kernel_rfl, rfl⟩ | decide | omega | exact ⟨rfl, by decide, by simp only [List.length_map, Nat.zero_add]; omega⟩) ?_; conv => whnf) | (refine beqT1 ?_; conv => whnf) | (refine beqF1 rfl ?_; conv => whnf) | (refine bneL rfl ?_; conv => whnf) | (refine po_use c47 ?_; conv => whnf) | (refine pc_use (c44) ?_; conv => whnf) | (refine pc_head (c44) ?_; conv => whnf) | (refine bneT ?_; conv => whnf) | (rw [hpp]; conv => whnf) | (refine pc_use (c45) ?_; conv => whnf) | (refine pc_head (c45) ?_; conv => whnf) | (refine po_use c49 ?_; conv => whnf) | (refine pc_use (c46) ?_; conv => whnf) | (refine pc_head (c46) ?_; conv => whnf) | (refine pc_use (c39) ?_; conv => whnf) | (refine pc_head (c39) ?_; conv => whnf) | (refine pc_use (c16) ?_; conv => whnf) | (refine pc_head (c16) ?_; conv => whnf) | (refine pc_use (c40) ?_; conv => whnf) | (refine pc_head (c40) ?_; conv => whnf) | (refine pc_use (c24) ?_; conv => whnf) | (refine pc_head (c24) ?_; conv => whnf) | (refine pc_use (c18) ?_; conv => whnf) | (refine pc_head (c18) ?_; conv => whnf) | (refine pc_use (c17) ?_; conv => whnf) | (refine pc_head (c17) ?_; conv => whnf) | (refine pc_use (c41) ?_; conv => whnf) | (refine pc_head (c41) ?_; conv => whnf) | (refine pc_use (c42) ?_; conv => whnf) | (refine pc_head (c42) ?_; conv => whnf) | (refine pc_use (c43) ?_; conv => whnf) | (refine pc_head (c43) ?_; conv => whnf) | (refine pc_use (c48) ?_; conv => whnf) | (refine pc_head (c48) ?_; conv => whnf) | (refine pc_use (c23) ?_; conv => whnf) | (refine pc_head (c23) ?_; conv => whnf) | (refine pc_use (c50) ?_; conv => whnf) | (refine pc_head (c50) ?_; conv => whnf) | (refine pc_use (c51) ?_; conv => whnf) | (refine pc_head (c51) ?_; conv => whnf) | (refine pc_use (awake_c) ?_; conv => whnf) | (refine pc_head (awake_c) ?_; conv => whnf) | (refine spine_rd (rd_call rfl rfl (hrR _)) ?_; conv => whnf) | (refine spine_rd (rd_call rfl rfl (hrZ _)) ?_; conv => whnf) | (refine po_head ht1 ?_; conv => whnf) | (refine po_head ht2 ?_; conv => whnf) | (refine pc_use (h27R) ?_; conv => whnf) | (refine pc_head (h27R) ?_; conv => whnf) | (refine pc_use (h27Z) ?_; conv => whnf) | (refine pc_head (h27Z) ?_; conv => whnf) | (rw [flOf_rows]; conv => whnf) | (refine ShhP.mk _ rfl ?_; conv => whnf) | (refine call_walk pok Tryz.func37 chk37 ?_; conv => whnf) | (refine HpP.force ?_; conv => whnf) | (intro t ht; cases t <;> conv => whnf)
              all_goals first | exact fin rfl | (exfalso; simp at ht; done) | (exfalso; simp at *; omega) | (exfalso; simp_all; done)
            · skip
              have c46 := of46e hC ct (by omega) hgw
              have c49 := of49e (l := gs.map Gt.own) (by rw [ofE_own]; exact hC) false (by simp; omega) hgw'
              rw [ofE_own] at c49
              generalize ofE cw cb gs = eC at c46 c49 hC
              refine pc_walk pok Tryz.func5 chk5 ?_
              conv => whnf
              repeat' first | (refine LookP.mk _ (by first | rfl | exact lendA (hrR _) (by simp [hRl, hZl]) | exact lendW (hrR _) (by simp [hRl, hZl])) ?_; conv => whnf) | (refine ShlP.mk _ (by first | (simp only [List.set, over, List.take, List.drop, List.append_eq, List.nil_append, List.cons_append, List.length]; rfl) | rfl) ?_; conv => whnf) | (refine And.intro (by first | (simp [hRl, hZl]; done) | assumption | exact ⟨by kernel_rfl, rfl⟩ | decide | omega | exact ⟨rfl, by decide, by simp only [List.length_map, Nat.zero_add]; omega⟩) ?_; conv => whnf) | (refine beqT1 ?_; conv => whnf) | (refine beqF1 rfl ?_; conv => whnf) | (refine bneL rfl ?_; conv => whnf) | (refine po_use c47 ?_; conv => whnf) | (refine pc_use (c44) ?_; conv => whnf) | (refine pc_head (c44) ?_; conv => whnf) | (refine bneT ?_; conv => whnf) | (rw [hpp]; conv => whnf) | (refine pc_use (c45) ?_; conv => whnf) | (refine pc_head (c45) ?_; conv => whnf) | (refine pc_use (c49) ?_; conv => whnf) | (refine pc_head (c49) ?_; conv => whnf) | (refine pc_use (c46) ?_; conv => whnf) | (refine pc_head (c46) ?_; conv => whnf) | (refine pc_use (c39) ?_; conv => whnf) | (refine pc_head (c39) ?_; conv => whnf) | (refine pc_use (c16) ?_; conv => whnf) | (refine pc_head (c16) ?_; conv => whnf) | (refine pc_use (c40) ?_; conv => whnf) | (refine pc_head (c40) ?_; conv => whnf) | (refine pc_use (c24) ?_; conv => whnf) | (refine pc_head (c24) ?_; conv => whnf) | (refine pc_use (c18) ?_; conv => whnf) | (refine pc_head (c18) ?_; conv => whnf) | (refine pc_use (c17) ?_; conv => whnf) | (refine pc_head (c17) ?_; conv => whnf) | (refine pc_use (c41) ?_; conv => whnf) | (refine pc_head (c41) ?_; conv => whnf) | (refine pc_use (c42) ?_; conv => whnf) | (refine pc_head (c42) ?_; conv => whnf) | (refine pc_use (c43) ?_; conv => whnf) | (refine pc_head (c43) ?_; conv => whnf) | (refine pc_use (c48) ?_; conv => whnf) | (refine pc_head (c48) ?_; conv => whnf) | (refine pc_use (c23) ?_; conv => whnf) | (refine pc_head (c23) ?_; conv => whnf) | (refine pc_use (c50) ?_; conv => whnf) | (refine pc_head (c50) ?_; conv => whnf) | (refine pc_use (c51) ?_; conv => whnf) | (refine pc_head (c51) ?_; conv => whnf) | (refine pc_use (awake_c) ?_; conv => whnf) | (refine pc_head (awake_c) ?_; conv => whnf) | (refine pc_use (alikeE _) ?_; conv => whnf) | (refine pc_head (alikeE _) ?_; conv => whnf) | (refine spine_rd (rd_call rfl rfl (hrR _)) ?_; conv => whnf) | (refine po_head ht1 ?_; conv => whnf) | (refine pc_use (h27R) ?_; conv => whnf) | (refine pc_head (h27R) ?_; conv => whnf) | (rw [flOf_rows]; conv => whnf) | (refine ShhP.mk _ rfl ?_; conv => whnf) | (refine call_walk pok Tryz.func37 chk37 ?_; conv => whnf) | (refine HpP.force ?_; conv => whnf) | (intro t ht; cases t <;> conv => whnf)
              all_goals first | exact fin rfl | (exfalso; simp at ht; done) | (exfalso; simp at *; omega) | (exfalso; simp_all; done)
        · skip
          have hexS : exS W l p = if pckI p ≠ 0 then pckI p else if p.w ≠ W ∨ p.p.tmod 2 = 1 then 7 else 0 := by unfold exS; rw [hc, if_neg (by simp)]
          rw [if_pos hB] at hexS
          have c48 := expect48e (w := W) (l := l) (p := p) (by rw [hexS]; exact hB) false (by omega)
          rw [hexS] at c48
          rw [← pck_pchk] at c43
          generalize pckI p = eB at c43 c48 hB
          by_cases hC : ofE cw cb gs = 0
          · skip
            obtain ⟨CW, rfl, hCW⟩ : ∃ n : Nat, cw = n ∧ (1 ≤ n ∧ n ≤ 12) := by
              have := (cchk_ok (ofE_ok hC).1).1
              exact ⟨cw.toNat, by omega, by omega⟩
            have c46 := of46 hC ct (by omega) hgw
            have c49 := of49 (w := CW) (b := cb) (l := gs.map Gt.own) (by rw [ofE_own]; exact hC) false (by simp; omega) hgw'
            rw [ofS_own] at c49
            have hZl : (ofS CW gs).length = CW := by unfold ofS; rw [ofS_len, zeroS_len]
            generalize ofS CW gs = Z at c46 c49 hZl
            generalize tfB (gs.map Gt.own).length = tz at c49
            have ht2 := theirs18o (G := GG) CW Z tz (by omega) (by omega)
            have h27Z := equal27 (G := GG) CW CW Z Z false false (by omega)
            rw [decide_eq_true ⟨rfl, rfl⟩] at h27Z
            rw [hZl] at ht2
            have hrZ : ∀ ρ : Nat → Nat, some (Blk.ren ρ (dblk 4 (Z.map Ps.l))) = some (dblk 4 (Z.map Ps.l)) := fun ρ => by rw [ren_dblk]
            refine pc_walk pok Tryz.func5 chk5 ?_
            conv => whnf
            repeat' first | (refine LookP.mk _ (by first | rfl | exact lendA (hrR _) (by simp [hRl, hZl]) | exact lendW (hrR _) (by simp [hRl, hZl]) | exact lendA (hrZ _) (by simp [hRl, hZl]) | exact lendW (hrZ _) (by simp [hRl, hZl])) ?_; conv => whnf) | (refine ShlP.mk _ (by first | (simp only [List.set, over, List.take, List.drop, List.append_eq, List.nil_append, List.cons_append, List.length]; rfl) | rfl) ?_; conv => whnf) | (refine And.intro (by first | (simp [hRl, hZl]; done) | assumption | exact ⟨by kernel_rfl, rfl⟩ | decide | omega | exact ⟨rfl, by decide, by simp only [List.length_map, Nat.zero_add]; omega⟩) ?_; conv => whnf) | (refine beqT1 ?_; conv => whnf) | (refine beqF1 rfl ?_; conv => whnf) | (refine bneL rfl ?_; conv => whnf) | (refine beqF2 hB ?_; conv => whnf) | (refine po_use c47 ?_; conv => whnf) | (refine pc_use (c44) ?_; conv => whnf) | (refine pc_head (c44) ?_; conv => whnf) | (refine bneT ?_; conv => whnf) | (refine po_use c49 ?_; conv => whnf) | (refine pc_use (c46) ?_; conv => whnf) | (refine pc_head (c46) ?_; conv => whnf) | (refine pc_use (c39) ?_; conv => whnf) | (refine pc_head (c39) ?_; conv => whnf) | (refine pc_use (c16) ?_; conv => whnf) | (refine pc_head (c16) ?_; conv => whnf) | (refine pc_use (c40) ?_; conv => whnf) | (refine pc_head (c40) ?_; conv => whnf) | (refine pc_use (c24) ?_; conv => whnf) | (refine pc_head (c24) ?_; conv => whnf) | (refine pc_use (c18) ?_; conv => whnf) | (refine pc_head (c18) ?_; conv => whnf) | (refine pc_use (c17) ?_; conv => whnf) | (refine pc_head (c17) ?_; conv => whnf) | (refine pc_use (c41) ?_; conv => whnf) | (refine pc_head (c41) ?_; conv => whnf) | (refine pc_use (c42) ?_; conv => whnf) | (refine pc_head (c42) ?_; conv => whnf) | (refine pc_use (c43) ?_; conv => whnf) | (refine pc_head (c43) ?_; conv => whnf) | (refine pc_use (c48) ?_; conv => whnf) | (refine pc_head (c48) ?_; conv => whnf) | (refine pc_use (c23) ?_; conv => whnf) | (refine pc_head (c23) ?_; conv => whnf) | (refine pc_use (c50) ?_; conv => whnf) | (refine pc_head (c50) ?_; conv => whnf) | (refine pc_use (c51) ?_; conv => whnf) | (refine pc_head (c51) ?_; conv => whnf) | (refine pc_use (awake_c) ?_; conv => whnf) | (refine pc_head (awake_c) ?_; conv => whnf) | (refine spine_rd (rd_call rfl rfl (hrR _)) ?_; conv => whnf) | (refine spine_rd (rd_call rfl rfl (hrZ _)) ?_; conv => whnf) | (refine po_head ht1 ?_; conv => whnf) | (refine po_head ht2 ?_; conv => whnf) | (refine pc_use (h27R) ?_; conv => whnf) | (refine pc_head (h27R) ?_; conv => whnf) | (refine pc_use (h27Z) ?_; conv => whnf) | (refine pc_head (h27Z) ?_; conv => whnf) | (rw [flOf_rows]; conv => whnf) | (refine ShhP.mk _ rfl ?_; conv => whnf) | (refine call_walk pok Tryz.func37 chk37 ?_; conv => whnf) | (refine HpP.force ?_; conv => whnf) | (intro t ht; cases t <;> conv => whnf)
            all_goals first | exact fin rfl | (exfalso; simp at ht; done) | (exfalso; simp at *; omega) | (exfalso; simp_all; done)
          · skip
            have c46 := of46e hC ct (by omega) hgw
            have c49 := of49e (l := gs.map Gt.own) (by rw [ofE_own]; exact hC) false (by simp; omega) hgw'
            rw [ofE_own] at c49
            generalize ofE cw cb gs = eC at c46 c49 hC
            refine pc_walk pok Tryz.func5 chk5 ?_
            conv => whnf
            repeat' first | (refine LookP.mk _ (by first | rfl | exact lendA (hrR _) (by simp [hRl, hZl]) | exact lendW (hrR _) (by simp [hRl, hZl])) ?_; conv => whnf) | (refine ShlP.mk _ (by first | (simp only [List.set, over, List.take, List.drop, List.append_eq, List.nil_append, List.cons_append, List.length]; rfl) | rfl) ?_; conv => whnf) | (refine And.intro (by first | (simp [hRl, hZl]; done) | assumption | exact ⟨by kernel_rfl, rfl⟩ | decide | omega | exact ⟨rfl, by decide, by simp only [List.length_map, Nat.zero_add]; omega⟩) ?_; conv => whnf) | (refine beqT1 ?_; conv => whnf) | (refine beqF1 rfl ?_; conv => whnf) | (refine bneL rfl ?_; conv => whnf) | (refine beqF2 hB ?_; conv => whnf) | (refine po_use c47 ?_; conv => whnf) | (refine pc_use (c44) ?_; conv => whnf) | (refine pc_head (c44) ?_; conv => whnf) | (refine bneT ?_; conv => whnf) | (refine pc_use (c49) ?_; conv => whnf) | (refine pc_head (c49) ?_; conv => whnf) | (refine pc_use (c46) ?_; conv => whnf) | (refine pc_head (c46) ?_; conv => whnf) | (refine pc_use (c39) ?_; conv => whnf) | (refine pc_head (c39) ?_; conv => whnf) | (refine pc_use (c16) ?_; conv => whnf) | (refine pc_head (c16) ?_; conv => whnf) | (refine pc_use (c40) ?_; conv => whnf) | (refine pc_head (c40) ?_; conv => whnf) | (refine pc_use (c24) ?_; conv => whnf) | (refine pc_head (c24) ?_; conv => whnf) | (refine pc_use (c18) ?_; conv => whnf) | (refine pc_head (c18) ?_; conv => whnf) | (refine pc_use (c17) ?_; conv => whnf) | (refine pc_head (c17) ?_; conv => whnf) | (refine pc_use (c41) ?_; conv => whnf) | (refine pc_head (c41) ?_; conv => whnf) | (refine pc_use (c42) ?_; conv => whnf) | (refine pc_head (c42) ?_; conv => whnf) | (refine pc_use (c43) ?_; conv => whnf) | (refine pc_head (c43) ?_; conv => whnf) | (refine pc_use (c48) ?_; conv => whnf) | (refine pc_head (c48) ?_; conv => whnf) | (refine pc_use (c23) ?_; conv => whnf) | (refine pc_head (c23) ?_; conv => whnf) | (refine pc_use (c50) ?_; conv => whnf) | (refine pc_head (c50) ?_; conv => whnf) | (refine pc_use (c51) ?_; conv => whnf) | (refine pc_head (c51) ?_; conv => whnf) | (refine pc_use (awake_c) ?_; conv => whnf) | (refine pc_head (awake_c) ?_; conv => whnf) | (refine pc_use (alikeE _) ?_; conv => whnf) | (refine pc_head (alikeE _) ?_; conv => whnf) | (refine spine_rd (rd_call rfl rfl (hrR _)) ?_; conv => whnf) | (refine po_head ht1 ?_; conv => whnf) | (refine pc_use (h27R) ?_; conv => whnf) | (refine pc_head (h27R) ?_; conv => whnf) | (rw [flOf_rows]; conv => whnf) | (refine ShhP.mk _ rfl ?_; conv => whnf) | (refine call_walk pok Tryz.func37 chk37 ?_; conv => whnf) | (refine HpP.force ?_; conv => whnf) | (intro t ht; cases t <;> conv => whnf)
            all_goals first | exact fin rfl | (exfalso; simp at ht; done) | (exfalso; simp at *; omega) | (exfalso; simp_all; done)
      · skip
        have hapE : apE W l ⟨k, ws, false, b, i⟩ = if gchk ⟨k, ws, u, b, i⟩ W 0 ≠ 0 then gchk ⟨k, ws, u, b, i⟩ W 0 else if kindB k = true then 0 else 7 := by unfold apE; rw [hc, if_neg (by simp)]; rfl
        rw [if_neg (fun q => q hA), if_neg hK] at hapE
        have c47 := apply47e (w := W) (l := l) (g := ⟨k, ws, false, b, i⟩) (by rw [hapE]; decide) false (by omega) hL3
        rw [hapE] at c47
        rw [hA] at c41
        rw [show kindB k = false by simpa using hK] at c42
        by_cases hB : pckI p = 0
        · by_cases hX : p.w ≠ W ∨ p.p.tmod 2 = 1
          · skip
            have hexS : exS W l p = if pckI p ≠ 0 then pckI p else if p.w ≠ W ∨ p.p.tmod 2 = 1 then 7 else 0 := by unfold exS; rw [hc, if_neg (by simp)]
            rw [if_neg (fun q => q hB), if_pos hX] at hexS
            have c48 := expect48e (w := W) (l := l) (p := p) (by rw [hexS]; decide) false (by omega)
            rw [hexS] at c48
            rw [← pck_pchk, hB] at c43
            by_cases hC : ofE cw cb gs = 0
            · skip
              obtain ⟨CW, rfl, hCW⟩ : ∃ n : Nat, cw = n ∧ (1 ≤ n ∧ n ≤ 12) := by
                have := (cchk_ok (ofE_ok hC).1).1
                exact ⟨cw.toNat, by omega, by omega⟩
              have c46 := of46 hC ct (by omega) hgw
              have c49 := of49 (w := CW) (b := cb) (l := gs.map Gt.own) (by rw [ofE_own]; exact hC) false (by simp; omega) hgw'
              rw [ofS_own] at c49
              have hZl : (ofS CW gs).length = CW := by unfold ofS; rw [ofS_len, zeroS_len]
              generalize ofS CW gs = Z at c46 c49 hZl
              generalize tfB (gs.map Gt.own).length = tz at c49
              have ht2 := theirs18o (G := GG) CW Z tz (by omega) (by omega)
              have h27Z := equal27 (G := GG) CW CW Z Z false false (by omega)
              rw [decide_eq_true ⟨rfl, rfl⟩] at h27Z
              rw [hZl] at ht2
              have hrZ : ∀ ρ : Nat → Nat, some (Blk.ren ρ (dblk 4 (Z.map Ps.l))) = some (dblk 4 (Z.map Ps.l)) := fun ρ => by rw [ren_dblk]
              refine pc_walk pok Tryz.func5 chk5 ?_
              conv => whnf
              repeat' first | (refine LookP.mk _ (by first | rfl | exact lendA (hrZ _) (by simp [hRl, hZl]) | exact lendW (hrZ _) (by simp [hRl, hZl])) ?_; conv => whnf) | (refine ShlP.mk _ (by first | (simp only [List.set, over, List.take, List.drop, List.append_eq, List.nil_append, List.cons_append, List.length]; rfl) | rfl) ?_; conv => whnf) | (refine And.intro (by first | (simp [hRl, hZl]; done) | assumption | exact ⟨by kernel_rfl, rfl⟩ | decide | omega | exact ⟨rfl, by decide, by simp only [List.length_map, Nat.zero_add]; omega⟩) ?_; conv => whnf) | (refine beqT1 ?_; conv => whnf) | (refine beqF1 rfl ?_; conv => whnf) | (refine bneL rfl ?_; conv => whnf) | (refine pc_use (c47) ?_; conv => whnf) | (refine pc_head (c47) ?_; conv => whnf) | (refine bneT ?_; conv => whnf) | (refine po_use c49 ?_; conv => whnf) | (refine pc_use (c46) ?_; conv => whnf) | (refine pc_head (c46) ?_; conv => whnf) | (refine pc_use (c39) ?_; conv => whnf) | (refine pc_head (c39) ?_; conv => whnf) | (refine pc_use (c16) ?_; conv => whnf) | (refine pc_head (c16) ?_; conv => whnf) | (refine pc_use (c40) ?_; conv => whnf) | (refine pc_head (c40) ?_; conv => whnf) | (refine pc_use (c24) ?_; conv => whnf) | (refine pc_head (c24) ?_; conv => whnf) | (refine pc_use (c18) ?_; conv => whnf) | (refine pc_head (c18) ?_; conv => whnf) | (refine pc_use (c17) ?_; conv => whnf) | (refine pc_head (c17) ?_; conv => whnf) | (refine pc_use (c41) ?_; conv => whnf) | (refine pc_head (c41) ?_; conv => whnf) | (refine pc_use (c42) ?_; conv => whnf) | (refine pc_head (c42) ?_; conv => whnf) | (refine pc_use (c43) ?_; conv => whnf) | (refine pc_head (c43) ?_; conv => whnf) | (refine pc_use (c48) ?_; conv => whnf) | (refine pc_head (c48) ?_; conv => whnf) | (refine pc_use (c23) ?_; conv => whnf) | (refine pc_head (c23) ?_; conv => whnf) | (refine pc_use (c50) ?_; conv => whnf) | (refine pc_head (c50) ?_; conv => whnf) | (refine pc_use (c51) ?_; conv => whnf) | (refine pc_head (c51) ?_; conv => whnf) | (refine pc_use (awake_c) ?_; conv => whnf) | (refine pc_head (awake_c) ?_; conv => whnf) | (refine pc_use (alikeE _) ?_; conv => whnf) | (refine pc_head (alikeE _) ?_; conv => whnf) | (refine spine_rd (rd_call rfl rfl (hrZ _)) ?_; conv => whnf) | (refine po_head ht2 ?_; conv => whnf) | (refine pc_use (h27Z) ?_; conv => whnf) | (refine pc_head (h27Z) ?_; conv => whnf) | (rw [flOf_rows]; conv => whnf) | (refine ShhP.mk _ rfl ?_; conv => whnf) | (refine call_walk pok Tryz.func37 chk37 ?_; conv => whnf) | (refine HpP.force ?_; conv => whnf) | (intro t ht; cases t <;> conv => whnf)
              all_goals first | exact fin rfl | (exfalso; simp at ht; done) | (exfalso; simp at *; omega) | (exfalso; simp_all; done)
            · skip
              have c46 := of46e hC ct (by omega) hgw
              have c49 := of49e (l := gs.map Gt.own) (by rw [ofE_own]; exact hC) false (by simp; omega) hgw'
              rw [ofE_own] at c49
              generalize ofE cw cb gs = eC at c46 c49 hC
              refine pc_walk pok Tryz.func5 chk5 ?_
              conv => whnf
              repeat' first | (refine LookP.mk _ (by first | rfl) ?_; conv => whnf) | (refine ShlP.mk _ (by first | (simp only [List.set, over, List.take, List.drop, List.append_eq, List.nil_append, List.cons_append, List.length]; rfl) | rfl) ?_; conv => whnf) | (refine And.intro (by first | (simp [hRl, hZl]; done) | assumption | exact ⟨by kernel_rfl, rfl⟩ | decide | omega | exact ⟨rfl, by decide, by simp only [List.length_map, Nat.zero_add]; omega⟩) ?_; conv => whnf) | (refine beqT1 ?_; conv => whnf) | (refine beqF1 rfl ?_; conv => whnf) | (refine bneL rfl ?_; conv => whnf) | (refine pc_use (c47) ?_; conv => whnf) | (refine pc_head (c47) ?_; conv => whnf) | (refine bneT ?_; conv => whnf) | (refine pc_use (c49) ?_; conv => whnf) | (refine pc_head (c49) ?_; conv => whnf) | (refine pc_use (c46) ?_; conv => whnf) | (refine pc_head (c46) ?_; conv => whnf) | (refine pc_use (c39) ?_; conv => whnf) | (refine pc_head (c39) ?_; conv => whnf) | (refine pc_use (c16) ?_; conv => whnf) | (refine pc_head (c16) ?_; conv => whnf) | (refine pc_use (c40) ?_; conv => whnf) | (refine pc_head (c40) ?_; conv => whnf) | (refine pc_use (c24) ?_; conv => whnf) | (refine pc_head (c24) ?_; conv => whnf) | (refine pc_use (c18) ?_; conv => whnf) | (refine pc_head (c18) ?_; conv => whnf) | (refine pc_use (c17) ?_; conv => whnf) | (refine pc_head (c17) ?_; conv => whnf) | (refine pc_use (c41) ?_; conv => whnf) | (refine pc_head (c41) ?_; conv => whnf) | (refine pc_use (c42) ?_; conv => whnf) | (refine pc_head (c42) ?_; conv => whnf) | (refine pc_use (c43) ?_; conv => whnf) | (refine pc_head (c43) ?_; conv => whnf) | (refine pc_use (c48) ?_; conv => whnf) | (refine pc_head (c48) ?_; conv => whnf) | (refine pc_use (c23) ?_; conv => whnf) | (refine pc_head (c23) ?_; conv => whnf) | (refine pc_use (c50) ?_; conv => whnf) | (refine pc_head (c50) ?_; conv => whnf) | (refine pc_use (c51) ?_; conv => whnf) | (refine pc_head (c51) ?_; conv => whnf) | (refine pc_use (awake_c) ?_; conv => whnf) | (refine pc_head (awake_c) ?_; conv => whnf) | (refine pc_use (alikeE _) ?_; conv => whnf) | (refine pc_head (alikeE _) ?_; conv => whnf) | (refine HpP.force ?_; conv => whnf) | (intro t ht; cases t <;> conv => whnf)
              all_goals first | exact fin rfl | (exfalso; simp at ht; done) | (exfalso; simp at *; omega) | (exfalso; simp_all; done)
          · skip
            have hexS : exS W l p = if pckI p ≠ 0 then pckI p else if p.w ≠ W ∨ p.p.tmod 2 = 1 then 7 else 0 := by unfold exS; rw [hc, if_neg (by simp)]
            rw [if_neg (fun q => q hB), if_neg hX] at hexS
            have c48 := expect48 (w := W) (l := l) (p := p) hexS false
            obtain ⟨W2, hW2, _, hpv, hpp⟩ := exS_ok hexS
            obtain rfl : W2 = W := by omega
            have c45 := expect45 (G := GG) hs false hpv
            rw [exp_eq hs hpv hpp] at c48
            generalize expR W2 l p = ex at c45 c48
            rw [← pck_pchk, hB] at c43
            have hpw := vl_w hpv
            obtain ⟨pw, px, pz, pp⟩ := p
            obtain rfl : pw = W2 := hpw
            have hpp : pp.tmod 2 = 0 := hpp
            by_cases hC : ofE cw cb gs = 0
            · skip
              obtain ⟨CW, rfl, hCW⟩ : ∃ n : Nat, cw = n ∧ (1 ≤ n ∧ n ≤ 12) := by
                have := (cchk_ok (ofE_ok hC).1).1
                exact ⟨cw.toNat, by omega, by omega⟩
              have c46 := of46 hC ct (by omega) hgw
              have c49 := of49 (w := CW) (b := cb) (l := gs.map Gt.own) (by rw [ofE_own]; exact hC) false (by simp; omega) hgw'
              rw [ofS_own] at c49
              have hZl : (ofS CW gs).length = CW := by unfold ofS; rw [ofS_len, zeroS_len]
              generalize ofS CW gs = Z at c46 c49 hZl
              generalize tfB (gs.map Gt.own).length = tz at c49
              have ht2 := theirs18o (G := GG) CW Z tz (by omega) (by omega)
              have h27Z := equal27 (G := GG) CW CW Z Z false false (by omega)
              rw [decide_eq_true ⟨rfl, rfl⟩] at h27Z
              rw [hZl] at ht2
              have hrZ : ∀ ρ : Nat → Nat, some (Blk.ren ρ (dblk 4 (Z.map Ps.l))) = some (dblk 4 (Z.map Ps.l)) := fun ρ => by rw [ren_dblk]
              refine pc_walk pok Tryz.func5 chk5 ?_
              conv => whnf
              repeat' first | (refine LookP.mk _ (by first | rfl | exact lendA (hrZ _) (by simp [hRl, hZl]) | exact lendW (hrZ _) (by simp [hRl, hZl])) ?_; conv => whnf) | (refine ShlP.mk _ (by first | (simp only [List.set, over, List.take, List.drop, List.append_eq, List.nil_append, List.cons_append, List.length]; rfl) | rfl) ?_; conv => whnf) | (refine And.intro (by first | (simp [hRl, hZl]; done) | assumption | exact ⟨by kernel_rfl, rfl⟩ | decide | omega | exact ⟨rfl, by decide, by simp only [List.length_map, Nat.zero_add]; omega⟩) ?_; conv => whnf) | (refine beqT1 ?_; conv => whnf) | (refine beqF1 rfl ?_; conv => whnf) | (refine bneL rfl ?_; conv => whnf) | (refine pc_use (c47) ?_; conv => whnf) | (refine pc_head (c47) ?_; conv => whnf) | (refine bneT ?_; conv => whnf) | (rw [hpp]; conv => whnf) | (refine pc_use (c45) ?_; conv => whnf) | (refine pc_head (c45) ?_; conv => whnf) | (refine po_use c49 ?_; conv => whnf) | (refine pc_use (c46) ?_; conv => whnf) | (refine pc_head (c46) ?_; conv => whnf) | (refine pc_use (c39) ?_; conv => whnf) | (refine pc_head (c39) ?_; conv => whnf) | (refine pc_use (c16) ?_; conv => whnf) | (refine pc_head (c16) ?_; conv => whnf) | (refine pc_use (c40) ?_; conv => whnf) | (refine pc_head (c40) ?_; conv => whnf) | (refine pc_use (c24) ?_; conv => whnf) | (refine pc_head (c24) ?_; conv => whnf) | (refine pc_use (c18) ?_; conv => whnf) | (refine pc_head (c18) ?_; conv => whnf) | (refine pc_use (c17) ?_; conv => whnf) | (refine pc_head (c17) ?_; conv => whnf) | (refine pc_use (c41) ?_; conv => whnf) | (refine pc_head (c41) ?_; conv => whnf) | (refine pc_use (c42) ?_; conv => whnf) | (refine pc_head (c42) ?_; conv => whnf) | (refine pc_use (c43) ?_; conv => whnf) | (refine pc_head (c43) ?_; conv => whnf) | (refine pc_use (c48) ?_; conv => whnf) | (refine pc_head (c48) ?_; conv => whnf) | (refine pc_use (c23) ?_; conv => whnf) | (refine pc_head (c23) ?_; conv => whnf) | (refine pc_use (c50) ?_; conv => whnf) | (refine pc_head (c50) ?_; conv => whnf) | (refine pc_use (c51) ?_; conv => whnf) | (refine pc_head (c51) ?_; conv => whnf) | (refine pc_use (awake_c) ?_; conv => whnf) | (refine pc_head (awake_c) ?_; conv => whnf) | (refine pc_use (alikeE _) ?_; conv => whnf) | (refine pc_head (alikeE _) ?_; conv => whnf) | (refine spine_rd (rd_call rfl rfl (hrZ _)) ?_; conv => whnf) | (refine po_head ht2 ?_; conv => whnf) | (refine pc_use (h27Z) ?_; conv => whnf) | (refine pc_head (h27Z) ?_; conv => whnf) | (rw [flOf_rows]; conv => whnf) | (refine ShhP.mk _ rfl ?_; conv => whnf) | (refine call_walk pok Tryz.func37 chk37 ?_; conv => whnf) | (refine HpP.force ?_; conv => whnf) | (intro t ht; cases t <;> conv => whnf)
              all_goals first | exact fin rfl | (exfalso; simp at ht; done) | (exfalso; simp at *; omega) | (exfalso; simp_all; done)
            · skip
              have c46 := of46e hC ct (by omega) hgw
              have c49 := of49e (l := gs.map Gt.own) (by rw [ofE_own]; exact hC) false (by simp; omega) hgw'
              rw [ofE_own] at c49
              generalize ofE cw cb gs = eC at c46 c49 hC
              refine pc_walk pok Tryz.func5 chk5 ?_
              conv => whnf
              repeat' first | (refine LookP.mk _ (by first | rfl) ?_; conv => whnf) | (refine ShlP.mk _ (by first | (simp only [List.set, over, List.take, List.drop, List.append_eq, List.nil_append, List.cons_append, List.length]; rfl) | rfl) ?_; conv => whnf) | (refine And.intro (by first | (simp [hRl, hZl]; done) | assumption | exact ⟨by kernel_rfl, rfl⟩ | decide | omega | exact ⟨rfl, by decide, by simp only [List.length_map, Nat.zero_add]; omega⟩) ?_; conv => whnf) | (refine beqT1 ?_; conv => whnf) | (refine beqF1 rfl ?_; conv => whnf) | (refine bneL rfl ?_; conv => whnf) | (refine pc_use (c47) ?_; conv => whnf) | (refine pc_head (c47) ?_; conv => whnf) | (refine bneT ?_; conv => whnf) | (rw [hpp]; conv => whnf) | (refine pc_use (c45) ?_; conv => whnf) | (refine pc_head (c45) ?_; conv => whnf) | (refine pc_use (c49) ?_; conv => whnf) | (refine pc_head (c49) ?_; conv => whnf) | (refine pc_use (c46) ?_; conv => whnf) | (refine pc_head (c46) ?_; conv => whnf) | (refine pc_use (c39) ?_; conv => whnf) | (refine pc_head (c39) ?_; conv => whnf) | (refine pc_use (c16) ?_; conv => whnf) | (refine pc_head (c16) ?_; conv => whnf) | (refine pc_use (c40) ?_; conv => whnf) | (refine pc_head (c40) ?_; conv => whnf) | (refine pc_use (c24) ?_; conv => whnf) | (refine pc_head (c24) ?_; conv => whnf) | (refine pc_use (c18) ?_; conv => whnf) | (refine pc_head (c18) ?_; conv => whnf) | (refine pc_use (c17) ?_; conv => whnf) | (refine pc_head (c17) ?_; conv => whnf) | (refine pc_use (c41) ?_; conv => whnf) | (refine pc_head (c41) ?_; conv => whnf) | (refine pc_use (c42) ?_; conv => whnf) | (refine pc_head (c42) ?_; conv => whnf) | (refine pc_use (c43) ?_; conv => whnf) | (refine pc_head (c43) ?_; conv => whnf) | (refine pc_use (c48) ?_; conv => whnf) | (refine pc_head (c48) ?_; conv => whnf) | (refine pc_use (c23) ?_; conv => whnf) | (refine pc_head (c23) ?_; conv => whnf) | (refine pc_use (c50) ?_; conv => whnf) | (refine pc_head (c50) ?_; conv => whnf) | (refine pc_use (c51) ?_; conv => whnf) | (refine pc_head (c51) ?_; conv => whnf) | (refine pc_use (awake_c) ?_; conv => whnf) | (refine pc_head (awake_c) ?_; conv => whnf) | (refine pc_use (alikeE _) ?_; conv => whnf) | (refine pc_head (alikeE _) ?_; conv => whnf) | (refine HpP.force ?_; conv => whnf) | (intro t ht; cases t <;> conv => whnf)
              all_goals first | exact fin rfl | (exfalso; simp at ht; done) | (exfalso; simp at *; omega) | (exfalso; simp_all; done)
        · skip
          have hexS : exS W l p = if pckI p ≠ 0 then pckI p else if p.w ≠ W ∨ p.p.tmod 2 = 1 then 7 else 0 := by unfold exS; rw [hc, if_neg (by simp)]
          rw [if_pos hB] at hexS
          have c48 := expect48e (w := W) (l := l) (p := p) (by rw [hexS]; exact hB) false (by omega)
          rw [hexS] at c48
          rw [← pck_pchk] at c43
          generalize pckI p = eB at c43 c48 hB
          by_cases hC : ofE cw cb gs = 0
          · skip
            obtain ⟨CW, rfl, hCW⟩ : ∃ n : Nat, cw = n ∧ (1 ≤ n ∧ n ≤ 12) := by
              have := (cchk_ok (ofE_ok hC).1).1
              exact ⟨cw.toNat, by omega, by omega⟩
            have c46 := of46 hC ct (by omega) hgw
            have c49 := of49 (w := CW) (b := cb) (l := gs.map Gt.own) (by rw [ofE_own]; exact hC) false (by simp; omega) hgw'
            rw [ofS_own] at c49
            have hZl : (ofS CW gs).length = CW := by unfold ofS; rw [ofS_len, zeroS_len]
            generalize ofS CW gs = Z at c46 c49 hZl
            generalize tfB (gs.map Gt.own).length = tz at c49
            have ht2 := theirs18o (G := GG) CW Z tz (by omega) (by omega)
            have h27Z := equal27 (G := GG) CW CW Z Z false false (by omega)
            rw [decide_eq_true ⟨rfl, rfl⟩] at h27Z
            rw [hZl] at ht2
            have hrZ : ∀ ρ : Nat → Nat, some (Blk.ren ρ (dblk 4 (Z.map Ps.l))) = some (dblk 4 (Z.map Ps.l)) := fun ρ => by rw [ren_dblk]
            refine pc_walk pok Tryz.func5 chk5 ?_
            conv => whnf
            repeat' first | (refine LookP.mk _ (by first | rfl | exact lendA (hrZ _) (by simp [hRl, hZl]) | exact lendW (hrZ _) (by simp [hRl, hZl])) ?_; conv => whnf) | (refine ShlP.mk _ (by first | (simp only [List.set, over, List.take, List.drop, List.append_eq, List.nil_append, List.cons_append, List.length]; rfl) | rfl) ?_; conv => whnf) | (refine And.intro (by first | (simp [hRl, hZl]; done) | assumption | exact ⟨by kernel_rfl, rfl⟩ | decide | omega | exact ⟨rfl, by decide, by simp only [List.length_map, Nat.zero_add]; omega⟩) ?_; conv => whnf) | (refine beqT1 ?_; conv => whnf) | (refine beqF1 rfl ?_; conv => whnf) | (refine bneL rfl ?_; conv => whnf) | (refine beqF2 hB ?_; conv => whnf) | (refine pc_use (c47) ?_; conv => whnf) | (refine pc_head (c47) ?_; conv => whnf) | (refine bneT ?_; conv => whnf) | (refine po_use c49 ?_; conv => whnf) | (refine pc_use (c46) ?_; conv => whnf) | (refine pc_head (c46) ?_; conv => whnf) | (refine pc_use (c39) ?_; conv => whnf) | (refine pc_head (c39) ?_; conv => whnf) | (refine pc_use (c16) ?_; conv => whnf) | (refine pc_head (c16) ?_; conv => whnf) | (refine pc_use (c40) ?_; conv => whnf) | (refine pc_head (c40) ?_; conv => whnf) | (refine pc_use (c24) ?_; conv => whnf) | (refine pc_head (c24) ?_; conv => whnf) | (refine pc_use (c18) ?_; conv => whnf) | (refine pc_head (c18) ?_; conv => whnf) | (refine pc_use (c17) ?_; conv => whnf) | (refine pc_head (c17) ?_; conv => whnf) | (refine pc_use (c41) ?_; conv => whnf) | (refine pc_head (c41) ?_; conv => whnf) | (refine pc_use (c42) ?_; conv => whnf) | (refine pc_head (c42) ?_; conv => whnf) | (refine pc_use (c43) ?_; conv => whnf) | (refine pc_head (c43) ?_; conv => whnf) | (refine pc_use (c48) ?_; conv => whnf) | (refine pc_head (c48) ?_; conv => whnf) | (refine pc_use (c23) ?_; conv => whnf) | (refine pc_head (c23) ?_; conv => whnf) | (refine pc_use (c50) ?_; conv => whnf) | (refine pc_head (c50) ?_; conv => whnf) | (refine pc_use (c51) ?_; conv => whnf) | (refine pc_head (c51) ?_; conv => whnf) | (refine pc_use (awake_c) ?_; conv => whnf) | (refine pc_head (awake_c) ?_; conv => whnf) | (refine pc_use (alikeE _) ?_; conv => whnf) | (refine pc_head (alikeE _) ?_; conv => whnf) | (refine spine_rd (rd_call rfl rfl (hrZ _)) ?_; conv => whnf) | (refine po_head ht2 ?_; conv => whnf) | (refine pc_use (h27Z) ?_; conv => whnf) | (refine pc_head (h27Z) ?_; conv => whnf) | (rw [flOf_rows]; conv => whnf) | (refine ShhP.mk _ rfl ?_; conv => whnf) | (refine call_walk pok Tryz.func37 chk37 ?_; conv => whnf) | (refine HpP.force ?_; conv => whnf) | (intro t ht; cases t <;> conv => whnf)
            all_goals first | exact fin rfl | (exfalso; simp at ht; done) | (exfalso; simp at *; omega) | (exfalso; simp_all; done)
          · skip
            have c46 := of46e hC ct (by omega) hgw
            have c49 := of49e (l := gs.map Gt.own) (by rw [ofE_own]; exact hC) false (by simp; omega) hgw'
            rw [ofE_own] at c49
            generalize ofE cw cb gs = eC at c46 c49 hC
            refine pc_walk pok Tryz.func5 chk5 ?_
            conv => whnf
            repeat' first | (refine LookP.mk _ (by first | rfl) ?_; conv => whnf) | (refine ShlP.mk _ (by first | (simp only [List.set, over, List.take, List.drop, List.append_eq, List.nil_append, List.cons_append, List.length]; rfl) | rfl) ?_; conv => whnf) | (refine And.intro (by first | (simp [hRl, hZl]; done) | assumption | exact ⟨by kernel_rfl, rfl⟩ | decide | omega | exact ⟨rfl, by decide, by simp only [List.length_map, Nat.zero_add]; omega⟩) ?_; conv => whnf) | (refine beqT1 ?_; conv => whnf) | (refine beqF1 rfl ?_; conv => whnf) | (refine bneL rfl ?_; conv => whnf) | (refine beqF2 hB ?_; conv => whnf) | (refine pc_use (c47) ?_; conv => whnf) | (refine pc_head (c47) ?_; conv => whnf) | (refine bneT ?_; conv => whnf) | (refine pc_use (c49) ?_; conv => whnf) | (refine pc_head (c49) ?_; conv => whnf) | (refine pc_use (c46) ?_; conv => whnf) | (refine pc_head (c46) ?_; conv => whnf) | (refine pc_use (c39) ?_; conv => whnf) | (refine pc_head (c39) ?_; conv => whnf) | (refine pc_use (c16) ?_; conv => whnf) | (refine pc_head (c16) ?_; conv => whnf) | (refine pc_use (c40) ?_; conv => whnf) | (refine pc_head (c40) ?_; conv => whnf) | (refine pc_use (c24) ?_; conv => whnf) | (refine pc_head (c24) ?_; conv => whnf) | (refine pc_use (c18) ?_; conv => whnf) | (refine pc_head (c18) ?_; conv => whnf) | (refine pc_use (c17) ?_; conv => whnf) | (refine pc_head (c17) ?_; conv => whnf) | (refine pc_use (c41) ?_; conv => whnf) | (refine pc_head (c41) ?_; conv => whnf) | (refine pc_use (c42) ?_; conv => whnf) | (refine pc_head (c42) ?_; conv => whnf) | (refine pc_use (c43) ?_; conv => whnf) | (refine pc_head (c43) ?_; conv => whnf) | (refine pc_use (c48) ?_; conv => whnf) | (refine pc_head (c48) ?_; conv => whnf) | (refine pc_use (c23) ?_; conv => whnf) | (refine pc_head (c23) ?_; conv => whnf) | (refine pc_use (c50) ?_; conv => whnf) | (refine pc_head (c50) ?_; conv => whnf) | (refine pc_use (c51) ?_; conv => whnf) | (refine pc_head (c51) ?_; conv => whnf) | (refine pc_use (awake_c) ?_; conv => whnf) | (refine pc_head (awake_c) ?_; conv => whnf) | (refine pc_use (alikeE _) ?_; conv => whnf) | (refine pc_head (alikeE _) ?_; conv => whnf) | (refine HpP.force ?_; conv => whnf) | (intro t ht; cases t <;> conv => whnf)
            all_goals first | exact fin rfl | (exfalso; simp at ht; done) | (exfalso; simp at *; omega) | (exfalso; simp_all; done)
    · skip
      have hapE : apE W l ⟨k, ws, false, b, i⟩ = if gchk ⟨k, ws, u, b, i⟩ W 0 ≠ 0 then gchk ⟨k, ws, u, b, i⟩ W 0 else if kindB k = true then 0 else 7 := by unfold apE; rw [hc, if_neg (by simp)]; rfl
      rw [if_pos hA] at hapE
      have c47 := apply47e (w := W) (l := l) (g := ⟨k, ws, false, b, i⟩) (by rw [hapE]; exact hA) false (by omega) hL3
      rw [hapE] at c47
      generalize gchk ⟨k, ws, u, b, i⟩ W 0 = eA at c41 c47 hA
      by_cases hB : pckI p = 0
      · by_cases hX : p.w ≠ W ∨ p.p.tmod 2 = 1
        · skip
          have hexS : exS W l p = if pckI p ≠ 0 then pckI p else if p.w ≠ W ∨ p.p.tmod 2 = 1 then 7 else 0 := by unfold exS; rw [hc, if_neg (by simp)]
          rw [if_neg (fun q => q hB), if_pos hX] at hexS
          have c48 := expect48e (w := W) (l := l) (p := p) (by rw [hexS]; decide) false (by omega)
          rw [hexS] at c48
          rw [← pck_pchk, hB] at c43
          by_cases hC : ofE cw cb gs = 0
          · skip
            obtain ⟨CW, rfl, hCW⟩ : ∃ n : Nat, cw = n ∧ (1 ≤ n ∧ n ≤ 12) := by
              have := (cchk_ok (ofE_ok hC).1).1
              exact ⟨cw.toNat, by omega, by omega⟩
            have c46 := of46 hC ct (by omega) hgw
            have c49 := of49 (w := CW) (b := cb) (l := gs.map Gt.own) (by rw [ofE_own]; exact hC) false (by simp; omega) hgw'
            rw [ofS_own] at c49
            have hZl : (ofS CW gs).length = CW := by unfold ofS; rw [ofS_len, zeroS_len]
            generalize ofS CW gs = Z at c46 c49 hZl
            generalize tfB (gs.map Gt.own).length = tz at c49
            have ht2 := theirs18o (G := GG) CW Z tz (by omega) (by omega)
            have h27Z := equal27 (G := GG) CW CW Z Z false false (by omega)
            rw [decide_eq_true ⟨rfl, rfl⟩] at h27Z
            rw [hZl] at ht2
            have hrZ : ∀ ρ : Nat → Nat, some (Blk.ren ρ (dblk 4 (Z.map Ps.l))) = some (dblk 4 (Z.map Ps.l)) := fun ρ => by rw [ren_dblk]
            refine pc_walk pok Tryz.func5 chk5 ?_
            conv => whnf
            repeat' first | (refine LookP.mk _ (by first | rfl | exact lendA (hrZ _) (by simp [hRl, hZl]) | exact lendW (hrZ _) (by simp [hRl, hZl])) ?_; conv => whnf) | (refine ShlP.mk _ (by first | (simp only [List.set, over, List.take, List.drop, List.append_eq, List.nil_append, List.cons_append, List.length]; rfl) | rfl) ?_; conv => whnf) | (refine And.intro (by first | (simp [hRl, hZl]; done) | assumption | exact ⟨by kernel_rfl, rfl⟩ | decide | omega | exact ⟨rfl, by decide, by simp only [List.length_map, Nat.zero_add]; omega⟩) ?_; conv => whnf) | (refine beqT1 ?_; conv => whnf) | (refine beqF1 rfl ?_; conv => whnf) | (refine bneL rfl ?_; conv => whnf) | (refine beqF2 hA ?_; conv => whnf) | (refine pc_use (c47) ?_; conv => whnf) | (refine pc_head (c47) ?_; conv => whnf) | (refine bneT ?_; conv => whnf) | (refine po_use c49 ?_; conv => whnf) | (refine pc_use (c46) ?_; conv => whnf) | (refine pc_head (c46) ?_; conv => whnf) | (refine pc_use (c39) ?_; conv => whnf) | (refine pc_head (c39) ?_; conv => whnf) | (refine pc_use (c16) ?_; conv => whnf) | (refine pc_head (c16) ?_; conv => whnf) | (refine pc_use (c40) ?_; conv => whnf) | (refine pc_head (c40) ?_; conv => whnf) | (refine pc_use (c24) ?_; conv => whnf) | (refine pc_head (c24) ?_; conv => whnf) | (refine pc_use (c18) ?_; conv => whnf) | (refine pc_head (c18) ?_; conv => whnf) | (refine pc_use (c17) ?_; conv => whnf) | (refine pc_head (c17) ?_; conv => whnf) | (refine pc_use (c41) ?_; conv => whnf) | (refine pc_head (c41) ?_; conv => whnf) | (refine pc_use (c42) ?_; conv => whnf) | (refine pc_head (c42) ?_; conv => whnf) | (refine pc_use (c43) ?_; conv => whnf) | (refine pc_head (c43) ?_; conv => whnf) | (refine pc_use (c48) ?_; conv => whnf) | (refine pc_head (c48) ?_; conv => whnf) | (refine pc_use (c23) ?_; conv => whnf) | (refine pc_head (c23) ?_; conv => whnf) | (refine pc_use (c50) ?_; conv => whnf) | (refine pc_head (c50) ?_; conv => whnf) | (refine pc_use (c51) ?_; conv => whnf) | (refine pc_head (c51) ?_; conv => whnf) | (refine pc_use (awake_c) ?_; conv => whnf) | (refine pc_head (awake_c) ?_; conv => whnf) | (refine pc_use (alikeE _) ?_; conv => whnf) | (refine pc_head (alikeE _) ?_; conv => whnf) | (refine spine_rd (rd_call rfl rfl (hrZ _)) ?_; conv => whnf) | (refine po_head ht2 ?_; conv => whnf) | (refine pc_use (h27Z) ?_; conv => whnf) | (refine pc_head (h27Z) ?_; conv => whnf) | (rw [flOf_rows]; conv => whnf) | (refine ShhP.mk _ rfl ?_; conv => whnf) | (refine call_walk pok Tryz.func37 chk37 ?_; conv => whnf) | (refine HpP.force ?_; conv => whnf) | (intro t ht; cases t <;> conv => whnf)
            all_goals first | exact fin rfl | (exfalso; simp at ht; done) | (exfalso; simp at *; omega) | (exfalso; simp_all; done)
          · skip
            have c46 := of46e hC ct (by omega) hgw
            have c49 := of49e (l := gs.map Gt.own) (by rw [ofE_own]; exact hC) false (by simp; omega) hgw'
            rw [ofE_own] at c49
            generalize ofE cw cb gs = eC at c46 c49 hC
            refine pc_walk pok Tryz.func5 chk5 ?_
            conv => whnf
            repeat' first | (refine LookP.mk _ (by first | rfl) ?_; conv => whnf) | (refine ShlP.mk _ (by first | (simp only [List.set, over, List.take, List.drop, List.append_eq, List.nil_append, List.cons_append, List.length]; rfl) | rfl) ?_; conv => whnf) | (refine And.intro (by first | (simp [hRl, hZl]; done) | assumption | exact ⟨by kernel_rfl, rfl⟩ | decide | omega | exact ⟨rfl, by decide, by simp only [List.length_map, Nat.zero_add]; omega⟩) ?_; conv => whnf) | (refine beqT1 ?_; conv => whnf) | (refine beqF1 rfl ?_; conv => whnf) | (refine bneL rfl ?_; conv => whnf) | (refine beqF2 hA ?_; conv => whnf) | (refine pc_use (c47) ?_; conv => whnf) | (refine pc_head (c47) ?_; conv => whnf) | (refine bneT ?_; conv => whnf) | (refine pc_use (c49) ?_; conv => whnf) | (refine pc_head (c49) ?_; conv => whnf) | (refine pc_use (c46) ?_; conv => whnf) | (refine pc_head (c46) ?_; conv => whnf) | (refine pc_use (c39) ?_; conv => whnf) | (refine pc_head (c39) ?_; conv => whnf) | (refine pc_use (c16) ?_; conv => whnf) | (refine pc_head (c16) ?_; conv => whnf) | (refine pc_use (c40) ?_; conv => whnf) | (refine pc_head (c40) ?_; conv => whnf) | (refine pc_use (c24) ?_; conv => whnf) | (refine pc_head (c24) ?_; conv => whnf) | (refine pc_use (c18) ?_; conv => whnf) | (refine pc_head (c18) ?_; conv => whnf) | (refine pc_use (c17) ?_; conv => whnf) | (refine pc_head (c17) ?_; conv => whnf) | (refine pc_use (c41) ?_; conv => whnf) | (refine pc_head (c41) ?_; conv => whnf) | (refine pc_use (c42) ?_; conv => whnf) | (refine pc_head (c42) ?_; conv => whnf) | (refine pc_use (c43) ?_; conv => whnf) | (refine pc_head (c43) ?_; conv => whnf) | (refine pc_use (c48) ?_; conv => whnf) | (refine pc_head (c48) ?_; conv => whnf) | (refine pc_use (c23) ?_; conv => whnf) | (refine pc_head (c23) ?_; conv => whnf) | (refine pc_use (c50) ?_; conv => whnf) | (refine pc_head (c50) ?_; conv => whnf) | (refine pc_use (c51) ?_; conv => whnf) | (refine pc_head (c51) ?_; conv => whnf) | (refine pc_use (awake_c) ?_; conv => whnf) | (refine pc_head (awake_c) ?_; conv => whnf) | (refine pc_use (alikeE _) ?_; conv => whnf) | (refine pc_head (alikeE _) ?_; conv => whnf) | (refine HpP.force ?_; conv => whnf) | (intro t ht; cases t <;> conv => whnf)
            all_goals first | exact fin rfl | (exfalso; simp at ht; done) | (exfalso; simp at *; omega) | (exfalso; simp_all; done)
        · skip
          have hexS : exS W l p = if pckI p ≠ 0 then pckI p else if p.w ≠ W ∨ p.p.tmod 2 = 1 then 7 else 0 := by unfold exS; rw [hc, if_neg (by simp)]
          rw [if_neg (fun q => q hB), if_neg hX] at hexS
          have c48 := expect48 (w := W) (l := l) (p := p) hexS false
          obtain ⟨W2, hW2, _, hpv, hpp⟩ := exS_ok hexS
          obtain rfl : W2 = W := by omega
          have c45 := expect45 (G := GG) hs false hpv
          rw [exp_eq hs hpv hpp] at c48
          generalize expR W2 l p = ex at c45 c48
          rw [← pck_pchk, hB] at c43
          have hpw := vl_w hpv
          obtain ⟨pw, px, pz, pp⟩ := p
          obtain rfl : pw = W2 := hpw
          have hpp : pp.tmod 2 = 0 := hpp
          by_cases hC : ofE cw cb gs = 0
          · skip
            obtain ⟨CW, rfl, hCW⟩ : ∃ n : Nat, cw = n ∧ (1 ≤ n ∧ n ≤ 12) := by
              have := (cchk_ok (ofE_ok hC).1).1
              exact ⟨cw.toNat, by omega, by omega⟩
            have c46 := of46 hC ct (by omega) hgw
            have c49 := of49 (w := CW) (b := cb) (l := gs.map Gt.own) (by rw [ofE_own]; exact hC) false (by simp; omega) hgw'
            rw [ofS_own] at c49
            have hZl : (ofS CW gs).length = CW := by unfold ofS; rw [ofS_len, zeroS_len]
            generalize ofS CW gs = Z at c46 c49 hZl
            generalize tfB (gs.map Gt.own).length = tz at c49
            have ht2 := theirs18o (G := GG) CW Z tz (by omega) (by omega)
            have h27Z := equal27 (G := GG) CW CW Z Z false false (by omega)
            rw [decide_eq_true ⟨rfl, rfl⟩] at h27Z
            rw [hZl] at ht2
            have hrZ : ∀ ρ : Nat → Nat, some (Blk.ren ρ (dblk 4 (Z.map Ps.l))) = some (dblk 4 (Z.map Ps.l)) := fun ρ => by rw [ren_dblk]
            refine pc_walk pok Tryz.func5 chk5 ?_
            conv => whnf
            repeat' first | (refine LookP.mk _ (by first | rfl | exact lendA (hrZ _) (by simp [hRl, hZl]) | exact lendW (hrZ _) (by simp [hRl, hZl])) ?_; conv => whnf) | (refine ShlP.mk _ (by first | (simp only [List.set, over, List.take, List.drop, List.append_eq, List.nil_append, List.cons_append, List.length]; rfl) | rfl) ?_; conv => whnf) | (refine And.intro (by first | (simp [hRl, hZl]; done) | assumption | exact ⟨by kernel_rfl, rfl⟩ | decide | omega | exact ⟨rfl, by decide, by simp only [List.length_map, Nat.zero_add]; omega⟩) ?_; conv => whnf) | (refine beqT1 ?_; conv => whnf) | (refine beqF1 rfl ?_; conv => whnf) | (refine bneL rfl ?_; conv => whnf) | (refine beqF2 hA ?_; conv => whnf) | (refine pc_use (c47) ?_; conv => whnf) | (refine pc_head (c47) ?_; conv => whnf) | (refine bneT ?_; conv => whnf) | (rw [hpp]; conv => whnf) | (refine pc_use (c45) ?_; conv => whnf) | (refine pc_head (c45) ?_; conv => whnf) | (refine po_use c49 ?_; conv => whnf) | (refine pc_use (c46) ?_; conv => whnf) | (refine pc_head (c46) ?_; conv => whnf) | (refine pc_use (c39) ?_; conv => whnf) | (refine pc_head (c39) ?_; conv => whnf) | (refine pc_use (c16) ?_; conv => whnf) | (refine pc_head (c16) ?_; conv => whnf) | (refine pc_use (c40) ?_; conv => whnf) | (refine pc_head (c40) ?_; conv => whnf) | (refine pc_use (c24) ?_; conv => whnf) | (refine pc_head (c24) ?_; conv => whnf) | (refine pc_use (c18) ?_; conv => whnf) | (refine pc_head (c18) ?_; conv => whnf) | (refine pc_use (c17) ?_; conv => whnf) | (refine pc_head (c17) ?_; conv => whnf) | (refine pc_use (c41) ?_; conv => whnf) | (refine pc_head (c41) ?_; conv => whnf) | (refine pc_use (c42) ?_; conv => whnf) | (refine pc_head (c42) ?_; conv => whnf) | (refine pc_use (c43) ?_; conv => whnf) | (refine pc_head (c43) ?_; conv => whnf) | (refine pc_use (c48) ?_; conv => whnf) | (refine pc_head (c48) ?_; conv => whnf) | (refine pc_use (c23) ?_; conv => whnf) | (refine pc_head (c23) ?_; conv => whnf) | (refine pc_use (c50) ?_; conv => whnf) | (refine pc_head (c50) ?_; conv => whnf) | (refine pc_use (c51) ?_; conv => whnf) | (refine pc_head (c51) ?_; conv => whnf) | (refine pc_use (awake_c) ?_; conv => whnf) | (refine pc_head (awake_c) ?_; conv => whnf) | (refine pc_use (alikeE _) ?_; conv => whnf) | (refine pc_head (alikeE _) ?_; conv => whnf) | (refine spine_rd (rd_call rfl rfl (hrZ _)) ?_; conv => whnf) | (refine po_head ht2 ?_; conv => whnf) | (refine pc_use (h27Z) ?_; conv => whnf) | (refine pc_head (h27Z) ?_; conv => whnf) | (rw [flOf_rows]; conv => whnf) | (refine ShhP.mk _ rfl ?_; conv => whnf) | (refine call_walk pok Tryz.func37 chk37 ?_; conv => whnf) | (refine HpP.force ?_; conv => whnf) | (intro t ht; cases t <;> conv => whnf)
            all_goals first | exact fin rfl | (exfalso; simp at ht; done) | (exfalso; simp at *; omega) | (exfalso; simp_all; done)
          · skip
            have c46 := of46e hC ct (by omega) hgw
            have c49 := of49e (l := gs.map Gt.own) (by rw [ofE_own]; exact hC) false (by simp; omega) hgw'
            rw [ofE_own] at c49
            generalize ofE cw cb gs = eC at c46 c49 hC
            refine pc_walk pok Tryz.func5 chk5 ?_
            conv => whnf
            repeat' first | (refine LookP.mk _ (by first | rfl) ?_; conv => whnf) | (refine ShlP.mk _ (by first | (simp only [List.set, over, List.take, List.drop, List.append_eq, List.nil_append, List.cons_append, List.length]; rfl) | rfl) ?_; conv => whnf) | (refine And.intro (by first | (simp [hRl, hZl]; done) | assumption | exact ⟨by kernel_rfl, rfl⟩ | decide | omega | exact ⟨rfl, by decide, by simp only [List.length_map, Nat.zero_add]; omega⟩) ?_; conv => whnf) | (refine beqT1 ?_; conv => whnf) | (refine beqF1 rfl ?_; conv => whnf) | (refine bneL rfl ?_; conv => whnf) | (refine beqF2 hA ?_; conv => whnf) | (refine pc_use (c47) ?_; conv => whnf) | (refine pc_head (c47) ?_; conv => whnf) | (refine bneT ?_; conv => whnf) | (rw [hpp]; conv => whnf) | (refine pc_use (c45) ?_; conv => whnf) | (refine pc_head (c45) ?_; conv => whnf) | (refine pc_use (c49) ?_; conv => whnf) | (refine pc_head (c49) ?_; conv => whnf) | (refine pc_use (c46) ?_; conv => whnf) | (refine pc_head (c46) ?_; conv => whnf) | (refine pc_use (c39) ?_; conv => whnf) | (refine pc_head (c39) ?_; conv => whnf) | (refine pc_use (c16) ?_; conv => whnf) | (refine pc_head (c16) ?_; conv => whnf) | (refine pc_use (c40) ?_; conv => whnf) | (refine pc_head (c40) ?_; conv => whnf) | (refine pc_use (c24) ?_; conv => whnf) | (refine pc_head (c24) ?_; conv => whnf) | (refine pc_use (c18) ?_; conv => whnf) | (refine pc_head (c18) ?_; conv => whnf) | (refine pc_use (c17) ?_; conv => whnf) | (refine pc_head (c17) ?_; conv => whnf) | (refine pc_use (c41) ?_; conv => whnf) | (refine pc_head (c41) ?_; conv => whnf) | (refine pc_use (c42) ?_; conv => whnf) | (refine pc_head (c42) ?_; conv => whnf) | (refine pc_use (c43) ?_; conv => whnf) | (refine pc_head (c43) ?_; conv => whnf) | (refine pc_use (c48) ?_; conv => whnf) | (refine pc_head (c48) ?_; conv => whnf) | (refine pc_use (c23) ?_; conv => whnf) | (refine pc_head (c23) ?_; conv => whnf) | (refine pc_use (c50) ?_; conv => whnf) | (refine pc_head (c50) ?_; conv => whnf) | (refine pc_use (c51) ?_; conv => whnf) | (refine pc_head (c51) ?_; conv => whnf) | (refine pc_use (awake_c) ?_; conv => whnf) | (refine pc_head (awake_c) ?_; conv => whnf) | (refine pc_use (alikeE _) ?_; conv => whnf) | (refine pc_head (alikeE _) ?_; conv => whnf) | (refine HpP.force ?_; conv => whnf) | (intro t ht; cases t <;> conv => whnf)
            all_goals first | exact fin rfl | (exfalso; simp at ht; done) | (exfalso; simp at *; omega) | (exfalso; simp_all; done)
      · skip
        have hexS : exS W l p = if pckI p ≠ 0 then pckI p else if p.w ≠ W ∨ p.p.tmod 2 = 1 then 7 else 0 := by unfold exS; rw [hc, if_neg (by simp)]
        rw [if_pos hB] at hexS
        have c48 := expect48e (w := W) (l := l) (p := p) (by rw [hexS]; exact hB) false (by omega)
        rw [hexS] at c48
        rw [← pck_pchk] at c43
        generalize pckI p = eB at c43 c48 hB
        by_cases hC : ofE cw cb gs = 0
        · skip
          obtain ⟨CW, rfl, hCW⟩ : ∃ n : Nat, cw = n ∧ (1 ≤ n ∧ n ≤ 12) := by
            have := (cchk_ok (ofE_ok hC).1).1
            exact ⟨cw.toNat, by omega, by omega⟩
          have c46 := of46 hC ct (by omega) hgw
          have c49 := of49 (w := CW) (b := cb) (l := gs.map Gt.own) (by rw [ofE_own]; exact hC) false (by simp; omega) hgw'
          rw [ofS_own] at c49
          have hZl : (ofS CW gs).length = CW := by unfold ofS; rw [ofS_len, zeroS_len]
          generalize ofS CW gs = Z at c46 c49 hZl
          generalize tfB (gs.map Gt.own).length = tz at c49
          have ht2 := theirs18o (G := GG) CW Z tz (by omega) (by omega)
          have h27Z := equal27 (G := GG) CW CW Z Z false false (by omega)
          rw [decide_eq_true ⟨rfl, rfl⟩] at h27Z
          rw [hZl] at ht2
          have hrZ : ∀ ρ : Nat → Nat, some (Blk.ren ρ (dblk 4 (Z.map Ps.l))) = some (dblk 4 (Z.map Ps.l)) := fun ρ => by rw [ren_dblk]
          refine pc_walk pok Tryz.func5 chk5 ?_
          conv => whnf
          repeat' first | (refine LookP.mk _ (by first | rfl | exact lendA (hrZ _) (by simp [hRl, hZl]) | exact lendW (hrZ _) (by simp [hRl, hZl])) ?_; conv => whnf) | (refine ShlP.mk _ (by first | (simp only [List.set, over, List.take, List.drop, List.append_eq, List.nil_append, List.cons_append, List.length]; rfl) | rfl) ?_; conv => whnf) | (refine And.intro (by first | (simp [hRl, hZl]; done) | assumption | exact ⟨by kernel_rfl, rfl⟩ | decide | omega | exact ⟨rfl, by decide, by simp only [List.length_map, Nat.zero_add]; omega⟩) ?_; conv => whnf) | (refine beqT1 ?_; conv => whnf) | (refine beqF1 rfl ?_; conv => whnf) | (refine bneL rfl ?_; conv => whnf) | (refine beqF2 hA ?_; conv => whnf) | (refine beqF2 hB ?_; conv => whnf) | (refine pc_use (c47) ?_; conv => whnf) | (refine pc_head (c47) ?_; conv => whnf) | (refine bneT ?_; conv => whnf) | (refine po_use c49 ?_; conv => whnf) | (refine pc_use (c46) ?_; conv => whnf) | (refine pc_head (c46) ?_; conv => whnf) | (refine pc_use (c39) ?_; conv => whnf) | (refine pc_head (c39) ?_; conv => whnf) | (refine pc_use (c16) ?_; conv => whnf) | (refine pc_head (c16) ?_; conv => whnf) | (refine pc_use (c40) ?_; conv => whnf) | (refine pc_head (c40) ?_; conv => whnf) | (refine pc_use (c24) ?_; conv => whnf) | (refine pc_head (c24) ?_; conv => whnf) | (refine pc_use (c18) ?_; conv => whnf) | (refine pc_head (c18) ?_; conv => whnf) | (refine pc_use (c17) ?_; conv => whnf) | (refine pc_head (c17) ?_; conv => whnf) | (refine pc_use (c41) ?_; conv => whnf) | (refine pc_head (c41) ?_; conv => whnf) | (refine pc_use (c42) ?_; conv => whnf) | (refine pc_head (c42) ?_; conv => whnf) | (refine pc_use (c43) ?_; conv => whnf) | (refine pc_head (c43) ?_; conv => whnf) | (refine pc_use (c48) ?_; conv => whnf) | (refine pc_head (c48) ?_; conv => whnf) | (refine pc_use (c23) ?_; conv => whnf) | (refine pc_head (c23) ?_; conv => whnf) | (refine pc_use (c50) ?_; conv => whnf) | (refine pc_head (c50) ?_; conv => whnf) | (refine pc_use (c51) ?_; conv => whnf) | (refine pc_head (c51) ?_; conv => whnf) | (refine pc_use (awake_c) ?_; conv => whnf) | (refine pc_head (awake_c) ?_; conv => whnf) | (refine pc_use (alikeE _) ?_; conv => whnf) | (refine pc_head (alikeE _) ?_; conv => whnf) | (refine spine_rd (rd_call rfl rfl (hrZ _)) ?_; conv => whnf) | (refine po_head ht2 ?_; conv => whnf) | (refine pc_use (h27Z) ?_; conv => whnf) | (refine pc_head (h27Z) ?_; conv => whnf) | (rw [flOf_rows]; conv => whnf) | (refine ShhP.mk _ rfl ?_; conv => whnf) | (refine call_walk pok Tryz.func37 chk37 ?_; conv => whnf) | (refine HpP.force ?_; conv => whnf) | (intro t ht; cases t <;> conv => whnf)
          all_goals first | exact fin rfl | (exfalso; simp at ht; done) | (exfalso; simp at *; omega) | (exfalso; simp_all; done)
        · skip
          have c46 := of46e hC ct (by omega) hgw
          have c49 := of49e (l := gs.map Gt.own) (by rw [ofE_own]; exact hC) false (by simp; omega) hgw'
          rw [ofE_own] at c49
          generalize ofE cw cb gs = eC at c46 c49 hC
          refine pc_walk pok Tryz.func5 chk5 ?_
          conv => whnf
          repeat' first | (refine LookP.mk _ (by first | rfl) ?_; conv => whnf) | (refine ShlP.mk _ (by first | (simp only [List.set, over, List.take, List.drop, List.append_eq, List.nil_append, List.cons_append, List.length]; rfl) | rfl) ?_; conv => whnf) | (refine And.intro (by first | (simp [hRl, hZl]; done) | assumption | exact ⟨by kernel_rfl, rfl⟩ | decide | omega | exact ⟨rfl, by decide, by simp only [List.length_map, Nat.zero_add]; omega⟩) ?_; conv => whnf) | (refine beqT1 ?_; conv => whnf) | (refine beqF1 rfl ?_; conv => whnf) | (refine bneL rfl ?_; conv => whnf) | (refine beqF2 hA ?_; conv => whnf) | (refine beqF2 hB ?_; conv => whnf) | (refine pc_use (c47) ?_; conv => whnf) | (refine pc_head (c47) ?_; conv => whnf) | (refine bneT ?_; conv => whnf) | (refine pc_use (c49) ?_; conv => whnf) | (refine pc_head (c49) ?_; conv => whnf) | (refine pc_use (c46) ?_; conv => whnf) | (refine pc_head (c46) ?_; conv => whnf) | (refine pc_use (c39) ?_; conv => whnf) | (refine pc_head (c39) ?_; conv => whnf) | (refine pc_use (c16) ?_; conv => whnf) | (refine pc_head (c16) ?_; conv => whnf) | (refine pc_use (c40) ?_; conv => whnf) | (refine pc_head (c40) ?_; conv => whnf) | (refine pc_use (c24) ?_; conv => whnf) | (refine pc_head (c24) ?_; conv => whnf) | (refine pc_use (c18) ?_; conv => whnf) | (refine pc_head (c18) ?_; conv => whnf) | (refine pc_use (c17) ?_; conv => whnf) | (refine pc_head (c17) ?_; conv => whnf) | (refine pc_use (c41) ?_; conv => whnf) | (refine pc_head (c41) ?_; conv => whnf) | (refine pc_use (c42) ?_; conv => whnf) | (refine pc_head (c42) ?_; conv => whnf) | (refine pc_use (c43) ?_; conv => whnf) | (refine pc_head (c43) ?_; conv => whnf) | (refine pc_use (c48) ?_; conv => whnf) | (refine pc_head (c48) ?_; conv => whnf) | (refine pc_use (c23) ?_; conv => whnf) | (refine pc_head (c23) ?_; conv => whnf) | (refine pc_use (c50) ?_; conv => whnf) | (refine pc_head (c50) ?_; conv => whnf) | (refine pc_use (c51) ?_; conv => whnf) | (refine pc_head (c51) ?_; conv => whnf) | (refine pc_use (awake_c) ?_; conv => whnf) | (refine pc_head (awake_c) ?_; conv => whnf) | (refine pc_use (alikeE _) ?_; conv => whnf) | (refine pc_head (alikeE _) ?_; conv => whnf) | (refine HpP.force ?_; conv => whnf) | (intro t ht; cases t <;> conv => whnf)
          all_goals first | exact fin rfl | (exfalso; simp at ht; done) | (exfalso; simp at *; omega) | (exfalso; simp_all; done)
  · have he : chkS w l ≠ 0 := hc
    have c47 := apply47e (w := w) (l := l) (g := ⟨k, ws, false, b, i⟩) (by unfold apE; rw [if_pos he]; exact he) false (by omega) hL3
    have e47 : apE w l ⟨k, ws, false, b, i⟩ = chkS w l := by unfold apE; rw [if_pos he]
    rw [e47] at c47
    have c48 := expect48e (w := w) (l := l) (p := p) (by unfold exS; rw [if_pos he]; exact he) false (by omega)
    have e48 : exS w l p = chkS w l := by unfold exS; rw [if_pos he]
    rw [e48] at c48
    clear hc e47 e48
    generalize chkS w l = e at c17 c47 c48 he
    by_cases hC : ofE cw cb gs = 0
    · skip
      obtain ⟨CW, rfl, hCW⟩ : ∃ n : Nat, cw = n ∧ (1 ≤ n ∧ n ≤ 12) := by
        have := (cchk_ok (ofE_ok hC).1).1
        exact ⟨cw.toNat, by omega, by omega⟩
      have c46 := of46 hC ct (by omega) hgw
      have c49 := of49 (w := CW) (b := cb) (l := gs.map Gt.own) (by rw [ofE_own]; exact hC) false (by simp; omega) hgw'
      rw [ofS_own] at c49
      have hZl : (ofS CW gs).length = CW := by unfold ofS; rw [ofS_len, zeroS_len]
      generalize ofS CW gs = Z at c46 c49 hZl
      generalize tfB (gs.map Gt.own).length = tz at c49
      have ht2 := theirs18o (G := GG) CW Z tz (by omega) (by omega)
      have h27Z := equal27 (G := GG) CW CW Z Z false false (by omega)
      rw [decide_eq_true ⟨rfl, rfl⟩] at h27Z
      rw [hZl] at ht2
      have hrZ : ∀ ρ : Nat → Nat, some (Blk.ren ρ (dblk 4 (Z.map Ps.l))) = some (dblk 4 (Z.map Ps.l)) := fun ρ => by rw [ren_dblk]
      refine pc_walk pok Tryz.func5 chk5 ?_
      conv => whnf
      repeat' first | (refine LookP.mk _ (by first | rfl | exact lendA (hrZ _) (by simp [hRl, hZl]) | exact lendW (hrZ _) (by simp [hRl, hZl])) ?_; conv => whnf) | (refine ShlP.mk _ (by first | (simp only [List.set, over, List.take, List.drop, List.append_eq, List.nil_append, List.cons_append, List.length]; rfl) | rfl) ?_; conv => whnf) | (refine And.intro (by first | (simp [hRl, hZl]; done) | assumption | exact ⟨by kernel_rfl, rfl⟩ | decide | omega | exact ⟨rfl, by decide, by simp only [List.length_map, Nat.zero_add]; omega⟩) ?_; conv => whnf) | (refine beqT1 ?_; conv => whnf) | (refine beqF1 rfl ?_; conv => whnf) | (refine bneL rfl ?_; conv => whnf) | (refine beqF2 he ?_; conv => whnf) | (refine pc_use (c48) ?_; conv => whnf) | (refine pc_head (c48) ?_; conv => whnf) | (refine pc_use (c47) ?_; conv => whnf) | (refine pc_head (c47) ?_; conv => whnf) | (refine bneT ?_; conv => whnf) | (refine po_use c49 ?_; conv => whnf) | (refine pc_use (c46) ?_; conv => whnf) | (refine pc_head (c46) ?_; conv => whnf) | (refine pc_use (c39) ?_; conv => whnf) | (refine pc_head (c39) ?_; conv => whnf) | (refine pc_use (c16) ?_; conv => whnf) | (refine pc_head (c16) ?_; conv => whnf) | (refine pc_use (c40) ?_; conv => whnf) | (refine pc_head (c40) ?_; conv => whnf) | (refine pc_use (c24) ?_; conv => whnf) | (refine pc_head (c24) ?_; conv => whnf) | (refine pc_use (c18) ?_; conv => whnf) | (refine pc_head (c18) ?_; conv => whnf) | (refine pc_use (c17) ?_; conv => whnf) | (refine pc_head (c17) ?_; conv => whnf) | (refine pc_use (c23) ?_; conv => whnf) | (refine pc_head (c23) ?_; conv => whnf) | (refine pc_use (c50) ?_; conv => whnf) | (refine pc_head (c50) ?_; conv => whnf) | (refine pc_use (c51) ?_; conv => whnf) | (refine pc_head (c51) ?_; conv => whnf) | (refine pc_use (awake_c) ?_; conv => whnf) | (refine pc_head (awake_c) ?_; conv => whnf) | (refine pc_use (alikeE _) ?_; conv => whnf) | (refine pc_head (alikeE _) ?_; conv => whnf) | (refine spine_rd (rd_call rfl rfl (hrZ _)) ?_; conv => whnf) | (refine po_head ht2 ?_; conv => whnf) | (refine pc_use (h27Z) ?_; conv => whnf) | (refine pc_head (h27Z) ?_; conv => whnf) | (rw [flOf_rows]; conv => whnf) | (refine ShhP.mk _ rfl ?_; conv => whnf) | (refine call_walk pok Tryz.func37 chk37 ?_; conv => whnf) | (refine HpP.force ?_; conv => whnf) | (intro t ht; cases t <;> conv => whnf)
      all_goals first | exact fin rfl | (exfalso; simp at ht; done) | (exfalso; simp at *; omega) | (exfalso; simp_all; done)
    · skip
      have c46 := of46e hC ct (by omega) hgw
      have c49 := of49e (l := gs.map Gt.own) (by rw [ofE_own]; exact hC) false (by simp; omega) hgw'
      rw [ofE_own] at c49
      generalize ofE cw cb gs = eC at c46 c49 hC
      refine pc_walk pok Tryz.func5 chk5 ?_
      conv => whnf
      repeat' first | (refine LookP.mk _ (by first | rfl) ?_; conv => whnf) | (refine ShlP.mk _ (by first | (simp only [List.set, over, List.take, List.drop, List.append_eq, List.nil_append, List.cons_append, List.length]; rfl) | rfl) ?_; conv => whnf) | (refine And.intro (by first | (simp [hRl, hZl]; done) | assumption | exact ⟨by kernel_rfl, rfl⟩ | decide | omega | exact ⟨rfl, by decide, by simp only [List.length_map, Nat.zero_add]; omega⟩) ?_; conv => whnf) | (refine beqT1 ?_; conv => whnf) | (refine beqF1 rfl ?_; conv => whnf) | (refine bneL rfl ?_; conv => whnf) | (refine beqF2 he ?_; conv => whnf) | (refine pc_use (c48) ?_; conv => whnf) | (refine pc_head (c48) ?_; conv => whnf) | (refine pc_use (c47) ?_; conv => whnf) | (refine pc_head (c47) ?_; conv => whnf) | (refine bneT ?_; conv => whnf) | (refine pc_use (c49) ?_; conv => whnf) | (refine pc_head (c49) ?_; conv => whnf) | (refine pc_use (c46) ?_; conv => whnf) | (refine pc_head (c46) ?_; conv => whnf) | (refine pc_use (c39) ?_; conv => whnf) | (refine pc_head (c39) ?_; conv => whnf) | (refine pc_use (c16) ?_; conv => whnf) | (refine pc_head (c16) ?_; conv => whnf) | (refine pc_use (c40) ?_; conv => whnf) | (refine pc_head (c40) ?_; conv => whnf) | (refine pc_use (c24) ?_; conv => whnf) | (refine pc_head (c24) ?_; conv => whnf) | (refine pc_use (c18) ?_; conv => whnf) | (refine pc_head (c18) ?_; conv => whnf) | (refine pc_use (c17) ?_; conv => whnf) | (refine pc_head (c17) ?_; conv => whnf) | (refine pc_use (c23) ?_; conv => whnf) | (refine pc_head (c23) ?_; conv => whnf) | (refine pc_use (c50) ?_; conv => whnf) | (refine pc_head (c50) ?_; conv => whnf) | (refine pc_use (c51) ?_; conv => whnf) | (refine pc_head (c51) ?_; conv => whnf) | (refine pc_use (awake_c) ?_; conv => whnf) | (refine pc_head (awake_c) ?_; conv => whnf) | (refine pc_use (alikeE _) ?_; conv => whnf) | (refine pc_head (alikeE _) ?_; conv => whnf) | (refine HpP.force ?_; conv => whnf) | (intro t ht; cases t <;> conv => whnf)
      all_goals first | exact fin rfl | (exfalso; simp at ht; done) | (exfalso; simp at *; omega) | (exfalso; simp_all; done)
end Go.Tz



namespace Go.Tz
open Go Go.AL Go.Proofs Go.Ma
theorem gates5 (w : Int) (l : List Ps) (t : Bool) (cw cb : Int) (gs : List Gt) (ct : Bool) (g : Gt) (p : Ps) : PC Pr GG 5 [stD w l t, circD cw cb gs ct, g.d, p.d] (.bool true) := by
  obtain ⟨k, ws, u, b, i⟩ := g
  by_cases h : l.length ≤ 20 ∧ greatB gs = false ∧ ws.length ≤ 6
  · exact gates5a w l t cw cb gs ct k ws u b i p h.1 h.2.1 h.2.2
  · have c39 := great39 (G := GG) cw cb gs ct
    generalize greatB gs = gr at c39 h
    refine pc_walk pok Tryz.func5 chk5 ?_
    conv => whnf
    repeat' first | (refine LookP.mk _ rfl ?_; conv => whnf) | (refine ShlP.mk _ (by first | (simp only [List.set, over, List.take, List.drop, List.append_eq, List.nil_append, List.cons_append, List.length]; rfl) | rfl) ?_; conv => whnf) | (refine And.intro (by first | assumption | exact ⟨by kernel_rfl, rfl⟩ | decide | omega | exact ⟨rfl, by decide, by simp only [List.length_map, Nat.zero_add]; omega⟩) ?_; conv => whnf) | (refine pc_useB (c39) ?_) | (refine pc_headB (c39) ?_) | (refine pc_use (awake_c) ?_; conv => whnf) | (refine pc_head (awake_c) ?_; conv => whnf) | (refine HpP.force ?_; conv => whnf) | (intro t ht; cases t <;> conv => whnf)
    all_goals first | exact fin rfl | skip
    all_goals (exfalso; simp at *; simp_all; omega)
end Go.Tz


