import Derived.Test.YtehjjpbpdfnnfaaGreatDoorM05
namespace Go.Tz
open Go Go.AL Go.Ma
theorem lead_eq {w : Nat} (hw : w ≤ 12) {q : Ps} (h : Vl w q) {d : Nat} (hd : d < 2 * w) (h1 : cb (vec q) d = true) (h2 : ∀ e, e < d → cb (vec q) e = false) : leadI q = d := by
 have key : ∀ f k, k + f = 2 * w → k ≤ d → leadF q f k = d := by
  intro f
  induction f with
  | zero => intro k e1 e2; omega
  | succ f ih =>
   intro k e1 e2
   simp only [leadF]
   rw [bitB_cb hw (by omega) h]
   by_cases e : k = d
   ·subst e; rw [if_pos h1]
   ·rw [h2 k (by omega), if_neg (by simp)]; exact ih (k + 1) (by omega) (by omega)
 unfold leadI
 rw [vl_w h, Int.toNat_natCast]
 exact key _ _ (by omega) (by omega)
theorem rows_at (l : List Ps) {c i : Nat} (hi : i < l.length) : (redRows l c).getD i Ps.z0 = (redN l c).1 i := by
 unfold redRows
 simp [List.getD_eq_getElem?_getD, hi]
theorem sb_inv {w : Nat} (hw : w ≤ 12) {l : List Ps} (hv : ∀ q, q ∈ l → Vl w q) {p : Ps} (hp : Vl w p) {pc : Nat → Nat} (h1 : RR l.length (2 * w) (redN l (2 * w)).2.2 (rfv l (2 * w)) pc) (h2 : Piv l.length (rfv l (2 * w)) (fun i => pos (pc i)) fun i => decide (i < (redN l (2 * w)).2.2)) :
  ∀ i, i ≤ l.length → Vl w (sbSt (redRows l (2 * w)) (redN l (2 * w)).2.1 p i).1 ∧ vec (sbSt (redRows l (2 * w)) (redN l (2 * w)).2.1 p i).1 = slv (rfv l (2 * w)) (fun i => pos (pc i)) (fun i => decide (i < (redN l (2 * w)).2.2)) (vec p) i ∧
   vec (sbSt (redRows l (2 * w)) (redN l (2 * w)).2.1 p i).1 = vec p ^^^ xr (rfv l 0) (sbSt (redRows l (2 * w)) (redN l (2 * w)).2.1 p i).2 l.length
 | 0, _ => ⟨hp, rfl, by show vec p = vec p ^^^ xr (rfv l 0) (fun _ => false) l.length; rw [xr_none fun _ _ => rfl, Nat.xor_zero]⟩
 | i + 1, hi => by
  obtain ⟨g1, g2, g3⟩ := sb_inv hw hv hp h1 h2 i (by omega)
  have hqv := (red_vl hw hv (2 * w)).1 i (by omega)
  have hsum := redN_sum hw hv (Nat.le_refl (2 * w)) i (by omega)
  simp only [sbSt, sbStep, rows_at l (show i < l.length by omega), slv]
  have hr : rfv l (2 * w) i = vec ((redN l (2 * w)).1 i) := rfl
  by_cases ha : i < (redN l (2 * w)).2.2
  ·have hld : leadI ((redN l (2 * w)).1 i) = pc i := lead_eq hw hqv (h1.lt i ha) (h1.own i ha) (fun e he => h1.lead i e ha he)
   have hb : bitB (sbSt (redRows l (2 * w)) (redN l (2 * w)).2.1 p i).1 (leadI ((redN l (2 * w)).1 i)) = (slv (rfv l (2 * w)) (fun i => pos (pc i)) (fun i => decide (i < (redN l (2 * w)).2.2)) (vec p) i).testBit (pos (pc i)) := by
    rw [hld, bitB_cb hw (h1.lt i ha) g1, g2]; rfl
   by_cases e : (slv (rfv l (2 * w)) (fun i => pos (pc i)) (fun i => decide (i < (redN l (2 * w)).2.2)) (vec p) i).testBit (pos (pc i)) = true
   ·rw [if_pos (show 0 ≤ leadI ((redN l (2 * w)).1 i) ∧ bitB (sbSt (redRows l (2 * w)) (redN l (2 * w)).2.1 p i).1 (leadI ((redN l (2 * w)).1 i)) = true from ⟨by rw [hld]; omega, hb.trans e⟩)]
    rw [if_pos (show (decide (i < (redN l (2 * w)).2.2) && (slv (rfv l (2 * w)) (fun i => pos (pc i)) (fun i => decide (i < (redN l (2 * w)).2.2)) (vec p) i).testBit (pos (pc i))) = true by rw [decide_eq_true ha, e]; rfl)]
    refine ⟨mul_vl hw g1 hqv, ?_, ?_⟩
    ·rw [vec_mul hw g1 hqv, g2]; rfl
    ·rw [vec_mul hw g1 hqv, g3, xr_xor, Nat.xor_assoc, ← hsum]; rfl
   ·rw [if_neg (show ¬ (0 ≤ leadI ((redN l (2 * w)).1 i) ∧ bitB (sbSt (redRows l (2 * w)) (redN l (2 * w)).2.1 p i).1 (leadI ((redN l (2 * w)).1 i)) = true) from fun h => e (hb.symm.trans h.2))]
    rw [if_neg (show ¬ (decide (i < (redN l (2 * w)).2.2) && (slv (rfv l (2 * w)) (fun i => pos (pc i)) (fun i => decide (i < (redN l (2 * w)).2.2)) (vec p) i).testBit (pos (pc i))) = true from fun h => e (Bool.and_eq_true_iff.1 h).2)]
    exact ⟨g1, g2, g3⟩
  ·have hz : vec ((redN l (2 * w)).1 i) = 0 := h2.zero i (by omega) (by simpa using ha)
   have hn : ¬ 0 ≤ leadI ((redN l (2 * w)).1 i) := fun h => (lead_nz hw hqv).1 h hz
   rw [if_neg (show ¬ (0 ≤ leadI ((redN l (2 * w)).1 i) ∧ bitB (sbSt (redRows l (2 * w)) (redN l (2 * w)).2.1 p i).1 (leadI ((redN l (2 * w)).1 i)) = true) from fun h => hn h.1)]
   rw [if_neg (show ¬ (decide (i < (redN l (2 * w)).2.2) && (slv (rfv l (2 * w)) (fun i => pos (pc i)) (fun i => decide (i < (redN l (2 * w)).2.2)) (vec p) i).testBit (pos (pc i))) = true from fun h => ha (by simpa using (Bool.and_eq_true_iff.1 h).1))]
   exact ⟨g1, g2, g3⟩
theorem vec_z {w : Nat} {q : Ps} (h : Vl w q) : (q.x ≠ 0 ∨ q.z ≠ 0) ↔ vec q ≠ 0 := by
 obtain ⟨X, Z, P, rfl, h1, h2, h3⟩ := h
 unfold vec
 rw [nf_mk]
 show ((X : Int) ≠ 0 ∨ (Z : Int) ≠ 0) ↔ X + 4096 * Z ≠ 0
 omega
theorem vl_one (w : Nat) : Vl w ⟨w, 0, 0, 0⟩ := ⟨0, 0, 0, rfl, Nat.two_pow_pos w, Nat.two_pow_pos w, by decide⟩
theorem nf_one (w : Nat) : nf ⟨w, 0, 0, 0⟩ = e1 := by
 show nf (mk w 0 0 0) = e1
 rw [nf_mk]; decide
theorem span_l {l : List Ps} {v : Nat} : spB (revl (rfv l 0) l.length) v = spB ((l.map nf).map (·.2)) v := by
 rw [revl_rfv0]
 have e : l.map vec = (l.map nf).map (·.2) := by rw [List.map_map]; rfl
 rw [e]
 exact sp_ext (fun a ha => sp_mem _ _ (List.mem_reverse.1 ha)) (fun a ha => sp_mem _ _ (List.mem_reverse.2 ha)) v
theorem rfv_0 (l : List Ps) {i : Nat} (hi : i < l.length) : rfv l 0 i = vec l[i] := by
 unfold rfv
 simp only [redN, List.getD_eq_getElem?_getD, List.getElem?_eq_getElem hi, Option.getD_some]
theorem prod_tk {w : Nat} (hw : w ≤ 12) {l : List Ps} (hv : ∀ q, q ∈ l → Vl w q) (hG : Good (l.map nf)) (f : Nat → Bool) : ∀ i, i ≤ l.length → Vl w (prodS w ((tkL f i).map fun n => l.getD n Ps.z0)) ∧ Gen (l.map nf) (nf (prodS w ((tkL f i).map fun n => l.getD n Ps.z0))) ∧ vec (prodS w ((tkL f i).map fun n => l.getD n Ps.z0)) = xr (rfv l 0) f i
 | 0, _ => ⟨vl_one w, by show Gen _ (nf ⟨w, 0, 0, 0⟩); rw [nf_one]; exact .one, rfl⟩
 | i + 1, hi => by
  obtain ⟨g1, g2, g3⟩ := prod_tk hw hv hG f i (by omega)
  rw [tkL_snoc]
  simp only [xr]
  by_cases e : f i = true
  ·rw [if_pos e, if_pos e, List.map_append, List.map_singleton, prodS_snoc]
   have hq : l.getD i Ps.z0 = l[i] := by rw [List.getD_eq_getElem?_getD, List.getElem?_eq_getElem (show i < l.length by omega)]; rfl
   rw [hq]
   have hm := List.getElem_mem (show i < l.length by omega)
   refine ⟨mul_vl hw g1 (hv _ hm), ?_, ?_⟩
   ·rw [nf_mul hw g1 (hv _ hm)]; exact gen_mul' hG g2 (gen_mem' hG (List.mem_map.2 ⟨_, hm, rfl⟩))
   ·rw [vec_mul hw g1 (hv _ hm), g3, rfv_0 l (by omega)]
  ·rw [if_neg e, if_neg e]; exact ⟨g1, g2, g3⟩
theorem p_eq {w : Nat} (hw : w ≤ 12) {q r : Ps} (hq : Vl w q) (hr : Vl w r) (hv : vec q = vec r) : q.p = r.p ↔ nf q = nf r := by
 obtain ⟨X, Z, P, rfl, h1, h2, h3⟩ := hq
 obtain ⟨X', Z', P', rfl, h4, h5, h6⟩ := hr
 unfold vec at hv
 rw [nf_mk, nf_mk] at hv ⊢
 dsimp only at hv
 have hp : (2 : Nat) ^ w ≤ 2 ^ 12 := Nat.pow_le_pow_right (by decide) hw
 have e1 : X = X' := by omega
 have e2 : Z = Z' := by omega
 subst e1 e2
 show (P : Int) = (P' : Int) ↔ _
 constructor
 ·intro h
  have : P = P' := by omega
  rw [this]
 ·intro h
  have := congrArg Prod.fst h
  dsimp only at this
  omega
structure ExpOk (L : List E) (g : E) (e : Int) : Prop where
 pos : Gen L g → e = 1
 neg : Gen L (eneg g) → e = -1
 zero : ¬ Gen L g → ¬ Gen L (eneg g) → e = 0
theorem expOk_uniq {L M : List E} (h : SameG L M) {g : E} {e e' : Int} (h1 : ExpOk L g e) (h2 : ExpOk M g e') : e = e' := by
 by_cases a : Gen L g
 ·rw [h1.pos a, h2.pos ((h g).1 a)]
 ·by_cases b : Gen L (eneg g)
  ·rw [h1.neg b, h2.neg ((h _).1 b)]
  ·rw [h1.zero a b, h2.zero (fun c => a ((h g).2 c)) (fun c => b ((h _).2 c))]
theorem expR_ok {w : Nat} {l : List Ps} (h : SOk w l) {p : Ps} (hp : Vl w p) (hk : eok (nf p)) : ExpOk (l.map nf) (nf p) (expR w l p) := by
 have hst := sok_sta h
 obtain ⟨pc, r1, r2⟩ := rfv_piv h.hi h.vl
 obtain ⟨g1, g2, g3⟩ := sb_inv h.hi h.vl hp r1 r2 l.length (Nat.le_refl _)
 have hz := slv_zero r2 (vec p)
 rw [← g2, rfv_span h.hi h.vl _ (Nat.le_refl _), span_l] at hz
 have hx := vec_z g1
 unfold expR phR tkP
 have hsv : sbL w l p = sbSt (redRows l (2 * w)) (redN l (2 * w)).2.1 p l.length := rfl
 rw [hsv]
 generalize sbSt (redRows l (2 * w)) (redN l (2 * w)).2.1 p l.length = s at g1 g2 g3 hz hx ⊢
 by_cases e : vec s.1 = 0
 ·rw [if_neg (fun q => hx.1 q e)]
  rw [e] at g3
  have hxr : xr (rfv l 0) s.2 l.length = vec p := by
   have := congrArg (· ^^^ xr (rfv l 0) s.2 l.length) g3
   simpa only [xor_cancel, Nat.zero_xor] using this
  obtain ⟨k1, k2, k3⟩ := prod_tk h.hi h.vl hst.good s.2 l.length (Nat.le_refl _)
  rw [hxr] at k3
  generalize prodS w ((tkL s.2 l.length).map fun n => l.getD n Ps.z0) = g at k1 k2 k3 ⊢
  have hpe := p_eq h.hi hp k1 k3.symm
  have hph : (isub .i64 (iadd .i64 4 p.p) g.p).tmod 4 = 0 ↔ p.p = g.p := by
   obtain ⟨X, Z, P, rfl, _, _, a3⟩ := hp
   obtain ⟨X', Z', P', rfl, _, _, b3⟩ := k1
   show (isub .i64 (iadd .i64 4 (P : Int)) (P' : Int)).tmod 4 = 0 ↔ (P : Int) = P'
   have e1 : iadd .i64 4 (P : Int) = ((4 + P : Nat) : Int) := iadd_nat (a := 4) (by omega)
   rw [e1, isub_nat (by omega) (by omega)]
   have e2 : (((4 + P - P' : Nat) : Int)).tmod 4 = (((4 + P - P') % 4 : Nat) : Int) := rfl
   rw [e2]
   omega
  refine ⟨fun q => ?_, fun q => ?_, fun a b => ?_⟩
  ·rw [if_pos (hph.2 (hpe.2 (gen_uniq hst.good hst.ind q k2 k3.symm)))]
  ·rw [if_neg fun c => ?_]
   have e1 := hpe.1 (hph.1 c)
   have e2 := gen_uniq hst.good hst.ind q k2 k3.symm
   rw [← e1] at e2
   exact eneg_ne hk.1 e2
  ·exfalso
   rcases e_or_neg hk (gen_ok hst.good k2) k3.symm with q | q
   ·rw [q] at a; exact a k2
   ·rw [q, eneg_neg (gen_ok hst.good k2).1] at b; exact b k2
 ·rw [if_pos (hx.2 e)]
  refine ⟨fun q => absurd (hz.2 (gen_span q)) e, fun q => absurd (hz.2 (gen_span (g := eneg (nf p)) q)) e, fun _ _ => rfl⟩
end Go.Tz
namespace Go.Tz
open Go Go.AL Go.Ma
theorem redF_sum (l : List Ps) : ∀ m, m ≤ l.length → ∀ j, j < l.length → (redW (rowN l) m j).1 = xr (rfv l 0) (fun q => (redW (rowN l) m j).2.testBit q) l.length
 | 0, _, j, hj => by
  have h0 : redW (rowN l) 0 j = (vec l[j], 2 ^ j) := by
   show (rowN l).getD j (0, 0) = _
   rw [List.getD_eq_getElem?_getD, List.getElem?_eq_getElem (by rw [rowN_len]; exact hj)]
   simp [rowN, vec]
  rw [h0]
  dsimp only
  rw [xr_congrm (m' := fun q => q == j) fun q _ => by rw [Nat.testBit_two_pow, Bool.eq_iff_iff]; simp; exact eq_comm, xr_one hj, rfv_0 l hj]
 | m + 1, hm, j, hj => by
  have ih := redF_sum l m (by omega)
  simp only [redW]
  by_cases e : (redW (rowN l) m m).1 ≠ 0
  ·rw [if_pos e]
   unfold clrW
   by_cases c : j < (rowN l).length ∧ j ≠ m ∧ (redW (rowN l) m j).1.testBit (lowN (redW (rowN l) m m).1) = true
   ·rw [if_pos c]
    dsimp only
    rw [ih j hj, ih m (by omega), ← xr_xor]
    exact xr_congrm fun q _ => by rw [Nat.testBit_xor]
   ·rw [if_neg c]; exact ih j hj
  ·rw [if_neg e]; exact ih j hj
theorem oth_bit (r : Rn) (j : Nat) : ∀ l : List Rn, (oth r l).testBit j = l.any fun x => decide (x ≠ r) && x.1.testBit j := by
 have key : ∀ (l : List Rn) (o : Nat), (l.foldl (fun o x => if x = r then o else o ||| x.1) o).testBit j = (o.testBit j || l.any fun x => decide (x ≠ r) && x.1.testBit j) := by
  intro l
  induction l with
  | nil => intro o; simp
  | cons x l ih =>
   intro o
   rw [List.foldl_cons, ih, List.any_cons]
   by_cases e : x = r
   ·rw [if_pos e]; simp [e]
   ·rw [if_neg e, Nat.testBit_or]; simp [e, Bool.or_assoc]
 intro l
 unfold oth
 rw [key, Nat.zero_testBit, Bool.false_or]
theorem lf_all {l : List Ps} (h : gnW (redF l) l.length = []) : lfW (redF l) l.length = (List.range l.length).map (redF l) := by
 unfold gnW at h
 unfold lfW
 rw [List.filter_eq_self]
 intro r hr
 rw [List.filter_eq_nil_iff] at h
 have := h r hr
 simpa using this
theorem own_piv {w : Nat} {l : List Ps} (h : SOk w l) : Piv l.length (rwv l l.length) (fun i => ownN (lfW (redF l) l.length) (redF l i)) fun _ => true := by
 have hg : gnW (redF l) l.length = [] := List.length_eq_zero_iff.1 ((ind_iff h.hi h.vl (by have := h.len; have := h.hi; omega)).2 h.rank)
 have hn : l.length ≤ 24 := by have := h.len; have := h.hi; omega
 obtain ⟨p, hp⟩ := rwv_Piv h.hi h.vl hn
 have hall := lf_all hg
 have hlt := redW_lt (rowN_lt h.hi h.vl hn) l.length
 have hnz : ∀ i, i < l.length → rwv l l.length i ≠ 0 := fun i hi e => by
  unfold gnW at hg
  rw [List.filter_eq_nil_iff] at hg
  have := hg (redF l i) (List.mem_map.2 ⟨i, List.mem_range.2 hi, rfl⟩)
  simp at this
  exact this e
 have hbit : ∀ i, i < l.length → (andn (redF l i).1 (oth (redF l i) (lfW (redF l) l.length))).testBit (ownN (lfW (redF l) l.length) (redF l i)) = true := by
  intro i hi
  have h0 : andn (redF l i).1 (oth (redF l i) (lfW (redF l) l.length)) ≠ 0 := fun e => by
   have h1 : (andn (redF l i).1 (oth (redF l i) (lfW (redF l) l.length))).testBit (p i) = true := by
    rw [andn_bit, oth_bit]
    have a1 : (redF l i).1.testBit (p i) = true := hp.own i hi (by simpa using hnz i hi)
    rw [a1, Bool.true_and, Bool.not_eq_true', List.any_eq_false]
    intro x hx
    rw [hall] at hx
    obtain ⟨j, hj, rfl⟩ := List.mem_map.1 hx
    have hj := List.mem_range.1 hj
    by_cases q : j = i
    ·subst q; simp
    ·have := hp.other j i hj hi q (by simpa using hnz i hi)
     have t : (redF l j).1.testBit (p i) = false := this
     rw [t]; simp
   rw [e, Nat.zero_testBit] at h1; cases h1
  unfold ownN tzN
  rw [if_neg h0]
  exact (low_spec h0 (andn_lt (hlt i).1)).2.1
 refine ⟨fun i hi _ => ?_, fun i j hi hj hij _ => ?_, fun i _ h => by cases h⟩
 ·have := hbit i hi
  rw [andn_bit] at this
  exact (Bool.and_eq_true_iff.1 this).1
 ·have := hbit j hj
  rw [andn_bit] at this
  have h2 := (Bool.and_eq_true_iff.1 this).2
  rw [Bool.not_eq_true', oth_bit, List.any_eq_false] at h2
  have h3 := h2 (redF l i) (by rw [hall]; exact List.mem_map.2 ⟨i, List.mem_range.2 hi, rfl⟩)
  have hne : redF l i ≠ redF l j := fun e => by
   have a1 : (redF l j).1.testBit (p j) = true := hp.own j hj (by simpa using hnz j hj)
   have a2 : (redF l i).1.testBit (p j) = false := hp.other i j hi hj hij (by simpa using hnz j hj)
   rw [e, a1] at a2; cases a2
  have : (redF l i).1.testBit (ownN (lfW (redF l) l.length) (redF l j)) = false := by simpa [hne] using h3
  exact this
theorem fnd_inv {w : Nat} {l : List Ps} (h : SOk w l) (v : Nat) : ∀ i, i ≤ l.length → (fndS (lfW (redF l) l.length) v i).1 = slv (rwv l l.length) (fun i => ownN (lfW (redF l) l.length) (redF l i)) (fun _ => true) v i ∧
  (fndS (lfW (redF l) l.length) v i).1 = v ^^^ xr (rfv l 0) (fun q => (fndS (lfW (redF l) l.length) v i).2.testBit q) l.length
 | 0, _ => ⟨rfl, by show v = v ^^^ xr (rfv l 0) (fun q => (0 : Nat).testBit q) l.length; rw [xr_none fun _ _ => Nat.zero_testBit _, Nat.xor_zero]⟩
 | i + 1, hi => by
  have hg : gnW (redF l) l.length = [] := List.length_eq_zero_iff.1 ((ind_iff h.hi h.vl (by have := h.len; have := h.hi; omega)).2 h.rank)
  have hall := lf_all hg
  obtain ⟨g1, g2⟩ := fnd_inv h v i (by omega)
  have hs := redF_sum l l.length (Nat.le_refl _) i (by omega)
  have hil : i < (lfW (redF l) l.length).length := by rw [hall]; simp; omega
  have hgi : (lfW (redF l) l.length)[i] = redF l i := by simp [hall]
  rw [fnd_snoc hil, hgi]
  simp only [slv, fstp, Bool.true_and]
  rw [g1] at g2 ⊢
  by_cases e : (slv (rwv l l.length) (fun i => ownN (lfW (redF l) l.length) (redF l i)) (fun _ => true) v i).testBit (ownN (lfW (redF l) l.length) (redF l i)) = true
  ·rw [if_pos e, if_pos e]
   refine ⟨rfl, ?_⟩
   dsimp only
   rw [xr_congrm (m' := fun q => (fndS (lfW (redF l) l.length) v i).2.testBit q != (redF l i).2.testBit q) fun q _ => by rw [Nat.testBit_xor], xr_xor, ← Nat.xor_assoc, ← g2]
   congr 1
  ·rw [if_neg e, if_neg e]
   exact ⟨g1, by rw [g1]; exact g2⟩
theorem all_tk {w : Nat} (hw : w ≤ 12) {l : List Ps} (hv : ∀ q, q ∈ l → Vl w q) (hG : Good (l.map nf)) (m : Nat) : ∀ i, i ≤ l.length → Vl w (allS w l m i) ∧ Gen (l.map nf) (nf (allS w l m i)) ∧ vec (allS w l m i) = xr (rfv l 0) (fun q => m.testBit q) i
 | 0, _ => ⟨vl_one w, by show Gen _ (nf ⟨w, 0, 0, 0⟩); rw [nf_one]; exact .one, rfl⟩
 | i + 1, hi => by
  obtain ⟨g1, g2, g3⟩ := all_tk hw hv hG m i (by omega)
  simp only [xr, allS]
  by_cases e : m.testBit i = true
  ·rw [if_pos e, if_pos e]
   have hq : l.getD i Ps.z0 = l[i] := by rw [List.getD_eq_getElem?_getD, List.getElem?_eq_getElem (show i < l.length by omega)]; rfl
   have hm := List.getElem_mem (show i < l.length by omega)
   rw [hq, tim_mul hw g1 (hv _ hm)]
   refine ⟨mul_vl hw g1 (hv _ hm), ?_, ?_⟩
   ·rw [nf_mul hw g1 (hv _ hm)]; exact gen_mul' hG g2 (gen_mem' hG (List.mem_map.2 ⟨_, hm, rfl⟩))
   ·rw [vec_mul hw g1 (hv _ hm), g3, rfv_0 l (by omega)]
  ·rw [if_neg e, if_neg e]; exact ⟨g1, g2, g3⟩
theorem expP_ok {w : Nat} {l : List Ps} (h : SOk w l) {p : Ps} (hp : Vl w p) (hk : eok (nf p)) : ExpOk (l.map nf) (nf p) (expP l p) := by
 have hst := sok_sta h
 have hn : l.length ≤ 24 := by have := h.len; have := h.hi; omega
 have hg : gnW (redF l) l.length = [] := List.length_eq_zero_iff.1 ((ind_iff h.hi h.vl hn).2 h.rank)
 have hll : (lfW (redF l) l.length).length = l.length := by rw [lf_all hg]; simp
 obtain ⟨g2, g3⟩ := fnd_inv h (nf p).2 l.length (Nat.le_refl _)
 have hz := slv_zero (own_piv h) (nf p).2
 rw [← g2, rwv_span h.hi h.vl hn _ (Nat.le_refl _), span_l] at hz
 unfold expP
 rw [hll, vl_w hp]
 generalize fndS (lfW (redF l) l.length) (nf p).2 l.length = s at g2 g3 hz ⊢
 by_cases e : s.1 = 0
 ·rw [if_pos e]
  rw [e] at g3
  have hxr : xr (rfv l 0) (fun q => s.2.testBit q) l.length = (nf p).2 := by
   have := congrArg (· ^^^ xr (rfv l 0) (fun q => s.2.testBit q) l.length) g3
   simpa only [xor_cancel, Nat.zero_xor] using this
  obtain ⟨k1, k2, k3⟩ := all_tk h.hi h.vl hst.good s.2 l.length (Nat.le_refl _)
  have hxr : xr (rfv l 0) (fun q => s.2.testBit q) l.length = vec p := hxr
  rw [hxr] at k3
  generalize allS w l s.2 l.length = g at k1 k2 k3 ⊢
  have hpe := p_eq h.hi hp k1 k3.symm
  have hkp := (eok_nf h.hi hp).1 hk
  have hkg := (eok_nf h.hi k1).1 (gen_ok hst.good k2)
  have hph : (p.p = g.p → isub .i64 1 ((iadd .i64 (isub .i64 p.p g.p) 4).tmod 4) = 1) ∧ (p.p ≠ g.p → isub .i64 1 ((iadd .i64 (isub .i64 p.p g.p) 4).tmod 4) = -1) := by
   obtain ⟨X, Z, P, rfl, _, _, a3⟩ := hp
   obtain ⟨X', Z', P', rfl, _, _, b3⟩ := k1
   have c1 : P = 0 ∨ P = 1 ∨ P = 2 ∨ P = 3 := by omega
   have c2 : P' = 0 ∨ P' = 1 ∨ P' = 2 ∨ P' = 3 := by omega
   have d1 : ((P : Int)).tmod 2 = 0 := hkp
   have d2 : ((P' : Int)).tmod 2 = 0 := hkg
   show ((P : Int) = P' → isub .i64 1 ((iadd .i64 (isub .i64 (P : Int) (P' : Int)) 4).tmod 4) = 1) ∧ ((P : Int) ≠ P' → isub .i64 1 ((iadd .i64 (isub .i64 (P : Int) (P' : Int)) 4).tmod 4) = -1)
   clear hpe k3 k2 hxr g3
   rcases c1 with rfl | rfl | rfl | rfl <;> rcases c2 with rfl | rfl | rfl | rfl <;> revert d1 d2 <;> decide
  refine ⟨fun q => hph.1 (hpe.2 (gen_uniq hst.good hst.ind q k2 k3.symm)), fun q => hph.2 fun c => ?_, fun a b => ?_⟩
  ·have e1 := hpe.1 c
   have e2 := gen_uniq hst.good hst.ind q k2 k3.symm
   rw [← e1] at e2
   exact eneg_ne hk.1 e2
  ·exfalso
   rcases e_or_neg hk (gen_ok hst.good k2) k3.symm with q | q
   ·rw [q] at a; exact a k2
   ·rw [q, eneg_neg (gen_ok hst.good k2).1] at b; exact b k2
 ·rw [if_neg e]
  exact ⟨fun q => absurd (hz.2 (gen_span q)) e, fun q => absurd (hz.2 (gen_span (g := eneg (nf p)) q)) e, fun _ _ => rfl⟩
end Go.Tz
namespace Go.Tz
open Go Go.AL Go.Ma
theorem comV_ecom {q r : Ps} : comV q r = true ↔ ecom (nf q) (nf r) := by
 unfold comV
 rw [cm_ecom]
 cases cm (nf q).2 (nf r).2 <;> simp
theorem prjL_vl {w : Nat} (hw : w ≤ 12) {p : Ps} (hp : Vl w p) : ∀ {l : List Ps}, (∀ q, q ∈ l → Vl w q) → ∀ q, q ∈ prjL p l → Vl w q
 | [], _, q, hq => by cases hq
 | a :: l, hv, q, hq => by
  unfold prjL at hq
  split at hq
  ·rcases List.mem_cons.1 hq with e | e
   ·subst e; exact hv _ (by simp)
   ·exact prjL_vl hw hp (fun q h => hv q (List.mem_cons_of_mem _ h)) q e
  ·rcases List.mem_cons.1 hq with e | e
   ·subst e; exact hp
   ·obtain ⟨r, hr, rfl⟩ := List.mem_map.1 e
    have hr := hv r (List.mem_cons_of_mem _ hr)
    split
    ·exact hr
    ·exact mul_vl hw (hv a (by simp)) hr
theorem prjL_nf {w : Nat} (hw : w ≤ 12) {p : Ps} : ∀ {l : List Ps}, (∀ q, q ∈ l → Vl w q) → Good (l.map nf) → (prjL p l).map nf = proj (nf p) (l.map nf)
 | [], _, _ => rfl
 | a :: l, hv, hG => by
  have ih := prjL_nf hw (p := p) (l := l) (fun q h => hv q (List.mem_cons_of_mem _ h)) (good_tl hG)
  simp only [List.map_cons, prjL, proj]
  by_cases e : comV a p = true
  ·rw [if_pos e, if_pos (comV_ecom.1 e), List.map_cons, ih]
  ·rw [if_neg e, if_neg (fun h => e (comV_ecom.2 h)), List.map_cons, projR, List.map_map, List.map_map]
   congr 1
   refine List.map_congr_left fun r hr => ?_
   show nf (if comV r p = true then r else mulS a r) = if ecom (nf r) (nf p) then nf r else emul (nf r) (nf a)
   by_cases c : comV r p = true
   ·rw [if_pos c, if_pos (comV_ecom.1 c)]
   ·rw [if_neg c, if_neg (fun h => c (comV_ecom.2 h)), nf_mul hw (hv a (by simp)) (hv r (List.mem_cons_of_mem _ hr))]
    exact emul_comm (hG.com _ _ (by simp) (by simp; right; exact ⟨r, hr, rfl⟩))
end Go.Tz
namespace Go.Tz
open Go Go.AL Go.Ma
theorem proj_get {p : E} : ∀ (L : List E) (a : Nat) (ha : a < L.length), (∀ j (_ : j < a), ecom (L[j]'(by omega)) p) → ¬ ecom L[a] p → ∀ j, (proj p L)[j]? = L[j]?.map fun q => if j < a then q else if j = a then p else if ecom q p then q else emul q L[a]
 | [], a, ha, _, _, _ => by simp at ha
 | b :: L, 0, ha, h1, h2, j => by
  have h2 : ¬ ecom b p := h2
  simp only [proj, if_neg h2]
  cases j with
  | zero => simp
  | succ j =>
   simp only [List.getElem?_cons_succ, projR, List.getElem?_map]
   simp
 | b :: L, a + 1, ha, h1, h2, j => by
  have h0 : ecom b p := h1 0 (by omega)
  simp only [proj, if_pos h0]
  cases j with
  | zero => simp
  | succ j =>
   have ih := proj_get L a (by simpa using ha) (fun j hj => h1 (j + 1) (by omega)) h2 j
   simp only [List.getElem?_cons_succ, ih]
   simp
theorem ant_spec {p : Ps} {rf : Nat → Ps} {N a0 : Nat} {R : List Nat} (h : antL p rf N = a0 :: R) : a0 < N ∧ comV p (rf a0) = false ∧ (∀ j, j < a0 → comV p (rf j) = true) ∧ ∀ j, j < N → a0 < j → (j ∈ R ↔ comV p (rf j) = false) ∧ (∀ j, j ∈ R → a0 < j) := by
 have hm : ∀ j, j ∈ a0 :: R ↔ j < N ∧ comV p (rf j) = false := fun j => by
  rw [← h]; unfold antL; rw [List.mem_filter, List.mem_range]; simp
 have hs : (a0 :: R).Pairwise (· < ·) := by
  rw [← h]; exact List.Pairwise.filter _ List.pairwise_lt_range
 have hlt := (List.pairwise_cons.1 hs).1
 obtain ⟨q1, q2⟩ := (hm a0).1 (by simp)
 refine ⟨q1, q2, fun j hj => ?_, fun j hj hlj => ⟨?_, hlt⟩⟩
 ·cases hc : comV p (rf j) with
  | true => rfl
  | false =>
   rcases List.mem_cons.1 ((hm j).2 ⟨by omega, hc⟩) with e | e
   ·omega
   ·have := hlt j e; omega
 ·constructor
  ·intro hR; exact ((hm j).1 (List.mem_cons_of_mem _ hR)).2
  ·intro hc
   rcases List.mem_cons.1 ((hm j).2 ⟨hj, hc⟩) with e | e
   ·omega
   ·exact e
theorem comV_false {q r : Ps} : comV q r = false ↔ ¬ ecom (nf q) (nf r) := by rw [← comV_ecom]; simp
theorem prjF_nf {w : Nat} (hw : w ≤ 12) {p : Ps} {rf : Nat → Ps} {N a0 : Nat} {R : List Nat} (hv : ∀ j, j < N → Vl w (rf j)) (h : antL p rf N = a0 :: R) : (rowsL N (prjF rf p a0 R)).map nf = proj (nf p) ((rowsL N rf).map nf) := by
 obtain ⟨h1, h2, h3, h4⟩ := ant_spec h
 have hg : ∀ j (hj : j < ((rowsL N rf).map nf).length), ((rowsL N rf).map nf)[j] = nf (rf j) := fun j hj => by simp [rowsL]
 have hl : ((rowsL N rf).map nf).length = N := by simp [rowsL]
 apply List.ext_getElem?
 intro j
 rw [proj_get ((rowsL N rf).map nf) a0 (by omega) (fun j hj => by rw [hg]; exact ecom_symm (comV_ecom.1 (h3 j hj))) (by rw [hg]; exact fun e => comV_false.1 h2 (ecom_symm e)), hg]
 simp only [rowsL, List.getElem?_map]
 by_cases hj : j < N
 ·rw [List.getElem?_range hj]
  simp only [Option.map_some]
  congr 1
  unfold prjF prjR
  rcases Nat.lt_trichotomy j a0 with e | e | e
  ·have hR : j ∉ R := fun hR => by
    have hs : (a0 :: R).Pairwise (· < ·) := by
     rw [← h]; exact List.Pairwise.filter _ List.pairwise_lt_range
    have := (List.pairwise_cons.1 hs).1 j hR
    omega
   rw [if_neg (show ¬ j = a0 by omega), if_neg hR, if_pos e]
  ·rw [if_pos e, if_neg (show ¬ j < a0 by omega), if_pos e]
  ·rw [if_neg (show ¬ j = a0 by omega), if_neg (show ¬ j < a0 by omega), if_neg (show ¬ j = a0 by omega)]
   have hiff := (h4 j hj e).1
   by_cases hR : j ∈ R
   ·rw [if_pos hR, if_neg (show ¬ ecom (nf (rf j)) (nf p) from fun c => comV_false.1 (hiff.1 hR) (ecom_symm c)), nf_mul hw (hv j hj) (hv a0 h1)]
   ·have hc : ecom (nf (rf j)) (nf p) := by
     refine ecom_symm (comV_ecom.1 ?_)
     cases hc : comV p (rf j) with
     | true => rfl
     | false => exact absurd (hiff.2 hc) hR
    rw [if_neg hR, if_pos hc]
 ·rw [List.getElem?_eq_none (by simpa using hj)]; rfl
theorem ant_ne {p : Ps} {rf : Nat → Ps} {N : Nat} (h : ∃ q, q ∈ (rowsL N rf).map nf ∧ ¬ ecom q (nf p)) : antL p rf N ≠ [] := by
 obtain ⟨q, hq, hc⟩ := h
 obtain ⟨r, hr, rfl⟩ := List.mem_map.1 hq
 obtain ⟨j, hj, rfl⟩ := List.mem_map.1 hr
 intro e
 have : j ∈ antL p rf N := by
  unfold antL
  rw [List.mem_filter]
  refine ⟨hj, ?_⟩
  have := comV_false.2 (fun c => hc (ecom_symm c))
  rw [this]; rfl
 rw [e] at this; cases this
theorem rowsL_get (l : List Ps) {n : Nat} (hn : l.length = n) : rowsL n (fun j => l.getD j Ps.z0) = l := by
 subst hn
 apply List.ext_getElem
 ·simp [rowsL]
 ·intro i h1 h2; simp [rowsL, List.getD_eq_getElem?_getD, List.getElem?_eq_getElem h2]
end Go.Tz
namespace Go.Tz
open Go Go.AL Go.Proofs Go.Ma
theorem lendA {V : AHeap} {nm sz N : Nat} {t : Bool} {es : List (List D)} {a : D} (hg : V.get nm = some (dblk sz es)) (hN : N = es.length) : mapO (asDX V 9 []) [.agg [.d a, .sl nm sz 0 N N t]] = some [.agg [a, .sl es t]] := by
 have h := asDX_sl (q := 6) (vis := []) (t := t) hg hN
 have e1 : asDX V 8 [] (.d a) = some a := rfl
 have e3 : asDX V 9 [] (.agg [.d a, .sl nm sz 0 N N t]) = some (.agg [a, .sl es t]) := by
  unfold asDX
  simp only [mapO, e1, h]
 simp only [mapO, e3]
theorem flat_rows (m : List Ps) : Blk.flat (dblk 4 (m.map Ps.l)) = true := by
 unfold dblk Blk.flat
 refine List.all_eq_true.2 fun el hel => ?_
 obtain ⟨x, hx, rfl⟩ := List.mem_map.1 hel
 obtain ⟨q, _, rfl⟩ := List.mem_map.1 hx
 rfl
theorem flOf_rows (a : D) (n : Nat) (t : Bool) (m : List Ps) : flOf (.agg [.d a, .sl 0 4 0 n n t]) [(0, some (dblk 4 (m.map Ps.l)))] = [(0, some (dblk 4 (m.map Ps.l)))] := by
 show AHeap.fl [(0, some (dblk 4 (m.map Ps.l)))] = _
 unfold AHeap.fl
 rw [flat_rows]; rfl
end Go.Tz
namespace Go.Tz
open Go Go.AL Go.Ma
theorem red_full {w : Nat} {l : List Ps} (h : SOk w l) : ∃ pc, RR l.length (2 * w) l.length (rfv l (2 * w)) pc := by
 obtain ⟨pc, r1, r2⟩ := rfv_piv h.hi h.vl
 have hb : ∀ c, ∀ a, a ∈ revl (rfv l c) l.length → a < 2 ^ 24 := by
  intro c a ha
  obtain ⟨j, hj, rfl⟩ := revl_mem.1 ha
  exact vec_lt h.hi ((red_vl h.hi h.vl c).1 j hj)
 have e1 := rk_eq (hb (2 * w)) (hb 0) fun v => rfv_span h.hi h.vl v (Nat.le_refl _)
 have e2 := h.rank
 rw [rank_rk h.hi h.vl, ← e1, rk_piv r2, cnt_all] at e2
 have han := r1.an
 have : (redN l (2 * w)).2.2 = l.length := by
  refine Classical.byContradiction fun hn => ?_
  have := e2 (redN l (2 * w)).2.2 (by omega)
  simp at this
 exact ⟨pc, by rw [this] at r1; exact r1⟩
theorem same_span {L M : List E} (h : SameG L M) (v : Nat) : spB (L.map (·.2)) v = spB (M.map (·.2)) v := by
 have key : ∀ {A B : List E}, SameG A B → spB (A.map (·.2)) v = true → spB (B.map (·.2)) v = true := fun hab ha => by
  obtain ⟨g, hg, rfl⟩ := span_gen _ v ha
  exact gen_span ((hab g).1 hg)
 cases e : spB (M.map (·.2)) v with
 | true => exact key (fun g => (h g).symm) e
 | false =>
  cases e2 : spB (L.map (·.2)) v with
  | false => rfl
  | true => rw [key h e2] at e; cases e
theorem red_uniq {w : Nat} {l m : List Ps} (h : SOk w l) (h' : SOk w m) (hg : SameG (l.map nf) (m.map nf)) : redRows l (2 * w) = redRows m (2 * w) := by
 obtain ⟨pc, r1⟩ := red_full h
 obtain ⟨pc', r2⟩ := red_full h'
 have hlen : l.length = m.length := by rw [h.len, h'.len]
 rw [← hlen] at r2
 have hs : ∀ v, spB (revl (rfv l (2 * w)) l.length) v = spB (revl (rfv m (2 * w)) l.length) v := fun v => by
  have e2 := rfv_span h'.hi h'.vl v (Nat.le_refl (2 * w))
  rw [← hlen] at e2
  have e3 := span_l (l := m) (v := v)
  rw [← hlen] at e3
  rw [rfv_span h.hi h.vl v (Nat.le_refl _), e2, e3, span_l, same_span hg]
 obtain ⟨a1, a2⟩ := redRows_ok h
 obtain ⟨b1, b2⟩ := redRows_ok h'
 have hA := sok_sta h'
 unfold redRows
 rw [← hlen]
 refine List.map_congr_left fun j hj => ?_
 have hj := List.mem_range.1 hj
 have hv := rr_uniq r1 r2 hs hj
 have mem : ∀ {l : List Ps}, j < l.length → nf ((redN l (2 * w)).1 j) ∈ (redRows l (2 * w)).map nf := fun hj => List.mem_map.2 ⟨_, List.mem_map.2 ⟨j, List.mem_range.2 hj, rfl⟩, rfl⟩
 have g1 : Gen (m.map nf) (nf ((redN l (2 * w)).1 j)) := (hg _).1 ((a2 _).2 (gen_mem' (sok_sta a1).good (mem hj)))
 have g2 : Gen (m.map nf) (nf ((redN m (2 * w)).1 j)) := (b2 _).2 (gen_mem' (sok_sta b1).good (mem (by omega)))
 exact nf_inj h.hi ((red_vl h.hi h.vl _).1 j hj) ((red_vl h'.hi h'.vl _).1 j (by omega)) (gen_uniq hA.good hA.ind g1 g2 hv)
theorem proj_sub {w : Nat} {L M : List E} (hL : Sta w L) (hM : Sta w M) {p : E} (hok : eok p) (h : SameG L M) (hxL : ∃ q, q ∈ L ∧ ¬ ecom q p) (hxM : ∃ q, q ∈ M ∧ ¬ ecom q p) {g : E} (hg : Gen (proj p L) g) : Gen (proj p M) g := by
 obtain ⟨k, hk, hc, e⟩ := proj_back hL.good hok hxL hg
 obtain ⟨f, hf, hfp, hkeep⟩ := proj_keep hM.good hok hxM
 have h1 := (hkeep k ((h k).1 hk)).1 hc
 have hgd := proj_good hM.good hok hxM
 rcases e with rfl | rfl
 ·exact h1
 ·exact gen_mul' hgd (gen_mem' hgd (proj_has hxM)) h1
theorem proj_same {w : Nat} {L M : List E} (hw : w ≤ 12) (hL : Sta w L) (hM : Sta w M) {p : E} (hp : inV w p.2) (hok : eok p) (h : SameG L M) (h1 : ¬ Gen L p) (h2 : ¬ Gen L (eneg p)) : SameG (proj p L) (proj p M) := by
 have hxL := sta_anti hw hL hp hok h1 h2
 have hxM := sta_anti hw hM hp hok (fun q => h1 ((h p).2 q)) (fun q => h2 ((h _).2 q))
 exact fun g => ⟨proj_sub hL hM hok h hxL hxM, proj_sub hM hL hok (fun g => (h g).symm) hxM hxL⟩
end Go.Tz
namespace Go.Tz
open Go Go.AL Go.Ma
def zP (w n o : Nat) : Ps := mk w 0 (2 ^ n) (2 * o)
theorem zP_vl {w n o : Nat} (hn : n < w) (ho : o ≤ 1) : Vl w (zP w n o) := ⟨0, 2 ^ n, 2 * o, rfl, Nat.two_pow_pos w, Nat.pow_lt_pow_right (by decide) hn, by omega⟩
theorem zP_ok {w n o : Nat} (hw : w ≤ 12) (hn : n < w) (ho : o ≤ 1) : eok (nf (zP w n o)) := by
 rw [eok_nf hw (zP_vl hn ho)]
 show ((2 * o : Nat) : Int).tmod 2 = 0
 rw [Int.tmod_eq_emod_of_nonneg (by omega)]; omega
theorem expOk_cases {L : List E} {g : E} {e : Int} (h : ExpOk L g e) : (e = 1 ∧ Gen L g) ∨ (e = -1 ∧ Gen L (eneg g)) ∨ (e = 0 ∧ ¬ Gen L g ∧ ¬ Gen L (eneg g)) := by
 by_cases a : Gen L g
 ·exact .inl ⟨h.pos a, a⟩
 ·by_cases b : Gen L (eneg g)
  ·exact .inr (.inl ⟨h.neg b, b⟩)
  ·exact .inr (.inr ⟨h.zero a b, a, b⟩)
theorem prjF_vl {w N : Nat} (hw : w ≤ 12) {rf : Nat → Ps} {p : Ps} {a0 : Nat} {R : List Nat} (hv : ∀ j, j < N → Vl w (rf j)) (hp : Vl w p) (ha : a0 < N) : ∀ j, j < N → Vl w (prjF rf p a0 R j) := by
 intro j hj
 unfold prjF prjR
 split
 ·exact hp
 ·split
  ·exact mul_vl hw (hv j hj) (hv a0 ha)
  ·exact hv j hj
theorem mea_gen {w : Nat} {l r : List Ps} (h : SOk w l) (h' : SOk w r) (hg : SameG (r.map nf) (l.map nf)) {p : Ps} (hp : Vl w p) (hk : eok (nf p)) :
  expP r p = expR w l p ∧ (expR w l p = 0 → SOk w (prjL p l) ∧ ∃ a0 R, antL p (fun j => r.getD j Ps.z0) w = a0 :: R ∧ a0 < w ∧ redRows (rowsL w (prjF (fun j => r.getD j Ps.z0) p a0 R)) (2 * w) = redRows (prjL p l) (2 * w)) := by
 have x1 := expP_ok h' hp hk
 have x2 := expR_ok h hp hk
 refine ⟨expOk_uniq hg x1 x2, fun h0 => ?_⟩
 have hs := sok_sta h
 have hs' := sok_sta h'
 have hpin : inV w (nf p).2 := vec_in h.hi hp
 have hn : ¬ Gen (l.map nf) (nf p) ∧ ¬ Gen (l.map nf) (eneg (nf p)) := by
  rcases expOk_cases x2 with ⟨a, _⟩ | ⟨a, _⟩ | ⟨_, b⟩
  ·rw [a] at h0; cases h0
  ·rw [a] at h0; cases h0
  ·exact b
 have hn' : ¬ Gen (r.map nf) (nf p) ∧ ¬ Gen (r.map nf) (eneg (nf p)) := ⟨fun q => hn.1 ((hg _).1 q), fun q => hn.2 ((hg _).1 q)⟩
 have er := rowsL_get r h'.len
 have hx := sta_anti h.hi hs' hpin hk hn'.1 hn'.2
 rw [← er] at hx
 have hne := ant_ne hx
 have hS : SOk w (prjL p l) := by
  refine sta_sok ⟨h.lo, h.hi⟩ (prjL_vl h.hi hp h.vl) ?_
  rw [prjL_nf h.hi h.vl hs.good]
  exact proj_sta h.hi hs hpin hk hn.1 hn.2
 refine ⟨hS, ?_⟩
 cases hA : antL p (fun j => r.getD j Ps.z0) w with
 | nil => exact absurd hA hne
 | cons a0 R =>
  have hv : ∀ j, j < w → Vl w (r.getD j Ps.z0) := fun j hj => by
   rw [List.getD_eq_getElem?_getD, List.getElem?_eq_getElem (by rw [h'.len]; exact hj), Option.getD_some]
   exact h'.vl _ (List.getElem_mem _)
  have ha := (ant_spec hA).1
  refine ⟨a0, R, rfl, ha, ?_⟩
  have hf := prjF_nf h.hi hv hA
  rw [er] at hf
  have hS2 : SOk w (rowsL w (prjF (fun j => r.getD j Ps.z0) p a0 R)) := by
   refine sta_sok ⟨h.lo, h.hi⟩ (fun q hq => ?_) ?_
   ·obtain ⟨j, hj, rfl⟩ := List.mem_map.1 hq
    exact prjF_vl h.hi hv hp ha j (List.mem_range.1 hj)
   ·rw [hf]
    exact proj_sta h.hi hs' hpin hk hn'.1 hn'.2
  refine red_uniq hS2 hS ?_
  rw [hf, prjL_nf h.hi h.vl hs.good]
  exact proj_same h.hi hs' hs hpin hk hg hn'.1 hn'.2
end Go.Tz
namespace Go.Tz
open Go Go.AL Go.Proofs
variable {G : Nat → Option (List D)}
structure Gt where
 (k : Int)
 (ws : List Int)
 (u : Bool)
 (b i : Int)
def Gt.l (g : Gt) : List D := [iD g.k, intsD g.ws g.u, iD g.b, iD g.i]
abbrev Gt.d (g : Gt) : D := .agg g.l
end Go.Tz
namespace Go.Tz
open Go Go.AL Go.Proofs Go.Ma
variable {G : Nat → Option (List D)}
def Gt.own (g : Gt) : Gt := { g with u := false }
end Go.Tz
namespace Go.Tz
open Go Go.AL Go.Proofs Go.Ma
variable {G : Nat → Option (List D)}
theorem beqT1 {α : Type} [BEq α] [ReflBEq α] {a : α} {k : Bool → Prop} (h : k true) : ∀ t, (a == a) = t → k t := fun t e => by
 have e2 : true = t := (beq_self_eq_true a).symm.trans e
 exact e2 ▸ h
theorem beqF1 {a b : Int} {k : Bool → Prop} (hne : decide (a = b) = false) (h : k false) : ∀ t, (a == b) = t → k t := fun t e => by
 have hne : a ≠ b := of_decide_eq_false hne
 have e2 : false = t := (beq_false_of_ne hne).symm.trans e
 exact e2 ▸ h
end Go.Tz
namespace Go.Tz
open Go Go.AL Go.Proofs Go.Ma
variable {G : Nat → Option (List D)}
theorem sok_len {w : Nat} {l : List Ps} (h : SOk w l) : l.length ≤ 1000 := by have := h.len; have := h.hi; omega
end Go.Tz
namespace Go.Tz
open Go Go.AL Go.Proofs Go.Ma
abbrev wkF (w nm : Nat) (F : FuncId) : Blk := .arr 3 [[.d (iD w), .sl nm 4 0 w w true, .fn F [.ptr 2 3 0 0] []]]
def rangesOf : Code → List (Code × Code)
 | .seq c d => rangesOf c ++ rangesOf d
 | .cond _ c d => rangesOf c ++ rangesOf d
 | .block _ c => rangesOf c
 | .scope c => rangesOf c
 | .rangeFunc _ _ a b => [(a, b)]
 | _ => []
noncomputable def rgI (f : Func) (i : Nat) : Code × Code := match f.body with
 | some c => (rangesOf c).getD i (.skip, .skip)
 | none => (.skip, .skip)
def prS (p : Ps) (rf : Nat → Ps) (a0 m j : Nat) : Ps := if j < m ∧ j ≠ a0 ∧ comV p (rf j) = false then mulS (rf j) (rf a0) else rf j
section
variable {p : Ps} {rf : Nat → Ps} {a0 m : Nat}
theorem prS_0 {j : Nat} : prS p rf a0 0 j = rf j := by unfold prS; rw [if_neg (by omega)]
theorem prS_at : prS p rf a0 m m = rf m := by unfold prS; rw [if_neg (by omega)]
theorem prS_a0 : prS p rf a0 m a0 = rf a0 := by unfold prS; rw [if_neg fun h => h.2.1 rfl]
theorem prS_new (h1 : m ≠ a0) (h2 : comV p (rf m) = false) : prS p rf a0 (m + 1) m = mulS (rf m) (rf a0) := by unfold prS; rw [if_pos ⟨by omega, h1, h2⟩]
theorem prS_step (j : Nat) : (if j = m then Ps.l (prS p rf a0 (m + 1) m) else Ps.l (prS p rf a0 m j)) = Ps.l (prS p rf a0 (m + 1) j) := by
 by_cases h : j = m
 ·rw [if_pos h, h]
 ·rw [if_neg h]
  unfold prS
  have e : (j < m + 1 ∧ j ≠ a0 ∧ comV p (rf j) = false) ↔ (j < m ∧ j ≠ a0 ∧ comV p (rf j) = false) := by constructor <;> (rintro ⟨a, b, c⟩; exact ⟨by omega, b, c⟩)
  simp only [e]
theorem prS_same (h : comV p (rf m) = true ∨ m = a0) : prS p rf a0 (m + 1) = prS p rf a0 m := by
 funext j
 unfold prS
 by_cases hj : j = m
 ·subst hj
  rw [if_neg, if_neg (by omega)]
  rintro ⟨_, h2, h3⟩
  rcases h with h | h
  ·rw [h] at h3; cases h3
  ·exact h2 h
 ·have e : (j < m + 1 ∧ j ≠ a0 ∧ comV p (rf j) = false) ↔ (j < m ∧ j ≠ a0 ∧ comV p (rf j) = false) := by constructor <;> (rintro ⟨a, b, c⟩; exact ⟨by omega, b, c⟩)
  simp only [e]
end
theorem bneT {a : Int} {k : Bool → Prop} (h : k false) : ∀ t, (a != a) = t → k t := fun t e => by
 have e2 : false = t := (show (a != a) = false by simp).symm.trans e
 exact e2 ▸ h
theorem bneF {a b : Int} (hne : a ≠ b) {k : Bool → Prop} (h : k true) : ∀ t, (a != b) = t → k t := fun t e => by
 have e2 : true = t := (show (a != b) = true by simpa using hne).symm.trans e
 exact e2 ▸ h
theorem chk136 : chkFn Tryz.f136 = true := by kernel_rfl
theorem measure136c {w n o : Nat} (hw : 1 ≤ w ∧ w ≤ 12) (hn : n < w) (ho : o ≤ 1) (F : FuncId) {rf : Nat → Ps} {a0 : Nat} {R : List Nat} (hpv : Vl w (zP w n o)) (hvl : ∀ j, j < w → Vl w (rf j)) (hA : antL (zP w n o) rf w = a0 :: R)
  (hx2 : PC Pr GG 107 [.agg [iD w, .sl ((List.range w).map fun j => Ps.l (rf j)) true], (zP w n o).d] (iD 0)) :
  ACall Pr GG 136 [.ptr 2 3 0 0, .d (iD n), .d (iD o)] [(2, some (wkF w 3 F)), (3, some (dblk 4 ((List.range w).map fun j => Ps.l (rf j))))] 12 fun v H n' => v = .d (.tup [iD 1, iD 0]) ∧ H.get 2 = some (wkF w 12 F) ∧ H.get 12 = some (dblk 4 ((redRows (rowsL w (prjF rf (zP w n o) a0 R)) (2 * w)).map Ps.l)) ∧ n' = 13 := by
 have hsh : ishl .i64 1 (n : Int) = ((2 ^ n : Nat) : Int) := pow_nat (by omega)
 have him : imul .i64 2 (o : Int) = ((2 * o : Nat) : Int) := imul_nat (a := 2) (by omega)
 have hPv := prjF_vl hw.2 hvl hpv (ant_spec hA).1 (R := R)
 have hcan := canon105o (G := GG) hw (rowsL w (prjF rf (zP w n o) a0 R)) true (by simp; omega) (fun q hq => by
  obtain ⟨j, hj, rfl⟩ := List.mem_map.1 hq
  exact hPv j (List.mem_range.1 hj))
 obtain ⟨sp1, sp2, sp3, sp4⟩ := ant_spec hA
 have hno : (∀ j, j < w → comV (zP w n o) (rf j) = true) → False := fun h => by
  have := h a0 sp1
  rw [sp2] at this; cases this
 have hcan2 : PO Pr GG 105 [.agg [iD w, .sl ((List.range w).map fun j => Ps.l (prjF rf (zP w n o) a0 R j)) true]] (.agg [.d (iD w), .sl 0 4 0 w w true]) [(0, some (dblk 4 ((redRows (rowsL w (prjF rf (zP w n o) a0 R)) (2 * w)).map Ps.l)))] 1 := by
  have eR : (rowsL w (prjF rf (zP w n o) a0 R)).map Ps.l = (List.range w).map fun j => Ps.l (prjF rf (zP w n o) a0 R j) := by unfold rowsL; rw [List.map_map]; rfl
  have eL : (rowsL w (prjF rf (zP w n o) a0 R)).length = w := by simp
  rw [← eR]
  rw [eL] at hcan
  exact hcan
 clear hcan
 have hRm : ∀ j, j ∈ R ↔ j < w ∧ j ≠ a0 ∧ comV (zP w n o) (rf j) = false := fun j => by
  have hm : j ∈ a0 :: R ↔ j < w ∧ comV (zP w n o) (rf j) = false := by
   rw [← hA]; unfold antL; rw [List.mem_filter, List.mem_range]; simp
  have hnd : (a0 :: R).Nodup := by rw [← hA]; exact (List.nodup_range).filter _
  have haR : a0 ∉ R := (List.nodup_cons.1 hnd).1
  constructor
  ·intro h
   have := hm.1 (List.mem_cons_of_mem _ h)
   exact ⟨this.1, fun q => haR (q ▸ h), this.2⟩
  ·rintro ⟨h1, h2, h3⟩
   rcases List.mem_cons.1 (hm.2 ⟨h1, h3⟩) with q | q
   ·exact absurd q h2
   ·exact q
 have hB0 : chkCode Tryz.f136.ntmps (rgI Tryz.f136 0).2 = true := by kernel_rfl
 have hB1 : chkCode Tryz.f136.ntmps (rgI Tryz.f136 1).2 = true := by kernel_rfl
 refine acall_sub (fn_walk pok Tryz.func136 chk136 (K := fun v H m => v = .d (.tup [iD 1, iD 0]) ∧ H.get 2 = some (wkF w 24 F) ∧ H.get 24 = some (dblk 4 ((redRows (rowsL w (prjF rf (zP w n o) a0 R)) (2 * w)).map Ps.l))) ?_) ?_
 ·conv => whnf
  repeat' first | ((first | refine LookP.mk _ (by first | rfl | exact lendW rfl (by simp)) ?_ | refine ShlP.mk _ (by first | (simp only [List.set, over, List.take, List.drop, List.append_eq, List.nil_append, List.cons_append, List.length]; rfl) | rfl) ?_ | refine And.intro (by first | assumption | exact ⟨by kernel_rfl, rfl⟩ | decide | omega) ?_ | rw [hsh] | rw [him] | refine spine_rd (l := [3]) (rd_call rfl rfl (show _ = some (dblk 4 ((List.range w).map fun j => Ps.l (rf j))) from rfl)) ?_ | refine pc_head hx2 ?_ | refine beqF1 rfl ?_ | refine HpP.force ?_); conv => whnf)
  refine call_walk pok Tryz.func195 chk195 ?_
  conv => whnf
  skip
  refine call_walk pok Tryz.func247 chk247 ?_
  conv => whnf
  repeat' first | (refine LookP.mk _ rfl ?_; conv => whnf)
  refine for_use pok (fun i => ⟨[(0, .yld 18), (4, .d (.fn 114 [.agg [iD w, iD 0, iD ((2 ^ n : Nat) : Int), iD ((2 * o : Nat) : Int)]] [])), (14, .sl 3 4 0 w w true), (15, .d (iD w)), (16, .d (iD i))], [(2, some (wkF w 3 F)), (3, some (dblk 4 ((List.range w).map fun j => Ps.l (rf j)))), (12, some (.arr 1 [[.ptr 2 3 0 0]])), (13, some (.arr 4 [[.d (iD w), .d (iD 0), .d (iD ((2 ^ n : Nat) : Int)), .d (iD ((2 * o : Nat) : Int))]])), (14, some (.arr 1 [[.d (iD (-1))]])), (15, some (.arr 1 [[.ptr 2 3 0 0]])), (16, some (.arr 4 [[.d (iD w), .d (iD 0), .d (iD ((2 ^ n : Nat) : Int)), .d (iD ((2 * o : Nat) : Int))]])), (17, some (.raw (.deferred (some [])))), (18, some (.lp [(34, .fn 247 [] [.ptr 16 4 0 0, .ptr 15 1 0 0]), (33, .d (.agg [iD w, iD 0, iD ((2 ^ n : Nat) : Int), iD ((2 * o : Nat) : Int)])), (32, .ptr 2 3 0 0), (9, .ptr 14 1 0 0), (30, .d (.bool false)), (31, .d (.bool false)), (28, .d (.bool false)), (29, .d (.bool false)), (27, .d (iD 0)), (26, .d (.agg [iD w, iD 0, iD ((2 ^ n : Nat) : Int), iD ((2 * o : Nat) : Int)])), (25, .agg [.d (iD w), .sl 3 4 0 w w true]), (24, .ptr 2 3 0 0), (23, .ptr 2 3 0 0), (22, .ptr 2 3 0 0), (8, .ptr 13 4 0 0), (21, .d (.agg [iD w, iD 0, iD ((2 ^ n : Nat) : Int), iD ((2 * o : Nat) : Int)])), (20, .d (iD ((2 * o : Nat) : Int))), (19, .d (iD o)), (18, .d (iD ((2 ^ n : Nat) : Int))), (17, .d (iD n)), (16, .d (iD w)), (15, .ptr 2 3 0 0), (14, .ptr 2 3 0 0), (13, .ptr 2 3 0 0), (12, .ptr 2 3 0 0), (7, .d (iD 0)), (6, .d (iD 0)), (3, .ptr 12 1 0 0), (0, .ptr 2 3 0 0), (1, .d (iD n)), (2, .d (iD o))] Tryz.f136.ntmps #[35] (rgI Tryz.f136 0).1 (rgI Tryz.f136 0).2 .ready none 17))], 19⟩) (w) (fun i => ∀ j, j < i → comV (zP w n o) (rf j) = true) (by omega) ?_ (by kernel_rfl) ?_ ?_
  ·refine keep_env (by first | exact Nat.zero_le _ | exact Nat.le_of_ble_eq_true rfl) ?_ ?_ trivial
   ·repeat' first | exact trivial | refine ⟨⟨by first | rfl | assumption, rfl⟩, ?_⟩
   ·repeat' first | exact trivial | refine ⟨⟨ltB rfl, _, rfl, by first | rfl | assumption, by first | exact below1 rfl | exact below_dblk _ _ _ | exact below_arr rfl | exact trivial | exact ⟨rfl, Nat.le_of_ble_eq_true rfl⟩⟩, ?_⟩
  ·intro i A_i h_i I_i N_i
   have e_i : iadd .i64 (i : Int) 1 = ((i + 1 : Nat) : Int) := iadd_nat (by first | omega | (simp at *; omega))
   have hc := with114 (G := GG) hw hpv (hvl i h_i)
   cases hb : comV (zP w n o) (rf i) with
   | true =>
    rw [hb] at hc
    conv => whnf
    repeat (refine LookP.mk _ rfl ?_; conv => whnf)
    intro t ht
    cases t
    ·exfalso; first | (simp at ht; done) | (simp at ht; omega)
    conv => whnf
    repeat' first | ((first | refine LookP.mk _ (by first | rfl | exact get_rw h_i) ?_ | refine ShlP.mk _ (by first | (simp only [List.set, over, List.take, List.drop, List.append_eq, List.nil_append, List.cons_append, List.length]; rfl) | rfl) ?_ | refine And.intro (by first | assumption | exact ⟨by kernel_rfl, rfl⟩ | decide | omega) ?_ | refine pc_use hc ?_ | refine HpP.force ?_); conv => whnf)
    refine N_i _ ?_ ?_
    ·(intro j hj; rcases Nat.lt_or_ge j i with h | h; exact I_i j h; rw [show j = i by omega]; exact hb)
    ·refine keep_env (by first | exact Nat.zero_le _ | exact Nat.le_of_ble_eq_true rfl) ?_ ?_ trivial
     ·repeat' first | exact trivial | refine ⟨⟨by first | rfl | assumption | exact congrArg (fun n => AV.d (iD n)) e_i, rfl⟩, ?_⟩
     ·repeat' first | exact trivial | refine ⟨⟨ltB rfl, _, rfl, by first | rfl | assumption, by first | exact below1 rfl | exact below_dblk _ _ _ | exact below_arr rfl | exact trivial | exact ⟨rfl, Nat.le_of_ble_eq_true rfl⟩⟩, ?_⟩
   | false =>
    rw [hb] at hc
    have hia : i = a0 := by
     rcases Nat.lt_trichotomy i a0 with q | q | q
     ·have := sp3 i q
      rw [hb] at this; cases this
     ·exact q
     ·have := I_i a0 q
      rw [sp2] at this; cases this
    conv => whnf
    repeat (refine LookP.mk _ rfl ?_; conv => whnf)
    intro t ht
    cases t
    ·exfalso; first | (simp at ht; done) | (simp at ht; omega)
    conv => whnf
    repeat' first | ((first | refine LookP.mk _ (by first | rfl | exact get_rw h_i) ?_ | refine ShlP.mk _ (by first | (simp only [List.set, over, List.take, List.drop, List.append_eq, List.nil_append, List.cons_append, List.length]; rfl) | rfl) ?_ | refine And.intro (by first | assumption | exact ⟨by kernel_rfl, rfl⟩ | decide | omega) ?_ | refine pc_use hc ?_ | refine HpP.force ?_); conv => whnf)
    refine round_walk pok ?_
    conv => whnf
    repeat' first | ((first | refine LookP.mk _ rfl ?_ | refine ShlP.mk _ (by first | (simp only [List.set, over, List.take, List.drop, List.append_eq, List.nil_append, List.cons_append, List.length]; rfl) | rfl) ?_ | refine HpP.force ?_); conv => whnf)
    refine call_walk pok Tryz.func195 chk195 ?_
    conv => whnf
    skip
    refine call_walk pok Tryz.func247 chk247 ?_
    conv => whnf
    repeat' first | (refine LookP.mk _ rfl ?_; conv => whnf)
    refine for_use pok (fun m => ⟨[(0, .yld 23), (4, .d (.fn 114 [.agg [iD w, iD 0, iD ((2 ^ n : Nat) : Int), iD ((2 * o : Nat) : Int)]] [])), (14, .sl 3 4 0 w w true), (15, .d (iD w)), (16, .d (iD m))], [(2, some (wkF w 3 F)), (3, some (dblk 4 ((List.range w).map fun j => Ps.l (prS (zP w n o) rf a0 m j)))), (12, some (.arr 1 [[.ptr 2 3 0 0]])), (13, some (.arr 4 [[.d (iD w), .d (iD 0), .d (iD ((2 ^ n : Nat) : Int)), .d (iD ((2 * o : Nat) : Int))]])), (14, some (.arr 1 [[.d (iD a0)]])), (17, some (.raw (.deferred (some [])))), (20, some (.arr 1 [[.ptr 2 3 0 0]])), (21, some (.arr 4 [[.d (iD w), .d (iD 0), .d (iD ((2 ^ n : Nat) : Int)), .d (iD ((2 * o : Nat) : Int))]])), (22, some (.raw (.deferred (some [])))), (23, some (.lp [(39, .fn 247 [] [.ptr 21 4 0 0, .ptr 20 1 0 0]), (38, .d (.agg [iD w, iD 0, iD ((2 ^ n : Nat) : Int), iD ((2 * o : Nat) : Int)])), (37, .ptr 2 3 0 0), (34, .fn 247 [] [.ptr 16 4 0 0, .ptr 15 1 0 0]), (33, .d (.agg [iD w, iD 0, iD ((2 ^ n : Nat) : Int), iD ((2 * o : Nat) : Int)])), (32, .ptr 2 3 0 0), (9, .ptr 14 1 0 0), (30, .d (.bool false)), (31, .d (.bool false)), (28, .d (.bool false)), (29, .d (.bool false)), (27, .d (iD 0)), (26, .d (.agg [iD w, iD 0, iD ((2 ^ n : Nat) : Int), iD ((2 * o : Nat) : Int)])), (25, .agg [.d (iD w), .sl 3 4 0 w w true]), (24, .ptr 2 3 0 0), (23, .ptr 2 3 0 0), (22, .ptr 2 3 0 0), (8, .ptr 13 4 0 0), (21, .d (.agg [iD w, iD 0, iD ((2 ^ n : Nat) : Int), iD ((2 * o : Nat) : Int)])), (20, .d (iD ((2 * o : Nat) : Int))), (19, .d (iD o)), (18, .d (iD ((2 ^ n : Nat) : Int))), (17, .d (iD n)), (16, .d (iD w)), (15, .ptr 2 3 0 0), (14, .ptr 2 3 0 0), (13, .ptr 2 3 0 0), (12, .ptr 2 3 0 0), (7, .d (iD 0)), (6, .d (iD 0)), (3, .ptr 12 1 0 0), (0, .ptr 2 3 0 0), (1, .d (iD n)), (2, .d (iD o))] Tryz.f136.ntmps #[40] (rgI Tryz.f136 1).1 (rgI Tryz.f136 1).2 .ready none 22))], 24⟩) (w) (fun _ => True) (trivial) ?_ (by kernel_rfl) ?_ ?_
    ·refine keep_env (by first | exact Nat.zero_le _ | exact Nat.le_of_ble_eq_true rfl) ?_ ?_ trivial
     ·repeat' first | exact trivial | refine ⟨⟨by first | rfl | assumption, rfl⟩, ?_⟩
     ·repeat' first | exact trivial | refine ⟨⟨ltB rfl, _, rfl, by first | rfl | assumption | exact congrArg some (psB_congr fun j => by rw [prS_0]) | (rw [hia]; rfl), by first | exact below1 rfl | exact below_dblk _ _ _ | exact below_arr rfl | exact trivial | exact ⟨rfl, Nat.le_of_ble_eq_true rfl⟩⟩, ?_⟩
    ·intro m A_m h_m I_m N_m
     have e_m : iadd .i64 (m : Int) 1 = ((m + 1 : Nat) : Int) := iadd_nat (by first | omega | (simp at *; omega))
     have hcm := with114 (G := GG) hw hpv (hvl m h_m)
     have hst : ∀ j, (if j = m then Ps.l (prS (zP w n o) rf a0 (m + 1) m) else Ps.l (prS (zP w n o) rf a0 m j)) = Ps.l (prS (zP w n o) rf a0 (m + 1) j) := fun j => prS_step j
     have hgm : (fun j => Ps.l (prS (zP w n o) rf a0 m j)) m = Ps.l (rf m) := by dsimp only; rw [prS_at]
     cases hbm : comV (zP w n o) (rf m) with
     | true =>
      rw [hbm] at hcm
      have hsame : ∀ j, Ps.l (prS (zP w n o) rf a0 m j) = Ps.l (prS (zP w n o) rf a0 (m + 1) j) := fun j => by rw [prS_same (.inl hbm)]
      generalize prS (zP w n o) rf a0 m = g at hgm hsame hst
      conv => whnf
      repeat (refine LookP.mk _ rfl ?_; conv => whnf)
      intro t ht
      cases t
      ·exfalso; first | (simp at ht; done) | (simp at ht; omega)
      conv => whnf
      repeat' first | ((first | refine LookP.mk _ (by first | rfl | exact get_rwE h_m hgm) ?_ | refine ShlP.mk _ (by first | (simp only [List.set, over, List.take, List.drop, List.append_eq, List.nil_append, List.cons_append, List.length]; rfl) | rfl) ?_ | refine And.intro (by first | assumption | exact ⟨by kernel_rfl, rfl⟩ | decide | omega) ?_ | refine pc_use hcm ?_ | refine HpP.force ?_); conv => whnf)
      refine N_m _ ?_ ?_
      ·first | trivial | assumption | omega
      ·refine keep_env (by first | exact Nat.zero_le _ | exact Nat.le_of_ble_eq_true rfl) ?_ ?_ trivial
       ·repeat' first | exact trivial | refine ⟨⟨by first | rfl | assumption | exact congrArg (fun n => AV.d (iD n)) e_m, rfl⟩, ?_⟩
       ·repeat' first | exact trivial | refine ⟨⟨ltB rfl, _, rfl, by first | rfl | assumption | exact congrArg some (psB_congr hsame), by first | exact below1 rfl | exact below_dblk _ _ _ | exact below_arr rfl | exact trivial | exact ⟨rfl, Nat.le_of_ble_eq_true rfl⟩⟩, ?_⟩
     | false =>
      rw [hbm] at hcm
      by_cases hma : m = a0
      ·have hsame : ∀ j, Ps.l (prS (zP w n o) rf a0 m j) = Ps.l (prS (zP w n o) rf a0 (m + 1) j) := fun j => by rw [prS_same (.inr hma)]
       generalize prS (zP w n o) rf a0 m = g at hgm hsame hst
       generalize prS (zP w n o) rf a0 (m + 1) = g' at hsame hst N_m
       subst hma
       conv => whnf
       repeat (refine LookP.mk _ rfl ?_; conv => whnf)
       intro t ht
       cases t
       ·exfalso; first | (simp at ht; done) | (simp at ht; omega)
       conv => whnf
       repeat' first | ((first | refine LookP.mk _ (by first | rfl | exact get_rwE h_m hgm) ?_ | refine ShlP.mk _ (by first | (simp only [List.set, over, List.take, List.drop, List.append_eq, List.nil_append, List.cons_append, List.length]; rfl) | rfl) ?_ | refine And.intro (by first | assumption | exact ⟨by kernel_rfl, rfl⟩ | decide | omega) ?_ | refine pc_use hcm ?_ | refine HpP.force ?_); conv => whnf)
       refine round_walk pok ?_
       conv => whnf
       repeat' first | ((first | refine LookP.mk _ rfl ?_ | rw [hB1] | refine bneT ?_); conv => whnf)
       refine N_m _ ?_ ?_
       ·first | trivial | assumption | omega
       ·refine keep_env (by first | exact Nat.zero_le _ | exact Nat.le_of_ble_eq_true rfl) ?_ ?_ trivial
        ·repeat' first | exact trivial | refine ⟨⟨by first | rfl | assumption | exact congrArg (fun n => AV.d (iD n)) e_m, rfl⟩, ?_⟩
        ·repeat' first | exact trivial | refine ⟨⟨ltB rfl, _, rfl, by first | rfl | assumption | exact congrArg some (psB_congr hsame), by first | exact below1 rfl | exact below_dblk _ _ _ | exact below_arr rfl | exact trivial | exact ⟨rfl, Nat.le_of_ble_eq_true rfl⟩⟩, ?_⟩
      ·have hma' : (m : Int) ≠ a0 := by omega
       have hta := times183v (G := GG) hw (rf m) [rf a0] true (by simp) (hvl m h_m) (by intro r hr; rw [List.mem_singleton.1 hr]; exact hvl a0 sp1)
       have hme2 : ([rf a0].foldl mulS (rf m)) = prS (zP w n o) rf a0 (m + 1) m := (prS_new hma hbm).symm
       rw [hme2] at hta
       have hga : prS (zP w n o) rf a0 m a0 = rf a0 := prS_a0
       generalize prS (zP w n o) rf a0 m = g at hgm hst hga
       generalize hg1 : prS (zP w n o) rf a0 (m + 1) = g' at hst hta N_m
       generalize hr' : g' m = r' at hta hst
       have hst2 : ∀ j, (if j = m then [iD r'.w, iD r'.x, iD r'.z, iD r'.p] else Ps.l (g j)) = Ps.l (g' j) := hst
       have hgA : (fun j => Ps.l (g j)) a0 = Ps.l (rf a0) := by dsimp only; rw [hga]
       conv => whnf
       repeat (refine LookP.mk _ rfl ?_; conv => whnf)
       intro t ht
       cases t
       ·exfalso; first | (simp at ht; done) | (simp at ht; omega)
       conv => whnf
       repeat' first | ((first | refine LookP.mk _ (by first | rfl | exact get_rwE h_m hgm) ?_ | refine ShlP.mk _ (by first | (simp only [List.set, over, List.take, List.drop, List.append_eq, List.nil_append, List.cons_append, List.length]; rfl) | rfl) ?_ | refine And.intro (by first | assumption | exact ⟨by kernel_rfl, rfl⟩ | decide | omega) ?_ | refine pc_use hcm ?_ | refine HpP.force ?_); conv => whnf)
       refine round_walk pok ?_
       conv => whnf
       repeat' first | ((first | refine LookP.mk _ (by first | rfl | exact get_rwE h_m hgm | exact get_rwE sp1 hgA) ?_ | refine ShlP.mk _ (by first | exact set_rw (x := [_, _, _, _]) h_m | (simp only [List.set, over, List.take, List.drop, List.append_eq, List.nil_append, List.cons_append, List.length]; rfl) | rfl) ?_ | refine And.intro (by first | exact ⟨Int.natCast_nonneg _, by omega⟩ | assumption | exact ⟨by kernel_rfl, rfl⟩ | decide | omega) ?_ | rw [hB1] | refine bneF hma' ?_ | refine pc_head hta ?_ | refine HpP.force ?_); conv => whnf)
       refine N_m _ ?_ ?_
       ·first | trivial | assumption | omega
       ·refine keep_env (by first | exact Nat.zero_le _ | exact Nat.le_of_ble_eq_true rfl) ?_ ?_ trivial
        ·repeat' first | exact trivial | refine ⟨⟨by first | rfl | assumption | exact congrArg (fun n => AV.d (iD n)) e_m, rfl⟩, ?_⟩
        ·repeat' first | exact trivial | refine ⟨⟨ltB rfl, _, rfl, by first | rfl | assumption | exact congrArg some (psB_congr hst2), by first | exact below1 rfl | exact below_dblk _ _ _ | exact below_arr rfl | exact trivial | exact ⟨rfl, Nat.le_of_ble_eq_true rfl⟩⟩, ?_⟩
    ·intro A_last I_last
     have hfin : ∀ j, (if j = a0 then [iD w, iD 0, iD ((2 ^ n : Nat) : Int), iD ((2 * o : Nat) : Int)] else Ps.l (prS (zP w n o) rf a0 w j)) = Ps.l (prjF rf (zP w n o) a0 R j) := fun j => by
      unfold prjF prjR prS
      by_cases h : j = a0
      ·rw [if_pos h, if_pos h]; rfl
      ·rw [if_neg h, if_neg h]
       by_cases hr : j ∈ R
       ·rw [if_pos hr, if_pos ((hRm j).1 hr)]
       ·rw [if_neg hr, if_neg fun q => hr ((hRm j).2 q)]
     have hgA : (fun j => Ps.l (prS (zP w n o) rf a0 w j)) a0 = Ps.l (rf a0) := by dsimp only; rw [prS_a0]
     generalize prS (zP w n o) rf a0 w = g at hfin hgA
     generalize prjF rf (zP w n o) a0 R = g' at hfin hcan2 ⊢
     conv => whnf
     repeat (refine LookP.mk _ rfl ?_; conv => whnf)
     intro t ht
     cases t
     rotate_left
     ·exfalso; first | (simp at ht; done) | (simp at ht; omega)
     conv => whnf
     repeat' first | ((first | refine LookP.mk _ (by first | rfl | exact get_rwE sp1 hgA | exact lendA (congrArg some (psB_congr hfin)) (by simp)) ?_ | refine ShlP.mk _ (by first | exact set_rw (x := [_, _, _, _]) sp1 | (simp only [List.set, over, List.take, List.drop, List.append_eq, List.nil_append, List.cons_append, List.length]; rfl) | rfl) ?_ | refine And.intro (by first | exact ⟨Int.natCast_nonneg _, by omega⟩ | assumption | exact ⟨by kernel_rfl, rfl⟩ | decide | omega) ?_ | refine spine_rd (l := [3]) (rd_call rfl rfl (show _ = some (dblk 4 ((List.range w).map fun j => Ps.l (g' j))) from congrArg some (psB_congr hfin))) ?_ | refine po_head hcan2 ?_ | rw [flOf_rows] | refine ShhP.mk _ rfl ?_ | refine HpP.force ?_); conv => whnf)
     refine fin ⟨rfl, rfl, ?_⟩
     show some (Blk.ren _ (dblk 4 _)) = _
     rw [ren_dblk]
  ·intro A_last I_last
   exact (hno I_last).elim
 ·rintro v H m ⟨rfl, h2, h3⟩
  refine ⟨.d (.tup [iD 1, iD 0]), [(2, some (wkF w 12 F)), (12, some (dblk 4 ((redRows (rowsL w (prjF rf (zP w n o) a0 R)) (2 * w)).map Ps.l)))], 13, ?_, rfl, rfl, rfl, rfl⟩
  first | refine ren_env [(2, 2), (12, 24)] ?_ ?_ ?_ trivial | refine ren_envB [(2, 2), (12, 24)] rfl rfl ?_ ?_ ?_ trivial
  ·repeat' first | exact trivial | refine ⟨⟨by first | rfl | assumption, rfl⟩, ?_⟩
  ·repeat' first | exact trivial | refine ⟨⟨ltB rfl, _, rfl, by first | rfl | assumption | exact get_ren rfl (by first | rfl | assumption | exact h2 | exact get_ren rfl h3 | exact get_ren rfl h2) | exact h2 | exact get_ren rfl h3 | exact get_ren rfl h2, by first | exact below1 rfl | exact below_dblk _ _ _ | exact below_arr rfl⟩, ?_⟩
  ·repeat' first | exact trivial | (refine And.intro ?_ ?_) | (exact fun _ => rfl) | (exact fun h => absurd h (Nat.ne_of_beq_eq_false rfl))
end Go.Tz
namespace Go.Tz
open Go Go.AL Go.Proofs Go.Ma
abbrev mK (w : Nat) (F : FuncId) (v : AV) (nm : Nat) (R : List Ps) : AV → AHeap → Nat → Prop := fun v' H n' => v' = v ∧ H.get 2 = some (wkF w nm F) ∧ H.get nm = some (dblk 4 (R.map Ps.l)) ∧ n' = 13
abbrev mA (w : Nat) (F : FuncId) (L : List Ps) : AHeap := [(2, some (wkF w 3 F)), (3, some (dblk 4 (L.map Ps.l)))]
abbrev rV (n e : Int) : AV := .d (.tup [iD n, iD e])
theorem measure136s {w n o : Nat} {L : List Ps} (hs : SOk w L) (hn : n < w) (ho : o ≤ 1) (F : FuncId) {e r : Int} (he : expP L (zP w n o) = e) (h : (e = 1 ∧ r = 0) ∨ (e = -1 ∧ r = 6)) :
  ACall Pr GG 136 [.ptr 2 3 0 0, .d (iD n), .d (iD o)] (mA w F L) 12 (mK w F (rV 0 r) 3 L) := by
 have hlen := hs.len
 have hhi := hs.hi
 have hpv := zP_vl hn ho
 have hx := expected107 hs true hpv
 rw [he] at hx
 have hsh : ishl .i64 1 (n : Int) = ((2 ^ n : Nat) : Int) := pow_nat (by omega)
 have him : imul .i64 2 (o : Int) = ((2 * o : Nat) : Int) := imul_nat (a := 2) (by omega)
 have hx2 : PC Pr GG 107 [.agg [iD w, .sl (L.map Ps.l) true], (zP w n o).d] (iD e) := hx
 clear he hx
 rcases h with ⟨rfl, rfl⟩ | ⟨rfl, rfl⟩
 ·refine acall_sub (fn_walk pok Tryz.func136 chk136 (K := fun v H m => v = rV 0 0 ∧ H.get 2 = some (wkF w 3 F) ∧ H.get 3 = some (dblk 4 (L.map Ps.l))) ?_) ?_
  ·conv => whnf
   repeat' first | ((first | refine LookP.mk _ (by first | rfl | exact lendW rfl (by rw [List.length_map, hlen])) ?_ | refine ShlP.mk _ (by first | (simp only [List.set, over, List.take, List.drop, List.append_eq, List.nil_append, List.cons_append, List.length]; rfl) | rfl) ?_ | refine And.intro (by first | assumption | exact ⟨by kernel_rfl, rfl⟩ | decide | omega) ?_ | rw [hsh] | rw [him] | refine spine_rd (l := [3]) (rd_call rfl rfl (show _ = some (dblk 4 (L.map Ps.l)) from rfl)) ?_ | refine pc_head hx2 ?_ | refine beqT1 ?_ | refine HpP.force ?_); conv => whnf)
   exact fin ⟨rfl, rfl, rfl⟩
  ·rintro v H m ⟨rfl, h2, h3⟩
   refine ⟨rV 0 0, mA w F L, 13, ?_, rfl, rfl, rfl, rfl⟩
   first | refine ren_env [(2, 2), (3, 3)] ?_ ?_ ?_ trivial | refine ren_envB [(2, 2), (3, 3)] rfl rfl ?_ ?_ ?_ trivial
   ·repeat' first | exact trivial | refine ⟨⟨by first | rfl | assumption, rfl⟩, ?_⟩
   ·repeat' first | exact trivial | refine ⟨⟨ltB rfl, _, rfl, by first | rfl | assumption | exact get_ren rfl (by first | rfl | assumption | exact get_ren rfl h3 | exact get_ren rfl h2) | exact get_ren rfl h3 | exact get_ren rfl h2, by first | exact below1 rfl | exact below_dblk _ _ _ | exact below_arr rfl⟩, ?_⟩
   ·repeat' first | exact trivial | (refine And.intro ?_ ?_) | (exact fun _ => rfl) | (exact fun h => absurd h (Nat.ne_of_beq_eq_false rfl))
 ·refine acall_sub (fn_walk pok Tryz.func136 chk136 (K := fun v H m => v = rV 0 6 ∧ H.get 2 = some (wkF w 3 F) ∧ H.get 3 = some (dblk 4 (L.map Ps.l))) ?_) ?_
  ·conv => whnf
   repeat' first | ((first | refine LookP.mk _ (by first | rfl | exact lendW rfl (by rw [List.length_map, hlen])) ?_ | refine ShlP.mk _ (by first | (simp only [List.set, over, List.take, List.drop, List.append_eq, List.nil_append, List.cons_append, List.length]; rfl) | rfl) ?_ | refine And.intro (by first | assumption | exact ⟨by kernel_rfl, rfl⟩ | decide | omega) ?_ | rw [hsh] | rw [him] | refine spine_rd (l := [3]) (rd_call rfl rfl (show _ = some (dblk 4 (L.map Ps.l)) from rfl)) ?_ | refine pc_head hx2 ?_ | refine beqT1 ?_ | refine beqF1 rfl ?_ | refine HpP.force ?_); conv => whnf)
   exact fin ⟨rfl, rfl, rfl⟩
  ·rintro v H m ⟨rfl, h2, h3⟩
   refine ⟨rV 0 6, mA w F L, 13, ?_, rfl, rfl, rfl, rfl⟩
   first | refine ren_env [(2, 2), (3, 3)] ?_ ?_ ?_ trivial | refine ren_envB [(2, 2), (3, 3)] rfl rfl ?_ ?_ ?_ trivial
   ·repeat' first | exact trivial | refine ⟨⟨by first | rfl | assumption, rfl⟩, ?_⟩
   ·repeat' first | exact trivial | refine ⟨⟨ltB rfl, _, rfl, by first | rfl | assumption | exact get_ren rfl (by first | rfl | assumption | exact get_ren rfl h3 | exact get_ren rfl h2) | exact get_ren rfl h3 | exact get_ren rfl h2, by first | exact below1 rfl | exact below_dblk _ _ _ | exact below_arr rfl⟩, ?_⟩
   ·repeat' first | exact trivial | (refine And.intro ?_ ?_) | (exact fun _ => rfl) | (exact fun h => absurd h (Nat.ne_of_beq_eq_false rfl))
theorem measure136f {w n o : Nat} {L : List Ps} (hs : SOk w L) (hn : n < w) (ho : o ≤ 1) (F : FuncId) {a0 : Nat} {R : List Nat} (he : expP L (zP w n o) = 0) (hA : antL (zP w n o) (fun j => L.getD j Ps.z0) w = a0 :: R) :
  ACall Pr GG 136 [.ptr 2 3 0 0, .d (iD n), .d (iD o)] (mA w F L) 12 (mK w F (rV 1 0) 12 (redRows (rowsL w (prjF (fun j => L.getD j Ps.z0) (zP w n o) a0 R)) (2 * w))) := by
 have hlen := hs.len
 have hpv := zP_vl hn ho
 have hx := expected107 hs true hpv
 rw [he] at hx
 have hvl : ∀ j, j < w → Vl w (L.getD j Ps.z0) := fun j hj => by
  rw [List.getD_eq_getElem?_getD, List.getElem?_eq_getElem (by rw [hlen]; exact hj), Option.getD_some]
  exact hs.vl _ (List.getElem_mem _)
 have hLm : L.map Ps.l = (List.range w).map fun j => Ps.l ((fun j => L.getD j Ps.z0) j) := by
  have := rowsL_get L hlen
  conv => lhs; rw [← this]
  unfold rowsL; rw [List.map_map]; rfl
 have hx2 : PC Pr GG 107 [.agg [iD w, .sl (L.map Ps.l) true], (zP w n o).d] (iD 0) := hx
 unfold mA
 rw [hLm] at hx2 ⊢
 exact measure136c ⟨hs.lo, hs.hi⟩ hn ho F hpv hvl hA hx2
structure WC (f : FuncId) (args : List AV) (w : Nat) (F : FuncId) (L : List Ps) (v : AV) (nm : Nat) (R : List Ps) : Prop where
 fn : IsFn Pr f
 call : ACall Pr GG f args (mA w F L) 12 (mK w F v nm R)
theorem work_call {f : FuncId} {args : List AV} {w nm nx : Nat} {F : FuncId} {L R : List Ps} {v : AV} {H : AHeap} {k : AV → AHeap → Nat → Prop} (h : WC f args w F L v nm R) (hn : nx ≤ 12)
  (h2 : H.get 2 = some (wkF w 3 F)) (h3 : H.get 3 = some (dblk 4 (L.map Ps.l))) (hk : k v ((2, some (wkF w nm F)) :: (nm, some (dblk 4 (R.map Ps.l))) :: AHeap.del H 3) 13) : CallVC Pr GG f args H nx k := by
 refine ⟨h.fn, acall_frame h.call hn (fun m b hg => ?_) ?_⟩
 ·rw [get_consI, get_consI] at hg
  by_cases e2 : m = 2
  ·rw [if_pos e2] at hg; rw [e2, h2, hg]
  ·rw [if_neg e2] at hg
   by_cases e3 : m = 3
   ·rw [if_pos e3] at hg; rw [e3, h3, hg]
   ·rw [if_neg e3] at hg; cases hg
 ·rintro v' H1 n' ⟨rfl, g2, g3, rfl⟩
  refine ⟨_, fun m b hg => ?_, hk⟩
  rw [get_consI, get_consI] at hg
  by_cases e2 : m = 2
  ·rw [if_pos e2] at hg; exact .inl (by rw [e2, g2, hg])
  ·rw [if_neg e2] at hg
   by_cases e3 : m = nm
   ·rw [if_pos e3] at hg; exact .inl (by rw [e3, g3, hg])
   ·rw [if_neg e3, get_del] at hg
    by_cases e4 : m = 3
    ·rw [if_pos e4] at hg; cases hg
    ·rw [if_neg e4] at hg
     refine .inr ⟨?_, hg⟩
     rw [get_consI, get_consI, if_neg e2, if_neg e4]; rfl
end Go.Tz
namespace Go.Tz
open Go Go.AL Go.Proofs Go.Ma
abbrev wA (n o : Nat) : List AV := [.ptr 2 3 0 0, .d (iD n), .d (iD o)]
theorem meas {w n o : Nat} {l r : List Ps} (h : SOk w l) (h' : SOk w r) (hg : SameG (r.map nf) (l.map nf)) (hn : n < w) (ho : o ≤ 1) (F : FuncId) :
  (expR w l (zP w n o) = 1 ∧ WC 136 (wA n o) w F r (rV 0 0) 3 r) ∨ (expR w l (zP w n o) = -1 ∧ WC 136 (wA n o) w F r (rV 0 6) 3 r) ∨
  (expR w l (zP w n o) = 0 ∧ SOk w (prjL (zP w n o) l) ∧ WC 136 (wA n o) w F r (rV 1 0) 12 (redRows (prjL (zP w n o) l) (2 * w))) := by
 have hpv := zP_vl hn ho
 have hok := zP_ok h.hi hn ho
 obtain ⟨e1, e2⟩ := mea_gen h h' hg hpv hok
 have hf := isFn_of Tryz.func136 chk136
 rcases expOk_cases (expR_ok h hpv hok) with ⟨a, _⟩ | ⟨a, _⟩ | ⟨a, _⟩
 ·exact .inl ⟨a, hf, measure136s h' hn ho F (e1.trans a) (.inl ⟨rfl, rfl⟩)⟩
 ·exact .inr (.inl ⟨a, hf, measure136s h' hn ho F (e1.trans a) (.inr ⟨rfl, rfl⟩)⟩)
 ·obtain ⟨b, a0, R, hA, _, hR⟩ := e2 a
  refine .inr (.inr ⟨a, b, hf, ?_⟩)
  rw [← hR]
  exact measure136f h' hn ho F (e1.trans a) hA
end Go.Tz
namespace Go.Tz
open Go Go.AL Go.Proofs Go.Ma
def xv (v : Nat) : Nat := v % 4096
def phE (e : E) (b : Nat) : Nat := (e.1 + 2 * (bt e.2 b).toNat) % 4
theorem parF_congr {u v : Nat} : ∀ k, (∀ i, i < k → u.testBit i = v.testBit i) → parF k u = parF k v
 | 0, _ => rfl
 | k + 1, h => by
  simp only [parF]
  rw [parF_congr k fun i hi => h i (by omega), h k (by omega)]
theorem bt_xv (a b : Nat) : bt a (xv b) = bt a b := by
 unfold bt
 refine parF_congr 12 fun i hi => ?_
 rw [Nat.testBit_and, Nat.testBit_and, xv, show 4096 = 2 ^ 12 from rfl, Nat.testBit_mod_two_pow]
 simp [hi]
theorem xv_xor (a b : Nat) : xv (a ^^^ b) = xv a ^^^ xv b := by
 unfold xv
 rw [show 4096 = 2 ^ 12 from rfl, Nat.xor_mod_two_pow]
theorem phE_lt (e : E) (b : Nat) : phE e b < 4 := Nat.mod_lt _ (by decide)
theorem phE_mul (e f : E) (b : Nat) : phE (emul e f) b = (phE f b + phE e (b ^^^ xv f.2)) % 4 := by
 unfold phE emul
 simp only [bt_xorl, bt_xorr, bt_xv]
 cases bt e.2 f.2 <;> cases bt e.2 b <;> cases bt f.2 b <;> simp <;> omega
theorem phE_one (b : Nat) : phE e1 b = 0 := by simp [phE, e1, bt_0l]
def Sup (L : List E) (k : Nat) : Prop := ∀ g, Gen L g → xv g.2 = 0 → phE g k = 0
theorem sup_uniq {L : List E} (hL : Good L) {k : Nat} (h : Sup L k) {f g : E} (hf : Gen L f) (hg : Gen L g) (e : xv f.2 = xv g.2) : phE f k = phE g k := by
 have hx : xv (emul f g).2 = 0 := by
  show xv (f.2 ^^^ g.2) = 0
  rw [xv_xor, e, Nat.xor_self]
 have h0 := h _ (gen_mul' hL hf hg) hx
 have e2 : emul g (emul f g) = f := by
  rw [emul_comm (gen_gcom hL hf hg), ← emul_assoc, emul_self (gen_ok hL hg), one_emul f (gen_ok hL hf).1]
 have := phE_mul g (emul f g) k
 rw [e2, h0, hx, Nat.xor_zero] at this
 have h4 := phE_lt g k
 rw [this]; omega
theorem sup_move {L : List E} (hL : Good L) {k : Nat} (h : Sup L k) {g : E} (hg : Gen L g) : Sup L (k ^^^ xv g.2) := by
 intro f hf hx
 have a1 := phE_mul f g k
 have a2 := phE_mul g f k
 rw [h f hf hx, hx, Nat.xor_zero] at a2
 rw [emul_comm (gen_gcom hL hf hg), a2] at a1
 have h4 := phE_lt g k
 have h5 := phE_lt f (k ^^^ xv g.2)
 omega
theorem gen_spx {L : List E} {g : E} (h : Gen L g) : spB (L.map fun a => xv a.2) (xv g.2) = true := by
 induction h with
 | one => exact sp_zero _
 | mul a f ha _ ih =>
  show spB _ (xv (a.2 ^^^ f.2)) = true
  rw [xv_xor]
  exact sp_xor _ _ _ (sp_mem _ _ (List.mem_map.2 ⟨a, ha, rfl⟩)) ih
theorem spx_gen {L : List E} {v : Nat} : ∀ (M : List E), (∀ a, a ∈ M → a ∈ L) → spB (M.map fun a => xv a.2) v = true → ∃ g, Gen L g ∧ xv g.2 = v
 | [], _, h => ⟨e1, .one, by simp only [List.map_nil, spB, beq_iff_eq] at h; rw [h]; rfl⟩
 | a :: M, hm, h => by
  simp only [List.map_cons, spB, Bool.or_eq_true] at h
  rcases h with h | h
  ·exact spx_gen M (fun b hb => hm b (List.mem_cons_of_mem _ hb)) h
  ·obtain ⟨g, h1, h2⟩ := spx_gen (v := v ^^^ xv a.2) M (fun b hb => hm b (List.mem_cons_of_mem _ hb)) h
   refine ⟨emul a g, .mul a g (hm a (by simp)) h1, ?_⟩
   show xv (a.2 ^^^ g.2) = v
   rw [xv_xor, h2, Nat.xor_comm v, ← Nat.xor_assoc, Nat.xor_self, Nat.zero_xor]
theorem gen_part : ∀ (A B : List E), Good (A ++ B) → (∀ b, b ∈ B → xv b.2 = 0) → Ind (A.map fun a => xv a.2) → ∀ g, Gen (A ++ B) g → xv g.2 = 0 → Gen B g
 | [], _, _, _, _, _, hg, _ => hg
 | a :: A, B, hG, hB, hi, g, hg, hx => by
  rw [List.map_cons, ind_cons] at hi
  rcases gen_cons hG hg with h | ⟨f, hf, rfl⟩
  ·exact gen_part A B (good_tl hG) hB hi.1 g h hx
  ·exfalso
   have h1 := gen_spx hf
   have h2 : xv f.2 = xv a.2 := by
    have h3 : xv (a.2 ^^^ f.2) = 0 := hx
    rw [xv_xor] at h3
    have h4 := congrArg (fun n => xv a.2 ^^^ n) h3
    simp only [← Nat.xor_assoc, Nat.xor_self, Nat.zero_xor, Nat.xor_zero] at h4
    exact h4
   rw [h2] at h1
   have h5 := sp_sub _ (A.map fun a => xv a.2) (fun v hv => by
    obtain ⟨b, hb, rfl⟩ := List.mem_map.1 hv
    rcases List.mem_append.1 hb with hb | hb
    ·exact sp_mem _ _ (List.mem_map.2 ⟨b, hb, rfl⟩)
    ·rw [hB b hb]; exact sp_zero _) _ h1
   rw [hi.2] at h5
   cases h5
theorem sup_rows {B : List E} {k : Nat} (h : ∀ b, b ∈ B → xv b.2 = 0 ∧ phE b k = 0) {g : E} (hg : Gen B g) : xv g.2 = 0 ∧ phE g k = 0 := by
 induction hg with
 | one => exact ⟨rfl, phE_one k⟩
 | mul a f ha _ ih =>
  refine ⟨?_, ?_⟩
  ·show xv (a.2 ^^^ f.2) = 0
   rw [xv_xor, (h a ha).1, ih.1]; rfl
  ·rw [phE_mul, ih.1, ih.2, Nat.xor_zero, (h a ha).2]
theorem sup_part {A B L : List E} (hG : Good (A ++ B)) (hs : ∀ g, Gen L g ↔ Gen (A ++ B) g) (hB : ∀ b, b ∈ B → xv b.2 = 0) (hi : Ind (A.map fun a => xv a.2)) (k : Nat) : Sup L k ↔ ∀ b, b ∈ B → phE b k = 0 := by
 constructor
 ·intro h b hb
  exact h b ((hs b).2 (gen_mem' hG (List.mem_append.2 (.inr hb)))) (hB b hb)
 ·intro h g hg hx
  exact (sup_rows (fun b hb => ⟨hB b hb, h b hb⟩) (gen_part A B hG hB hi g ((hs g).1 hg) hx)).2
structure Amp (L : List E) (w lst m : Nat) (val : Nat → Option Nat) : Prop where
 sup : Sup L lst
 lt : lst < 2 ^ w
 min : ∀ k, k < 2 ^ w → Sup L k → lst ≤ k
 has : ∀ b p, b < 2 ^ w → val b = some p → ∃ g, Gen L g ∧ lst ^^^ xv g.2 = b ∧ phE g lst = p
 no : ∀ b, b < 2 ^ w → val b = none → ∀ g, Gen L g → lst ^^^ xv g.2 ≠ b
 rank : ∃ A : List Nat, (∀ a, a ∈ A → a < 2 ^ 12) ∧ Ind A ∧ A.length = m ∧ ∀ v, spB A v = true ↔ ∃ g, Gen L g ∧ xv g.2 = v
theorem amp_uniq {L M : List E} {w a b m n : Nat} {u v : Nat → Option Nat} (hL : Good L) (h : SameG L M) (h1 : Amp L w a m u) (h2 : Amp M w b n v) : a = b ∧ m = n ∧ ∀ k, k < 2 ^ w → u k = v k := by
 have hs : ∀ k, Sup L k ↔ Sup M k := fun k => ⟨fun q g hg => q g ((h g).2 hg), fun q g hg => q g ((h g).1 hg)⟩
 have e : a = b := Nat.le_antisymm (h1.min b h2.lt ((hs b).2 h2.sup)) (h2.min a h1.lt ((hs a).1 h1.sup))
 subst e
 refine ⟨rfl, ?_, fun k hk => ?_⟩
 ·obtain ⟨A, a1, a2, a3, a4⟩ := h1.rank
  obtain ⟨B, b1, b2, b3, b4⟩ := h2.rank
  have := rk_eq a1 b1 fun v => by
   rw [Bool.eq_iff_iff, a4, b4]
   constructor
   ·rintro ⟨g, q1, q2⟩; exact ⟨g, (h g).1 q1, q2⟩
   ·rintro ⟨g, q1, q2⟩; exact ⟨g, (h g).2 q1, q2⟩
  have i1 : rk A = A.length := a2
  have i2 : rk B = B.length := b2
  omega
 ·cases e1 : u k with
  | none =>
   cases e2 : v k with
   | none => rfl
   | some q =>
    obtain ⟨g, q1, q2, _⟩ := h2.has k q hk e2
    exact absurd q2 (h1.no k hk e1 g ((h g).2 q1))
  | some p =>
   obtain ⟨f, p1, p2, p3⟩ := h1.has k p hk e1
   cases e2 : v k with
   | none => exact absurd p2 (h2.no k hk e2 f ((h f).1 p1))
   | some q =>
    obtain ⟨g, q1, q2, q3⟩ := h2.has k q hk e2
    have hx : xv f.2 = xv g.2 := by
     have := congrArg (fun n => a ^^^ n) (p2.trans q2.symm)
     simp only [← Nat.xor_assoc, Nat.xor_self, Nat.zero_xor] at this
     exact this
    rw [← p3, ← q3, sup_uniq hL h1.sup p1 ((h g).2 q1) hx]
end Go.Tz
namespace Go.Tz
open Go Go.AL Go.Proofs Go.Ma
abbrev xB (q : Ps) (n : Nat) : Bool := q.x.toNat.testBit n
theorem xv_nf {w : Nat} (hw : w ≤ 12) {q : Ps} (h : Vl w q) : xv (nf q).2 = q.x.toNat ∧ q.x.toNat < 2 ^ w ∧ q.x = (q.x.toNat : Int) := by
 obtain ⟨X, Z, P, rfl, h1, _, _⟩ := h
 have h2 : X < 4096 := Nat.lt_of_lt_of_le h1 (Nat.pow_le_pow_right (by decide) hw)
 rw [nf_mk]
 refine ⟨?_, ?_, ?_⟩
 ·show (X + 4096 * Z) % 4096 = (X : Int).toNat
  rw [Int.toNat_natCast]; omega
 ·show (X : Int).toNat < _
  rwa [Int.toNat_natCast]
 ·show (X : Int) = ((X : Int).toNat : Int)
  rw [Int.toNat_natCast]
theorem x_mul {w : Nat} (hw : w ≤ 12) {q r : Ps} (hq : Vl w q) (hr : Vl w r) : (mulS q r).x.toNat = q.x.toNat ^^^ r.x.toNat := by
 rw [← (xv_nf hw (mul_vl hw hq hr)).1, ← (xv_nf hw hq).1, ← (xv_nf hw hr).1, nf_mul hw hq hr, ← xv_xor]; rfl
def clrX (f : Ps) (n : Nat) (q : Ps) : Ps := if xB q n = true then mulS q f else q
theorem clrX_vl {w n : Nat} (hw : w ≤ 12) {f q : Ps} (hf : Vl w f) (hq : Vl w q) : Vl w (clrX f n q) := by
 unfold clrX
 split
 ·exact mul_vl hw hq hf
 ·exact hq
theorem clrX_bit {w n m : Nat} (hw : w ≤ 12) {f q : Ps} (hf : Vl w f) (hq : Vl w q) : xB (clrX f n q) m = (xB q m != (xB q n && xB f m)) := by
 unfold clrX
 split
 ·rename_i h
  unfold xB at h ⊢
  rw [x_mul hw hq hf, Nat.testBit_xor, h]; simp
 ·rename_i h
  have h : xB q n = false := by simpa using h
  rw [h]; simp
theorem clear_same {w : Nat} (hw : w ≤ 12) {M M' : List Ps} {f : Ps} (hv : ∀ q, q ∈ M → Vl w q) (hG : Good (M.map nf)) (hf : f ∈ M) (hf' : f ∈ M') (h1 : ∀ q, q ∈ M' → q ∈ M ∨ ∃ r, r ∈ M ∧ q = mulS r f) (h2 : ∀ q, q ∈ M → q ∈ M' ∨ mulS q f ∈ M') : SameG (M.map nf) (M'.map nf) ∧ Good (M'.map nf) := by
 have g : ∀ q, q ∈ M → Gen (M.map nf) (nf q) := fun q hq => gen_mem' hG (List.mem_map.2 ⟨q, hq, rfl⟩)
 have a1 : ∀ a, a ∈ M'.map nf → Gen (M.map nf) a := fun a ha => by
  obtain ⟨q, hq, rfl⟩ := List.mem_map.1 ha
  rcases h1 q hq with h | ⟨r, hr, rfl⟩
  ·exact g q h
  ·rw [nf_mul hw (hv r hr) (hv f hf)]; exact gen_mul' hG (g r hr) (g f hf)
 have hG' : Good (M'.map nf) := good_of hG a1
 have g' : ∀ q, q ∈ M' → Gen (M'.map nf) (nf q) := fun q hq => gen_mem' hG' (List.mem_map.2 ⟨q, hq, rfl⟩)
 refine ⟨sameG_of hG a1 fun a ha => ?_, hG'⟩
 obtain ⟨q, hq, rfl⟩ := List.mem_map.1 ha
 rcases h2 q hq with h | h
 ·exact g' q h
 ·have h3 := gen_mul' hG' (g' _ h) (g' f hf')
  rw [nf_mul hw (hv q hq) (hv f hf), emul_assoc, emul_self (gen_ok hG (g f hf)), emul_one _ (nf_lt _)] at h3
  exact h3
structure Pt (w n : Nat) (L : List E) (A : List (Nat × Ps)) (B : List Ps) : Prop where
 vl : ∀ q, q ∈ A.map (·.2) ++ B → Vl w q
 good : Good ((A.map (·.2) ++ B).map nf)
 same : SameG L ((A.map (·.2) ++ B).map nf)
 lt : ∀ a, a ∈ A → a.1 < n
 bit : ∀ a, a ∈ A → xB a.2 a.1 = true
 piv : A.Pairwise fun a b => xB b.2 a.1 = false ∧ xB a.2 b.1 = false
 rest : ∀ b, b ∈ B → ∀ m, m < n → xB b m = false
theorem ptq_skip {w n : Nat} {L : List E} {A : List (Nat × Ps)} {B : List Ps} (h : Pt w n L A B) (hz : ∀ b, b ∈ B → xB b n = false) : Pt w (n + 1) L A B :=
 ⟨h.vl, h.good, h.same, fun a ha => Nat.lt_succ_of_lt (h.lt a ha), h.bit, h.piv, fun b hb m hm => by
  rcases Nat.lt_succ_iff_lt_or_eq.1 hm with q | q
  ·exact h.rest b hb m q
  ·rw [q]; exact hz b hb⟩
theorem ptq_step {w n : Nat} (hw : w ≤ 12) {L : List E} {A : List (Nat × Ps)} {B B' : List Ps} {f : Ps} (h : Pt w n L A B) (hf : f ∈ B) (hb : xB f n = true) (h1 : ∀ q, q ∈ B' → ∃ r, r ∈ B ∧ q = clrX f n r) (h2 : ∀ r, r ∈ B → r = f ∨ clrX f n r ∈ B') (h3 : ∀ q, q ∈ B' → xB q n = false) :
  Pt w (n + 1) L (A.map (fun a => (a.1, clrX f n a.2)) ++ [(n, f)]) B' := by
 have hA : ∀ a, a ∈ A → Vl w a.2 := fun a ha => h.vl _ (List.mem_append.2 (.inl (List.mem_map.2 ⟨a, ha, rfl⟩)))
 have hB : ∀ b, b ∈ B → Vl w b := fun b hb => h.vl _ (List.mem_append.2 (.inr hb))
 have hfv := hB f hf
 have mA : ∀ a, a ∈ A → a.2 ∈ A.map (·.2) ++ B := fun a ha => List.mem_append.2 (.inl (List.mem_map.2 ⟨a, ha, rfl⟩))
 have hmem : ∀ q, q ∈ (A.map (fun a => (a.1, clrX f n a.2)) ++ [(n, f)]).map (·.2) ++ B' ↔ (∃ a, a ∈ A ∧ q = clrX f n a.2) ∨ q = f ∨ q ∈ B' := by
  intro q
  simp only [List.mem_append, List.mem_map, List.mem_singleton]
  constructor
  ·rintro (⟨p, (⟨a, ha, rfl⟩ | rfl), rfl⟩ | hq)
   ·exact .inl ⟨a, ha, rfl⟩
   ·exact .inr (.inl rfl)
   ·exact .inr (.inr hq)
  ·rintro (⟨a, ha, rfl⟩ | rfl | hq)
   ·exact .inl ⟨_, .inl ⟨a, ha, rfl⟩, rfl⟩
   ·exact .inl ⟨_, .inr rfl, rfl⟩
   ·exact .inr hq
 have hcl : ∀ r, r ∈ A.map (·.2) ++ B → clrX f n r ∈ A.map (·.2) ++ B ∨ ∃ q, q ∈ A.map (·.2) ++ B ∧ clrX f n r = mulS q f := fun r hr => by
  unfold clrX
  split
  ·exact .inr ⟨r, hr, rfl⟩
  ·exact .inl hr
 have hcs := clear_same (M' := (A.map (fun a => (a.1, clrX f n a.2)) ++ [(n, f)]).map (·.2) ++ B') (f := f) hw h.vl h.good (List.mem_append.2 (.inr hf)) ((hmem f).2 (.inr (.inl rfl)))
  (fun q hq => by
   rcases (hmem q).1 hq with ⟨a, ha, rfl⟩ | rfl | hq
   ·exact hcl _ (mA a ha)
   ·exact .inl (List.mem_append.2 (.inr hf))
   ·obtain ⟨r, hr, rfl⟩ := h1 q hq
    exact hcl r (List.mem_append.2 (.inr hr)))
  (fun q hq => by
   have hin : q = f ∨ clrX f n q ∈ (A.map (fun a => (a.1, clrX f n a.2)) ++ [(n, f)]).map (·.2) ++ B' := by
    rcases List.mem_append.1 hq with hq | hq
    ·obtain ⟨a, ha, rfl⟩ := List.mem_map.1 hq
     exact .inr ((hmem _).2 (.inl ⟨a, ha, rfl⟩))
    ·rcases h2 q hq with e | e
     ·exact .inl e
     ·exact .inr ((hmem _).2 (.inr (.inr e)))
   rcases hin with rfl | hin
   ·exact .inl ((hmem _).2 (.inr (.inl rfl)))
   ·unfold clrX at hin
    split at hin
    ·exact .inr hin
    ·exact .inl hin)
 refine ⟨fun q hq => ?_, hcs.2, fun g => (h.same g).trans (hcs.1 g), fun a ha => ?_, fun a ha => ?_, ?_, fun b hb m hm => ?_⟩
 ·rcases (hmem q).1 hq with ⟨a, ha, rfl⟩ | rfl | hq
  ·exact clrX_vl hw hfv (hA a ha)
  ·exact hfv
  ·obtain ⟨r, hr, rfl⟩ := h1 q hq
   exact clrX_vl hw hfv (hB r hr)
 ·rcases List.mem_append.1 ha with ha | ha
  ·obtain ⟨b, hb, rfl⟩ := List.mem_map.1 ha
   exact Nat.lt_succ_of_lt (h.lt b hb)
  ·rw [List.mem_singleton.1 ha]; exact Nat.lt_succ_self n
 ·rcases List.mem_append.1 ha with ha | ha
  ·obtain ⟨b, hb', rfl⟩ := List.mem_map.1 ha
   show xB (clrX f n b.2) b.1 = true
   rw [clrX_bit hw hfv (hA b hb'), h.bit b hb', h.rest f hf b.1 (h.lt b hb')]; simp
  ·rw [List.mem_singleton.1 ha]; exact hb
 ·refine List.pairwise_append.2 ⟨?_, List.pairwise_singleton _ _, fun a ha b hb' => ?_⟩
  ·refine List.pairwise_map.2 ?_
   refine (List.Pairwise.imp_of_mem (fun {a b} ha hb' hab => ?_) h.piv)
   refine ⟨?_, ?_⟩
   ·show xB (clrX f n b.2) a.1 = false
    rw [clrX_bit hw hfv (hA b hb'), hab.1, h.rest f hf a.1 (h.lt a ha)]; simp
   ·show xB (clrX f n a.2) b.1 = false
    rw [clrX_bit hw hfv (hA a ha), hab.2, h.rest f hf b.1 (h.lt b hb')]; simp
  ·obtain ⟨c, hc, rfl⟩ := List.mem_map.1 ha
   rw [List.mem_singleton.1 hb']
   refine ⟨h.rest f hf c.1 (h.lt c hc), ?_⟩
   show xB (clrX f n c.2) n = false
   rw [clrX_bit hw hfv (hA c hc), hb]
   cases xB c.2 n <;> rfl
 ·rcases Nat.lt_succ_iff_lt_or_eq.1 hm with q | q
  ·obtain ⟨r, hr, rfl⟩ := h1 b hb
   rw [clrX_bit hw hfv (hB r hr), h.rest r hr m q, h.rest f hf m q]; simp
  ·rw [q]; exact h3 b hb
theorem ptq_ind : ∀ {A : List (Nat × Ps)}, (∀ a, a ∈ A → xB a.2 a.1 = true) → A.Pairwise (fun a b => xB b.2 a.1 = false ∧ xB a.2 b.1 = false) → Ind (A.map fun a => a.2.x.toNat)
 | [], _, _ => rfl
 | a :: A, hb, hp => by
  obtain ⟨h1, h2⟩ := List.pairwise_cons.1 hp
  rw [List.map_cons, ind_cons]
  refine ⟨ptq_ind (fun b hb' => hb b (List.mem_cons_of_mem _ hb')) h2, ?_⟩
  cases e : spB (A.map fun a => a.2.x.toNat) a.2.x.toNat with
  | false => rfl
  | true =>
   have h4 := sp_bit (j := a.1) (A.map fun a => a.2.x.toNat) (fun v hv => by
    obtain ⟨b, hb', rfl⟩ := List.mem_map.1 hv
    exact (h1 b hb').1) _ e
   have h5 : a.2.x.toNat.testBit a.1 = true := hb a (by simp)
   rw [h5] at h4; cases h4
structure PtE (w : Nat) (L : List E) (A : List (Nat × Ps)) (B : List Ps) : Prop where
 pt : Pt w w L A B
 zero : ∀ b, b ∈ B → b.x.toNat = 0
 xs : ((A.map (·.2)).map nf).map (fun a => xv a.2) = A.map fun a => a.2.x.toNat
 ind : Ind (A.map fun a => a.2.x.toNat)
theorem ptq_end {w : Nat} (hw : w ≤ 12) {L : List E} {A : List (Nat × Ps)} {B : List Ps} (h : Pt w w L A B) : PtE w L A B := by
 refine ⟨h, fun b hb => ?_, ?_, ptq_ind h.bit h.piv⟩
 ·obtain ⟨_, h2, _⟩ := xv_nf hw (h.vl b (List.mem_append.2 (.inr hb)))
  refine Nat.eq_of_testBit_eq fun m => ?_
  rw [Nat.zero_testBit]
  rcases Nat.lt_or_ge m w with q | q
  ·exact h.rest b hb m q
  ·exact Nat.testBit_lt_two_pow (Nat.lt_of_lt_of_le h2 (Nat.pow_le_pow_right (by decide) q))
 ·rw [List.map_map, List.map_map]
  refine List.map_congr_left fun a ha => ?_
  exact (xv_nf hw (h.vl a.2 (List.mem_append.2 (.inl (List.mem_map.2 ⟨a, ha, rfl⟩))))).1
theorem pte_sup {w : Nat} (hw : w ≤ 12) {L : List E} {A : List (Nat × Ps)} {B : List Ps} (h : PtE w L A B) (k : Nat) : Sup L k ↔ ∀ b, b ∈ B → phE (nf b) k = 0 := by
 have e : (A.map (·.2) ++ B).map nf = (A.map (·.2)).map nf ++ B.map nf := List.map_append
 have hx : ∀ b, b ∈ B.map nf → xv b.2 = 0 := fun b hb => by
  obtain ⟨q, hq, rfl⟩ := List.mem_map.1 hb
  rw [(xv_nf hw (h.pt.vl q (List.mem_append.2 (.inr hq)))).1]; exact h.zero q hq
 have hg := h.pt.good
 have hs := h.pt.same
 rw [e] at hg hs
 rw [sup_part hg hs hx (by rw [h.xs]; exact h.ind)]
 constructor
 ·intro q b hb; exact q _ (List.mem_map.2 ⟨b, hb, rfl⟩)
 ·intro q b hb
  obtain ⟨r, hr, rfl⟩ := List.mem_map.1 hb
  exact q r hr
theorem pte_span {w : Nat} (hw : w ≤ 12) {L : List E} {A : List (Nat × Ps)} {B : List Ps} (h : PtE w L A B) (v : Nat) : spB (A.map fun a => a.2.x.toNat) v = true ↔ ∃ g, Gen L g ∧ xv g.2 = v := by
 rw [← h.xs]
 constructor
 ·intro hv
  obtain ⟨g, g1, g2⟩ := spx_gen (L := (A.map (·.2) ++ B).map nf) ((A.map (·.2)).map nf) (fun a ha => by rw [List.map_append]; exact List.mem_append.2 (.inl ha)) hv
  exact ⟨g, (h.pt.same g).2 g1, g2⟩
 ·rintro ⟨g, g1, rfl⟩
  have h1 := gen_spx ((h.pt.same g).1 g1)
  refine sp_sub _ _ (fun v hv => ?_) _ h1
  obtain ⟨a, ha, rfl⟩ := List.mem_map.1 hv
  rw [List.map_append] at ha
  rcases List.mem_append.1 ha with ha | ha
  ·exact sp_mem _ _ (List.mem_map.2 ⟨a, ha, rfl⟩)
  ·obtain ⟨q, hq, rfl⟩ := List.mem_map.1 ha
   rw [(xv_nf hw (h.pt.vl q (List.mem_append.2 (.inr hq)))).1, h.zero q hq]; exact sp_zero _
end Go.Tz
namespace Go.Tz
open Go Go.AL Go.Proofs Go.Ma
theorem xor_xor (a b : Nat) : a ^^^ (a ^^^ b) = b := by rw [← Nat.xor_assoc, Nat.xor_self, Nat.zero_xor]
def wyS (s : Ps × Nat) (a : Nat × Ps) : Ps × Nat := if s.2.testBit a.1 = true then (mulS s.1 a.2, s.2 ^^^ a.2.x.toNat) else s
def wyF (w : Nat) (A : List (Nat × Ps)) (u : Nat) : Ps × Nat := A.foldl wyS (⟨w, 0, 0, 0⟩, u)
structure Wy (w : Nat) (L : List E) (u : Nat) (A1 : List (Nat × Ps)) (s : Ps × Nat) : Prop where
 vl : Vl w s.1
 gen : Gen L (nf s.1)
 x : s.2 = u ^^^ s.1.x.toNat
 z : ∀ a, a ∈ A1 → s.2.testBit a.1 = false
theorem wy_run {w : Nat} (hw : w ≤ 12) {L : List E} (hL : Good L) {u : Nat} : ∀ (A2 A1 : List (Nat × Ps)) (s : Ps × Nat), (∀ a, a ∈ A2 → Vl w a.2 ∧ Gen L (nf a.2) ∧ xB a.2 a.1 = true) → (A1 ++ A2).Pairwise (fun a b => xB b.2 a.1 = false ∧ xB a.2 b.1 = false) → Wy w L u A1 s → Wy w L u (A1 ++ A2) (A2.foldl wyS s)
 | [], A1, s, _, _, h => by rw [List.append_nil]; exact h
 | a :: A2, A1, s, hA, hp, h => by
  obtain ⟨a1, a2, a3⟩ := hA a (by simp)
  have e : A1 ++ a :: A2 = (A1 ++ [a]) ++ A2 := by simp
  rw [e] at hp ⊢
  rw [List.foldl_cons]
  refine wy_run hw hL A2 (A1 ++ [a]) _ (fun b hb => hA b (List.mem_cons_of_mem _ hb)) hp ?_
  have hp1 := (List.pairwise_append.1 (List.pairwise_append.1 hp).1).2.2
  unfold wyS
  split
  ·rename_i hb
   refine ⟨mul_vl hw h.vl a1, ?_, ?_, fun b hb' => ?_⟩
   ·show Gen L (nf (mulS s.1 a.2))
    rw [nf_mul hw h.vl a1]; exact gen_mul' hL h.gen a2
   ·show s.2 ^^^ a.2.x.toNat = u ^^^ (mulS s.1 a.2).x.toNat
    rw [x_mul hw h.vl a1, h.x, Nat.xor_assoc]
   ·show (s.2 ^^^ a.2.x.toNat).testBit b.1 = false
    rw [Nat.testBit_xor]
    rcases List.mem_append.1 hb' with q | q
    ·have h1 : a.2.x.toNat.testBit b.1 = false := (hp1 b q a (by simp)).1
     rw [h.z b q, h1]; rfl
    ·rw [List.mem_singleton.1 q, hb]
     have h1 : a.2.x.toNat.testBit a.1 = true := a3
     rw [h1]; rfl
  ·rename_i hb
   refine ⟨h.vl, h.gen, h.x, fun b hb' => ?_⟩
   rcases List.mem_append.1 hb' with q | q
   ·exact h.z b q
   ·rw [List.mem_singleton.1 q]; simpa using hb
theorem span_piv : ∀ {A : List (Nat × Ps)} {v : Nat}, (∀ a, a ∈ A → xB a.2 a.1 = true) → A.Pairwise (fun a b => xB b.2 a.1 = false ∧ xB a.2 b.1 = false) → spB (A.map fun a => a.2.x.toNat) v = true → (∀ a, a ∈ A → v.testBit a.1 = false) → v = 0
 | [], v, _, _, h, _ => by simpa only [List.map_nil, spB, beq_iff_eq] using h
 | a :: A, v, hb, hp, h, hz => by
  obtain ⟨h1, h2⟩ := List.pairwise_cons.1 hp
  simp only [List.map_cons, spB, Bool.or_eq_true] at h
  rcases h with h | h
  ·exact span_piv (fun b hb' => hb b (List.mem_cons_of_mem _ hb')) h2 h fun b hb' => hz b (List.mem_cons_of_mem _ hb')
  ·exfalso
   have h4 := sp_bit (j := a.1) (A.map fun a => a.2.x.toNat) (fun v hv => by
    obtain ⟨b, hb', rfl⟩ := List.mem_map.1 hv
    exact (h1 b hb').1) _ h
   have h5 : a.2.x.toNat.testBit a.1 = true := hb a (by simp)
   rw [Nat.testBit_xor, hz a (by simp), h5] at h4
   cases h4
def valW (w : Nat) (A : List (Nat × Ps)) (lst b : Nat) : Option Nat := if (wyF w A (lst ^^^ b)).2 = 0 then some (phE (nf (wyF w A (lst ^^^ b)).1) lst) else none
theorem way_ok {w : Nat} (hw : w ≤ 12) {L : List E} (hL : Good L) {A : List (Nat × Ps)} {B : List Ps} (h : PtE w L A B) (u : Nat) : Wy w L u A (wyF w A u) := by
 have mA : ∀ a, a ∈ A → a.2 ∈ A.map (·.2) ++ B := fun a ha => List.mem_append.2 (.inl (List.mem_map.2 ⟨a, ha, rfl⟩))
 have := wy_run (u := u) hw hL A [] (⟨w, 0, 0, 0⟩, u) (fun a ha => ⟨h.pt.vl _ (mA a ha), (h.pt.same _).2 (gen_mem' h.pt.good (List.mem_map.2 ⟨_, mA a ha, rfl⟩)), h.pt.bit a ha⟩) (by rw [List.nil_append]; exact h.pt.piv)
  ⟨vl_one w, by rw [nf_one]; exact .one, by show u = u ^^^ (0 : Int).toNat; simp, fun a ha => by cases ha⟩
 rw [List.nil_append] at this
 exact this
theorem amp_way {w : Nat} (hw : w ≤ 12) {L : List E} (hL : Good L) {A : List (Nat × Ps)} {B : List Ps} (h : PtE w L A B) {lst : Nat} (h1 : Sup L lst) (h2 : lst < 2 ^ w) (h3 : ∀ k, k < 2 ^ w → Sup L k → lst ≤ k) : Amp L w lst A.length (valW w A lst) := by
 refine ⟨h1, h2, h3, fun b p hb e => ?_, fun b hb e g hg hx => ?_, ⟨A.map fun a => a.2.x.toNat, fun v hv => ?_, h.ind, by rw [List.length_map], pte_span hw h⟩⟩
 ·have hy := way_ok hw hL h (lst ^^^ b)
  unfold valW at e
  split at e
  ·rename_i h0
   refine ⟨nf (wyF w A (lst ^^^ b)).1, hy.gen, ?_, Option.some.inj e⟩
   rw [(xv_nf hw hy.vl).1]
   have h4 := hy.x
   rw [h0] at h4
   have h5 := congrArg (fun n => lst ^^^ b ^^^ n) h4
   simp only [xor_xor, Nat.xor_zero] at h5
   rw [← h5, xor_xor]
  ·cases e
 ·have hy := way_ok hw hL h (lst ^^^ b)
  unfold valW at e
  split at e
  ·cases e
  ·rename_i h0
   apply h0
   refine span_piv h.pt.bit h.pt.piv ?_ hy.z
   rw [hy.x, pte_span hw h]
   refine ⟨emul g (nf (wyF w A (lst ^^^ b)).1), gen_mul' hL hg hy.gen, ?_⟩
   show xv (g.2 ^^^ _) = _
   rw [xv_xor, (xv_nf hw hy.vl).1, ← hx, xor_xor]
 ·obtain ⟨a, ha, rfl⟩ := List.mem_map.1 hv
  exact Nat.lt_of_lt_of_le (xv_nf hw (h.pt.vl a.2 (List.mem_append.2 (.inl (List.mem_map.2 ⟨a, ha, rfl⟩))))).2.1 (Nat.pow_le_pow_right (by decide) hw)
def flpS (q : Ps) (s : (Nat → Int) × List Nat) (c : Nat) : (Nat → Int) × List Nat := (fun k => if k = c ^^^ q.x.toNat then (s.1 c + phE (nf q) c) % 4 else s.1 k, s.2 ++ [c ^^^ q.x.toNat])
def dblS (s : (Nat → Int) × List Nat) (q : Ps) : (Nat → Int) × List Nat := s.2.reverse.foldl (flpS q) s
def ampS (lst : Nat) (R : List Ps) : (Nat → Int) × List Nat := R.foldl dblS (fun k => if k = lst then 0 else -1, [lst])
structure Dbl (L : List E) (w lst : Nat) (s : (Nat → Int) × List Nat) : Prop where
 mem : ∀ c, c ∈ s.2 → ∃ g, Gen L g ∧ lst ^^^ xv g.2 = c ∧ s.1 c = (phE g lst : Nat)
 out : ∀ c, c ∉ s.2 → s.1 c = -1
 lt : ∀ c, c ∈ s.2 → c < 2 ^ w
theorem flp_ok {w : Nat} (hw : w ≤ 12) {L : List E} (hL : Good L) {lst : Nat} {q : Ps} (hq : Vl w q) (hg : Gen L (nf q)) {s : (Nat → Int) × List Nat} (h : Dbl L w lst s) {c : Nat} (hc : c ∈ s.2) (hsup : Sup L lst) : Dbl L w lst (flpS q s c) := by
 obtain ⟨g, g1, g2, g3⟩ := h.mem c hc
 obtain ⟨x1, x2, _⟩ := xv_nf hw hq
 have hm : Gen L (emul (nf q) g) := gen_mul' hL hg g1
 have hx : lst ^^^ xv (emul (nf q) g).2 = c ^^^ q.x.toNat := by
  show lst ^^^ xv ((nf q).2 ^^^ g.2) = _
  rw [xv_xor, x1, Nat.xor_comm q.x.toNat, ← Nat.xor_assoc, g2]
 have hp : (s.1 c + phE (nf q) c) % 4 = ((phE (emul (nf q) g) lst : Nat) : Int) := by
  rw [phE_mul, g2, g3]; omega
 refine ⟨fun k hk => ?_, fun k hk => ?_, fun k hk => ?_⟩
 ·by_cases e : k = c ^^^ q.x.toNat
  ·refine ⟨_, hm, hx.trans e.symm, ?_⟩
   show (if k = _ then _ else _) = _
   rw [if_pos e, hp]
  ·have hk' : k ∈ s.2 := by
    rcases List.mem_append.1 hk with h | h
    ·exact h
    ·exact absurd (List.mem_singleton.1 h) e
   obtain ⟨f, f1, f2, f3⟩ := h.mem k hk'
   refine ⟨f, f1, f2, ?_⟩
   show (if k = _ then _ else _) = _
   rw [if_neg e, f3]
 ·have e : ¬ k = c ^^^ q.x.toNat := fun e => hk (List.mem_append.2 (.inr (List.mem_singleton.2 e)))
  show (if k = _ then _ else _) = _
  rw [if_neg e]
  exact h.out k fun q => hk (List.mem_append.2 (.inl q))
 ·rcases List.mem_append.1 hk with q | q
  ·exact h.lt k q
  ·rw [List.mem_singleton.1 q]; exact Nat.xor_lt_two_pow (h.lt c hc) x2
theorem flp_run {w : Nat} (hw : w ≤ 12) {L : List E} (hL : Good L) {lst : Nat} {q : Ps} (hq : Vl w q) (hg : Gen L (nf q)) (hsup : Sup L lst) : ∀ (l : List Nat) (s : (Nat → Int) × List Nat), Dbl L w lst s → (∀ c, c ∈ l → c ∈ s.2) → Dbl L w lst (l.foldl (flpS q) s) ∧ (l.foldl (flpS q) s).2 = s.2 ++ l.map (· ^^^ q.x.toNat)
 | [], s, h, _ => ⟨h, by simp⟩
 | c :: l, s, h, hl => by
  rw [List.foldl_cons]
  obtain ⟨h1, h2⟩ := flp_run hw hL hq hg hsup l (flpS q s c) (flp_ok hw hL hq hg h (hl c (by simp)) hsup) fun d hd => List.mem_append.2 (.inl (hl d (List.mem_cons_of_mem _ hd)))
  refine ⟨h1, ?_⟩
  rw [h2]
  show (s.2 ++ [c ^^^ q.x.toNat]) ++ _ = _
  simp
theorem sp_snoc {l : List Nat} {a v : Nat} (h : spB (l ++ [a]) v = true) : spB l v = true ∨ spB l (v ^^^ a) = true := by
 have h1 := sp_sub _ (a :: l) (fun b hb => sp_mem _ _ (by simp at hb ⊢; exact hb.symm)) v h
 simpa only [spB, Bool.or_eq_true] using h1
theorem dbl_run {w : Nat} (hw : w ≤ 12) {L : List E} (hL : Good L) {lst : Nat} (hsup : Sup L lst) (hlt : lst < 2 ^ w) : ∀ (A : List (Nat × Ps)) (n : Nat), (∀ a, a ∈ A → Vl w a.2 ∧ Gen L (nf a.2)) → n ≤ A.length →
  Dbl L w lst (ampS lst ((A.take n).map (·.2))) ∧ (ampS lst ((A.take n).map (·.2))).2.length = 2 ^ n ∧ ∀ v, spB ((A.take n).map fun a => a.2.x.toNat) v = true → lst ^^^ v ∈ (ampS lst ((A.take n).map (·.2))).2
 | A, 0, _, _ => by
  rw [List.take_zero]
  refine ⟨⟨fun c hc => ?_, fun c hc => ?_, fun c hc => ?_⟩, rfl, fun v hv => ?_⟩
  ·rw [List.mem_singleton.1 hc]
   exact ⟨e1, .one, by show lst ^^^ 0 = lst; simp, by rw [phE_one]; show (if lst = lst then (0 : Int) else -1) = _; rw [if_pos rfl]; rfl⟩
  ·show (if c = lst then (0 : Int) else -1) = -1
   rw [if_neg fun e => hc (List.mem_singleton.2 e)]
  ·rw [List.mem_singleton.1 hc]; exact hlt
  ·have : v = 0 := by simpa only [List.map_nil, spB, beq_iff_eq] using hv
   rw [this, Nat.xor_zero]
   exact List.mem_singleton.2 rfl
 | A, n + 1, hA, hn => by
  obtain ⟨h1, h2, h3⟩ := dbl_run hw hL hsup hlt A n hA (by omega)
  have hn' : n < A.length := by omega
  have et : A.take (n + 1) = A.take n ++ [A[n]] := by rw [List.take_add_one, List.getElem?_eq_getElem hn']; rfl
  obtain ⟨a1, a2⟩ := hA A[n] (List.getElem_mem hn')
  have ea : ampS lst ((A.take (n + 1)).map (·.2)) = dblS (ampS lst ((A.take n).map (·.2))) A[n].2 := by
   unfold ampS
   rw [et, List.map_append, List.foldl_append]; rfl
  rw [ea]
  generalize ampS lst ((A.take n).map (·.2)) = s at h1 h2 h3
  obtain ⟨r1, r2⟩ := flp_run hw hL a1 a2 hsup s.2.reverse s h1 fun c hc => List.mem_reverse.1 hc
  refine ⟨r1, ?_, fun v hv => ?_⟩
  ·unfold dblS
   rw [r2, List.length_append, List.length_map, List.length_reverse, h2]; omega
  ·unfold dblS
   rw [r2, List.mem_append]
   rw [et, List.map_append] at hv
   rcases sp_snoc hv with q | q
   ·exact .inl (h3 v q)
   ·right
    refine List.mem_map.2 ⟨_, List.mem_reverse.2 (h3 _ q), ?_⟩
    rw [Nat.xor_assoc, Nat.xor_assoc, Nat.xor_self, Nat.xor_zero]
def valS (f : Nat → Int) (b : Nat) : Option Nat := if f b < 0 then none else some (f b).toNat
theorem amp_dbl {w : Nat} (hw : w ≤ 12) {L : List E} (hL : Good L) {A : List (Nat × Ps)} {B : List Ps} (h : PtE w L A B) {lst : Nat} (h1 : Sup L lst) (h2 : lst < 2 ^ w) (h3 : ∀ k, k < 2 ^ w → Sup L k → lst ≤ k) : Amp L w lst A.length (valS (ampS lst (A.map (·.2))).1) ∧ Dbl L w lst (ampS lst (A.map (·.2))) := by
 have mA : ∀ a, a ∈ A → a.2 ∈ A.map (·.2) ++ B := fun a ha => List.mem_append.2 (.inl (List.mem_map.2 ⟨a, ha, rfl⟩))
 obtain ⟨d1, d2, d3⟩ := dbl_run hw hL h1 h2 A A.length (fun a ha => ⟨h.pt.vl _ (mA a ha), (h.pt.same _).2 (gen_mem' h.pt.good (List.mem_map.2 ⟨_, mA a ha, rfl⟩))⟩) (Nat.le_refl _)
 rw [List.take_length] at d1 d2 d3
 refine ⟨⟨h1, h2, h3, fun b p hb e => ?_, fun b hb e g hg hx => ?_, ⟨A.map fun a => a.2.x.toNat, fun v hv => ?_, h.ind, by rw [List.length_map], pte_span hw h⟩⟩, d1⟩
 ·unfold valS at e
  split at e
  ·cases e
  ·rename_i h0
   have hm : b ∈ (ampS lst (A.map (·.2))).2 := Classical.byContradiction fun q => by
    have := d1.out b q
    omega
   obtain ⟨g, g1, g2, g3⟩ := d1.mem b hm
   refine ⟨g, g1, g2, ?_⟩
   have := Option.some.inj e
   omega
 ·unfold valS at e
  split at e
  ·rename_i h0
   have hm := d3 (xv g.2) ((pte_span hw h _).2 ⟨g, hg, rfl⟩)
   rw [hx] at hm
   obtain ⟨f, _, _, g3⟩ := d1.mem b hm
   omega
  ·cases e
 ·obtain ⟨a, ha, rfl⟩ := List.mem_map.1 hv
  exact Nat.lt_of_lt_of_le (xv_nf hw (h.pt.vl a.2 (List.mem_append.2 (.inl (List.mem_map.2 ⟨a, ha, rfl⟩))))).2.1 (Nat.pow_le_pow_right (by decide) hw)
theorem amp_first {L : List E} (hL : Good L) {w lst m : Nat} {val : Nat → Option Nat} (h : Amp L w lst m val) : val lst = some 0 ∧ ∀ k, k < lst → val k = none := by
 refine ⟨?_, fun k hk => ?_⟩
 ·cases e : val lst with
  | none => exact absurd (by show lst ^^^ 0 = lst; simp) (h.no lst h.lt e e1 .one)
  | some p =>
   obtain ⟨g, g1, g2, g3⟩ := h.has lst p h.lt e
   have hx : xv g.2 = 0 := by
    have h5 := congrArg (fun n => lst ^^^ n) g2
    simpa only [xor_xor, Nat.xor_self] using h5
   rw [← g3, h.sup g g1 hx]
 ·cases e : val k with
  | none => rfl
  | some p =>
   have hl := h.lt
   obtain ⟨g, g1, g2, g3⟩ := h.has k p (by omega) e
   have hs := sup_move hL h.sup g1
   rw [g2] at hs
   have := h.min k (by omega) hs
   omega
end Go.Tz
namespace Go.Tz
open Go Go.AL Go.Proofs Go.Ma
theorem sup_same {L M : List E} (h : SameG L M) (k : Nat) : Sup L k ↔ Sup M k := ⟨fun q g hg => q g ((h g).2 hg), fun q g hg => q g ((h g).1 hg)⟩
theorem nf_zP (w n o : Nat) (ho : o ≤ 1) : nf (zP w n o) = (2 * o, 2 ^ (12 + n)) := by
 unfold zP
 rw [nf_mk, Nat.zero_and, pop_zero, Nat.zero_add, Nat.pow_add]
 refine Prod.ext ?_ rfl
 show (2 * o + 0) % 4 = 2 * o
 omega
theorem zP_xv (w n o : Nat) (ho : o ≤ 1) : xv (nf (zP w n o)).2 = 0 := by
 rw [nf_zP w n o ho]
 show 2 ^ (12 + n) % 4096 = 0
 rw [Nat.pow_add]
 exact Nat.mul_mod_right _ _
theorem zP_ph {w n o : Nat} (hn : n < 12) (ho : o ≤ 1) (k : Nat) : phE (nf (zP w n o)) k = 0 ↔ (k.testBit n).toNat = o := by
 rw [nf_zP w n o ho]
 unfold phE
 dsimp only
 rw [bt_hi hn]
 cases k.testBit n <;> simp <;> omega
theorem zP_neg (w n : Nat) : eneg (nf (zP w n 0)) = nf (zP w n 1) := by
 rw [nf_zP w n 0 (by decide), nf_zP w n 1 (by decide)]; rfl
theorem com_z {p g : E} (h1 : xv p.2 = 0) (h2 : xv g.2 = 0) : ecom p g := by
 unfold ecom
 rw [← bt_xv, h2, bt_0r, ← bt_xv, h1, bt_0r]
theorem sup_meas {L : List E} (hL : Good L) {p : E} (hp : xv p.2 = 0) (hok : eok p) (hx : ∃ q, q ∈ L ∧ ¬ ecom q p) (k : Nat) : Sup (proj p L) k ↔ Sup L k ∧ phE p k = 0 := by
 obtain ⟨_, _, _, hk⟩ := proj_keep hL hok hx
 have hG := proj_good hL hok hx
 constructor
 ·intro h
  exact ⟨fun g hg hz => h g ((hk g hg).1 (com_z hp hz)) hz, h p (gen_mem' hG (proj_has hx)) hp⟩
 ·rintro ⟨h1, h2⟩ g hg hz
  obtain ⟨f, f1, _, rfl | rfl⟩ := proj_back hL hok hx hg
  ·exact h1 _ f1 hz
  ·have hf : xv f.2 = 0 := by
    have h3 : xv (p.2 ^^^ f.2) = 0 := hz
    rw [xv_xor, hp, Nat.zero_xor] at h3; exact h3
   rw [phE_mul, h1 f f1 hf, hf, Nat.xor_zero, h2]
def lsS (w : Nat) (l : List Ps) : Nat → List Ps × Nat
 | 0 => (redRows l (2 * w), 0)
 | i + 1 => if expR w (lsS w l i).1 (zP w (w - 1 - i) 0) = 1 then lsS w l i else if expR w (lsS w l i).1 (zP w (w - 1 - i) 0) = -1 then ((lsS w l i).1, (lsS w l i).2 ||| 2 ^ (w - 1 - i)) else (redRows (prjL (zP w (w - 1 - i) 0) (lsS w l i).1) (2 * w), (lsS w l i).2)
structure Ls (w n : Nat) (L : List E) (s : List Ps × Nat) : Prop where
 sok : SOk w s.1
 sup : ∀ k, Sup (s.1.map nf) k ↔ Sup L k ∧ ∀ j, n ≤ j → j < w → k.testBit j = s.2.testBit j
 lo : ∀ j, j < n ∨ w ≤ j → s.2.testBit j = false
 gen : ∀ j, n ≤ j → j < w → Gen (s.1.map nf) (nf (zP w j (s.2.testBit j).toNat))
 min : ∀ k, Sup L k → s.2 / 2 ^ n ≤ k / 2 ^ n
theorem div2 (x n : Nat) : x / 2 ^ n = 2 * (x / 2 ^ (n + 1)) + (x.testBit n).toNat := by
 rw [Nat.pow_succ, ← Nat.div_div_eq_div_mul]
 have h : x.testBit n = decide (x / 2 ^ n % 2 = 1) := Nat.testBit_eq_decide_div_mod_eq
 rw [h]
 generalize x / 2 ^ n = q
 have := Nat.mod_two_eq_zero_or_one q
 rcases this with h | h <;> rw [h] <;> simp <;> omega
theorem div_bits {x y n : Nat} (h : x / 2 ^ n = y / 2 ^ n) {j : Nat} (hj : n ≤ j) : x.testBit j = y.testBit j := by
 obtain ⟨m, rfl⟩ : ∃ m, j = n + m := ⟨j - n, by omega⟩
 rw [Nat.add_comm, ← Nat.testBit_div_two_pow, ← Nat.testBit_div_two_pow, h]
theorem tn1 (b : Bool) : b.toNat ≤ 1 := by cases b <;> decide
theorem ls_step {w n i : Nat} {l : List Ps} (hi : i < w) (hn : n = w - 1 - i) {L : List E} (h : Ls w (n + 1) L (lsS w l i)) : Ls w n L (lsS w l (i + 1)) := by
 have hnw : n < w := by omega
 have hs : lsS w l (i + 1) = if expR w (lsS w l i).1 (zP w n 0) = 1 then lsS w l i else if expR w (lsS w l i).1 (zP w n 0) = -1 then ((lsS w l i).1, (lsS w l i).2 ||| 2 ^ n) else (redRows (prjL (zP w n 0) (lsS w l i).1) (2 * w), (lsS w l i).2) := by rw [hn]; rfl
 rw [hs]
 clear hs hn
 generalize lsS w l i = s at h ⊢
 obtain ⟨R, o⟩ := s
 have hk := h.sok
 have hw : w ≤ 12 := hk.hi
 have hst := sok_sta hk
 have hpv := zP_vl (w := w) (o := 0) hnw (by decide)
 have hok := zP_ok hw hnw (o := 0) (by decide)
 have hz0 : o.testBit n = false := h.lo n (.inl (Nat.lt_succ_self n))
 dsimp only at hk hst ⊢
 rcases expOk_cases (expR_ok hk hpv hok) with ⟨e, hg⟩ | ⟨e, hg⟩ | ⟨e, n1, n2⟩
 ·rw [if_pos e]
  have hbit : ∀ k, Sup (R.map nf) k → k.testBit n = false := fun k hs => by
   have := (zP_ph (w := w) (by omega) (by decide) k).1 (hs _ hg (zP_xv w n 0 (by decide)))
   cases e : k.testBit n with
   | false => rfl
   | true => rw [e] at this; cases this
  refine ⟨hk, fun k => ⟨fun hs => ⟨((h.sup k).1 hs).1, fun j h1 h2 => ?_⟩, fun hs => (h.sup k).2 ⟨hs.1, fun j h1 h2 => hs.2 j (by omega) h2⟩⟩, fun j hj => h.lo j (by omega), fun j h1 h2 => ?_, fun k hs => ?_⟩
  ·by_cases q : j = n
   ·subst q; rw [hbit k hs]; exact hz0.symm
   ·exact ((h.sup k).1 hs).2 j (by omega) h2
  ·by_cases q : j = n
   ·subst q
    show Gen _ (nf (zP w j (o.testBit j).toNat))
    rw [hz0]; exact hg
   ·exact h.gen j (by omega) h2
  ·have := h.min k hs
   show o / 2 ^ n ≤ k / 2 ^ n
   rw [div2 o, div2 k, hz0]
   have h3 : o / 2 ^ (n + 1) ≤ k / 2 ^ (n + 1) := this
   have : false.toNat = 0 := rfl
   omega
 ·rw [if_neg (by rw [e]; decide), if_pos e]
  rw [zP_neg] at hg
  have hbit : ∀ k, Sup (R.map nf) k → k.testBit n = true := fun k hs => by
   have := (zP_ph (w := w) (by omega) (by decide) k).1 (hs _ hg (zP_xv w n 1 (by decide)))
   cases e : k.testBit n with
   | true => rfl
   | false => rw [e] at this; cases this
  have hob : ∀ j, (o ||| 2 ^ n).testBit j = (o.testBit j || decide (n = j)) := fun j => by rw [Nat.testBit_or, Nat.testBit_two_pow]
  have hobn : (o ||| 2 ^ n).testBit n = true := by rw [hob]; simp
  have hobj : ∀ j, j ≠ n → (o ||| 2 ^ n).testBit j = o.testBit j := fun j hj => by rw [hob]; simp [Ne.symm hj]
  refine ⟨hk, fun k => ⟨fun hs => ⟨((h.sup k).1 hs).1, fun j h1 h2 => ?_⟩, fun hs => (h.sup k).2 ⟨hs.1, fun j h1 h2 => ?_⟩⟩, fun j hj => ?_, fun j h1 h2 => ?_, fun k hs => ?_⟩
  ·by_cases q : j = n
   ·subst q; rw [hbit k hs]; exact hobn.symm
   ·show _ = (o ||| 2 ^ n).testBit j
    rw [hobj j q]; exact ((h.sup k).1 hs).2 j (by omega) h2
  ·have := hs.2 j (by omega) h2
   dsimp only at this
   rw [hobj j (by omega)] at this; exact this
  ·show (o ||| 2 ^ n).testBit j = false
   rw [hobj j (by omega)]; exact h.lo j (by omega)
  ·show Gen _ (nf (zP w j ((o ||| 2 ^ n).testBit j).toNat))
   by_cases q : j = n
   ·subst q; rw [hobn]; exact hg
   ·rw [hobj j q]; exact h.gen j (by omega) h2
  ·have h3 : o / 2 ^ (n + 1) ≤ k / 2 ^ (n + 1) := h.min k hs
   have h4 : (o ||| 2 ^ n) / 2 ^ (n + 1) = o / 2 ^ (n + 1) := Nat.eq_of_testBit_eq fun j => by
    rw [Nat.testBit_div_two_pow, Nat.testBit_div_two_pow, hobj _ (by omega)]
   show (o ||| 2 ^ n) / 2 ^ n ≤ k / 2 ^ n
   rw [div2 (o ||| 2 ^ n), div2 k, h4, hobn]
   have : true.toNat = 1 := rfl
   rcases Nat.lt_or_ge (o / 2 ^ (n + 1)) (k / 2 ^ (n + 1)) with q | q
   ·omega
   ·have h5 : k / 2 ^ (n + 1) = o / 2 ^ (n + 1) := by omega
    have h6 : Sup (R.map nf) k := (h.sup k).2 ⟨hs, fun j h1 _ => div_bits h5 h1⟩
    rw [hbit k h6, h5]
    exact Nat.le_refl _
 ·rw [if_neg (by rw [e]; decide), if_neg (by rw [e]; decide)]
  have hpin : inV w (nf (zP w n 0)).2 := vec_in hw hpv
  have hx := sta_anti hw hst hpin hok n1 n2
  have hS : SOk w (prjL (zP w n 0) R) := by
   refine sta_sok ⟨hk.lo, hw⟩ (prjL_vl hw hpv hk.vl) ?_
   rw [prjL_nf hw hk.vl hst.good]
   exact proj_sta hw hst hpin hok n1 n2
  obtain ⟨r1, r2⟩ := redRows_ok hS
  have hsp : ∀ k, Sup ((redRows (prjL (zP w n 0) R) (2 * w)).map nf) k ↔ Sup (R.map nf) k ∧ k.testBit n = false := fun k => by
   rw [← sup_same r2 k, prjL_nf hw hk.vl hst.good, sup_meas hst.good (zP_xv w n 0 (by decide)) hok hx, zP_ph (by omega) (by decide)]
   cases k.testBit n <;> simp
  obtain ⟨_, _, _, hkeep⟩ := proj_keep hst.good hok hx
  refine ⟨r1, fun k => ⟨fun hs => ?_, fun hs => ?_⟩, fun j hj => h.lo j (by omega), fun j h1 h2 => ?_, fun k hs => ?_⟩
  ·obtain ⟨a1, a2⟩ := (hsp k).1 hs
   refine ⟨((h.sup k).1 a1).1, fun j h1 h2 => ?_⟩
   by_cases q : j = n
   ·subst q; rw [a2]; exact hz0.symm
   ·exact ((h.sup k).1 a1).2 j (by omega) h2
  ·refine (hsp k).2 ⟨(h.sup k).2 ⟨hs.1, fun j h1 h2 => hs.2 j (by omega) h2⟩, ?_⟩
   exact (hs.2 n (Nat.le_refl n) hnw).trans hz0
  ·refine (r2 _).1 ?_
   rw [prjL_nf hw hk.vl hst.good]
   by_cases q : j = n
   ·subst q
    show Gen _ (nf (zP w j (o.testBit j).toNat))
    rw [hz0]
    exact gen_mem' (proj_good hst.good hok hx) (proj_has hx)
   ·refine (hkeep _ (h.gen j (by omega) h2)).1 (com_z (zP_xv w n 0 (by decide)) (zP_xv w j _ ?_))
    exact tn1 _
  ·have := h.min k hs
   show o / 2 ^ n ≤ k / 2 ^ n
   rw [div2 o, div2 k, hz0]
   have h3 : o / 2 ^ (n + 1) ≤ k / 2 ^ (n + 1) := this
   have : false.toNat = 0 := rfl
   omega
theorem sup_all {w : Nat} (hw : w ≤ 12) {L : List E} (hL : Sta w L) {o : Nat} (hg : ∀ j, j < w → Gen L (nf (zP w j (o.testBit j).toNat))) : ∀ n, n ≤ w → ∀ g, Gen L g → xv g.2 = 0 → (∀ j, n ≤ j → g.2.testBit (12 + j) = false) → phE g o = 0
 | 0, _, g, h, hx, hz => by
  have h0 : g.2 = 0 := Nat.eq_of_testBit_eq fun j => by
   rw [Nat.zero_testBit]
   rcases Nat.lt_or_ge j 12 with q | q
   ·have := congrArg (fun v => v.testBit j) hx
    simp only [xv, show 4096 = 2 ^ 12 from rfl, Nat.testBit_mod_two_pow, Nat.zero_testBit] at this
    simpa [q] using this
   ·have := hz (j - 12) (Nat.zero_le _)
    rwa [show 12 + (j - 12) = j by omega] at this
  rw [gen_zero hL.good hL.ind h h0, phE_one]
 | n + 1, hn, g, h, hx, hz => by
  by_cases hb : g.2.testBit (12 + n) = true
  ·have hzg := hg n (by omega)
   have hb1 := tn1 (o.testBit n)
   have hzx := zP_xv w n (o.testBit n).toNat hb1
   have hp0 := (zP_ph (w := w) (by omega) hb1 o).2 rfl
   have e2 : (nf (zP w n (o.testBit n).toNat)).2 = 2 ^ (12 + n) := by rw [nf_zP w n _ hb1]
   generalize nf (zP w n (o.testBit n).toNat) = z at hzg hzx hp0 e2
   have hm := gen_mul' hL.good hzg h
   have hmx : xv (emul z g).2 = 0 := by
    show xv (z.2 ^^^ g.2) = 0
    rw [xv_xor, hzx, hx]; rfl
   have ih := sup_all hw hL hg n (by omega) (emul z g) hm hmx fun j hj => by
    show (z.2 ^^^ g.2).testBit (12 + j) = false
    rw [Nat.testBit_xor, e2, Nat.testBit_two_pow]
    by_cases q : n = j
    ·subst q; rw [hb]; simp
    ·rw [hz j (by omega)]; simp; omega
   have e : emul z (emul z g) = g := by
    rw [← emul_assoc, emul_self (gen_ok hL.good hzg), one_emul g (gen_ok hL.good h).1]
   have := phE_mul z (emul z g) o
   rw [e, ih, hmx, Nat.xor_zero, hp0] at this
   exact this
  ·refine sup_all hw hL hg n (by omega) g h hx fun j hj => ?_
   by_cases q : j = n
   ·rw [q]; simpa using hb
   ·exact hz j (by omega)
theorem ls_run {w : Nat} {l : List Ps} (h : SOk w l) : ∀ i, i ≤ w → Ls w (w - i) ((l.map nf)) (lsS w l i)
 | 0, _ => by
  obtain ⟨r1, r2⟩ := redRows_ok h
  refine ⟨r1, fun k => ⟨fun q => ⟨(sup_same r2 k).2 q, fun j h1 h2 => by omega⟩, fun q => (sup_same r2 k).1 q.1⟩, fun j _ => Nat.zero_testBit j, fun j h1 h2 => by omega, fun k _ => ?_⟩
  show 0 / _ ≤ _
  rw [Nat.zero_div]; exact Nat.zero_le _
 | i + 1, hi => by
  have := ls_run h i (by omega)
  rw [show w - i = (w - 1 - i) + 1 by omega] at this
  rw [show w - (i + 1) = w - 1 - i by omega]
  exact ls_step (by omega) rfl this
theorem ls_end {w : Nat} {l : List Ps} (h : SOk w l) : Sup (l.map nf) (lsS w l w).2 ∧ (lsS w l w).2 < 2 ^ w ∧ ∀ k, Sup (l.map nf) k → (lsS w l w).2 ≤ k := by
 have hl := ls_run h w (Nat.le_refl w)
 rw [Nat.sub_self] at hl
 have hs := sok_sta hl.sok
 have hin : ∀ g, Gen ((lsS w l w).1.map nf) g → ∀ j, w ≤ j → g.2.testBit (12 + j) = false := fun g hg j hj => by
  refine sp_bit _ (fun a ha => ?_) _ (gen_span hg)
  obtain ⟨e, he, rfl⟩ := List.mem_map.1 ha
  exact sp_bit _ (U_bit (.inr (by omega))) _ (hs.inv e he)
 have hsup : Sup ((lsS w l w).1.map nf) (lsS w l w).2 := fun g hg hx => sup_all h.hi hs (fun j hj => hl.gen j (Nat.zero_le j) hj) w (Nat.le_refl w) g hg hx (hin g hg)
 refine ⟨((hl.sup _).1 hsup).1, Nat.lt_pow_two_of_testBit _ fun j hj => hl.lo j (.inr hj), fun k hk => ?_⟩
 have := hl.min k hk
 simpa using this
end Go.Tz
namespace Go.Tz
open Go Go.AL Go.Proofs Go.Ma
theorem bitB_x {w n : Nat} (hw : w ≤ 12) (hn : n < w) {q : Ps} (h : Vl w q) : bitB q (2 * n : Nat) = xB q n := by
 have h1 := bitB_cb (c := 2 * n) hw (by omega) h
 rw [h1]
 obtain ⟨X, Z, P, rfl, hX, _, _⟩ := h
 have h2 : X < 4096 := Nat.lt_of_lt_of_le hX (Nat.pow_le_pow_right (by decide) hw)
 unfold cb vec pos xB
 rw [if_pos (by omega), nf_mk, show 2 * n / 2 = n by omega, vec_bit h2, if_pos (by omega)]
 show _ = (X : Int).toNat.testBit n
 rw [Int.toNat_natCast]
theorem bitB_even (q : Ps) (n : Nat) : bitB q (2 * n : Nat) = decide (bitI q.x n = 1) := by
 unfold bitB
 have e1 : ((2 * n : Nat) : Int) % 2 = 0 := by omega
 have e2 : ((2 * n : Nat) : Int) / 2 = n := by omega
 rw [if_pos e1, e2]
theorem bitI_x {w n : Nat} (hw : w ≤ 12) (hn : n < w) {q : Ps} (h : Vl w q) : decide (bitI q.x n = 1) = xB q n := by rw [← bitB_even, bitB_x hw hn h]
theorem clrX_z0 (f : Ps) (n : Nat) : clrX f n Ps.z0 = Ps.z0 := by
 unfold clrX
 rw [if_neg]
 show ¬ (0 : Int).toNat.testBit n = true
 simp
structure FS where
 r : Nat → Ps
 m : Nat
 o : Nat → Nat × Ps
def dlt (rf : Nat → Ps) (f j : Nat) : Ps := if j < f then rf j else rf (j + 1)
def flS (w n : Nat) (s : FS) : FS := match fndO s.r s.m (2 * n) 0 with
 | none => s
 | some f => ⟨fun j => clrX (s.r f) n (dlt s.r f j), s.m - 1, fun j => if j < w - s.m then ((s.o j).1, clrX (s.r f) n (s.o j).2) else (n, s.r f)⟩
def flN (w : Nat) (l : List Ps) : Nat → FS
 | 0 => ⟨fun j => l.getD j Ps.z0, w, fun _ => (0, Ps.z0)⟩
 | n + 1 => flS w n (flN w l n)
abbrev flA (w : Nat) (s : FS) : List (Nat × Ps) := (List.range (w - s.m)).map s.o
abbrev flB (s : FS) : List Ps := (List.range s.m).map s.r
structure FlOk (w n : Nat) (L : List E) (s : FS) : Prop where
 le : s.m ≤ w
 z : ∀ j, s.m ≤ j → s.r j = Ps.z0
 pt : Pt w n L (flA w s) (flB s)
theorem flok_r {w n : Nat} {L : List E} {s : FS} (h : FlOk w n L s) {j : Nat} (hj : j < s.m) : Vl w (s.r j) := h.pt.vl _ (List.mem_append.2 (.inr (List.mem_map.2 ⟨j, List.mem_range.2 hj, rfl⟩)))
theorem flok_o {w n : Nat} {L : List E} {s : FS} (h : FlOk w n L s) {j : Nat} (hj : j < w - s.m) : Vl w (s.o j).2 ∧ (s.o j).1 < n := by
 have hm : s.o j ∈ flA w s := List.mem_map.2 ⟨j, List.mem_range.2 hj, rfl⟩
 exact ⟨h.pt.vl _ (List.mem_append.2 (.inl (List.mem_map.2 ⟨_, hm, rfl⟩))), h.pt.lt _ hm⟩
theorem fl_step {w n : Nat} (hw : w ≤ 12) (hn : n < w) {L : List E} {s : FS} (h : FlOk w n L s) : FlOk w (n + 1) L (flS w n s) := by
 unfold flS
 cases hf : fndO s.r s.m (2 * n) 0 with
 | none =>
  refine ⟨h.le, h.z, ptq_skip h.pt fun b hb => ?_⟩
  obtain ⟨j, hj, rfl⟩ := List.mem_map.1 hb
  have hj := List.mem_range.1 hj
  rw [← bitB_x hw hn (flok_r h hj)]
  exact fndO_none hf j (Nat.zero_le j) hj
 | some f =>
  obtain ⟨_, f1, f2, _⟩ := fndO_some hf
  have hfv := flok_r h f1
  rw [bitB_x hw hn hfv] at f2
  dsimp only
  have hle := h.le
  refine ⟨by show s.m - 1 ≤ w; omega, fun j hj => ?_, ?_⟩
  ·have hj : s.m - 1 ≤ j := hj
   show clrX _ n (dlt s.r f j) = _
   have : dlt s.r f j = Ps.z0 := by
    unfold dlt
    rw [if_neg (by omega)]
    exact h.z _ (by omega)
   rw [this, clrX_z0]
  ·have eA : flA w ⟨fun j => clrX (s.r f) n (dlt s.r f j), s.m - 1, fun j => if j < w - s.m then ((s.o j).1, clrX (s.r f) n (s.o j).2) else (n, s.r f)⟩ = (flA w s).map (fun a => (a.1, clrX (s.r f) n a.2)) ++ [(n, s.r f)] := by
    unfold flA
    dsimp only
    rw [show w - (s.m - 1) = (w - s.m) + 1 by omega, List.range_succ, List.map_append, List.map_map]
    congr 1
    ·refine List.map_congr_left fun j hj => ?_
     rw [if_pos (List.mem_range.1 hj)]; rfl
    ·simp only [List.map_cons, List.map_nil]
     rw [if_neg (Nat.lt_irrefl _)]
   rw [eA]
   have hd : ∀ j, j < s.m - 1 → ∃ i, i < s.m ∧ dlt s.r f j = s.r i := fun j hj => by
    unfold dlt
    split
    ·exact ⟨j, by omega, rfl⟩
    ·exact ⟨j + 1, by omega, rfl⟩
   refine ptq_step hw h.pt (f := s.r f) (List.mem_map.2 ⟨f, List.mem_range.2 f1, rfl⟩) f2 (fun q hq => ?_) (fun r hr => ?_) (fun q hq => ?_)
   ·obtain ⟨j, hj, rfl⟩ := List.mem_map.1 hq
    obtain ⟨i, hi, e⟩ := hd j (List.mem_range.1 hj)
    exact ⟨s.r i, List.mem_map.2 ⟨i, List.mem_range.2 hi, rfl⟩, by show clrX _ n (dlt s.r f j) = _; rw [e]⟩
   ·obtain ⟨i, hi, rfl⟩ := List.mem_map.1 hr
    have hi := List.mem_range.1 hi
    rcases Nat.lt_trichotomy i f with q | q | q
    ·exact .inr (List.mem_map.2 ⟨i, List.mem_range.2 (by show i < s.m - 1; omega), by show clrX _ n (dlt s.r f i) = _; unfold dlt; rw [if_pos q]⟩)
    ·exact .inl (by rw [q])
    ·refine .inr (List.mem_map.2 ⟨i - 1, List.mem_range.2 (by show i - 1 < s.m - 1; omega), ?_⟩)
     show clrX _ n (dlt s.r f (i - 1)) = _
     unfold dlt; rw [if_neg (by omega), show i - 1 + 1 = i by omega]
   ·obtain ⟨j, hj, rfl⟩ := List.mem_map.1 hq
    obtain ⟨i, hi, e⟩ := hd j (List.mem_range.1 hj)
    show xB (clrX _ n (dlt s.r f j)) n = false
    rw [e, clrX_bit hw hfv (flok_r h hi), f2]
    cases xB (s.r i) n <;> rfl
theorem fl_zero {w : Nat} {l : List Ps} (hlen : l.length = w) (hv : ∀ q, q ∈ l → Vl w q) (hG : Good (l.map nf)) : FlOk w 0 (l.map nf) (flN w l 0) := by
 have eB : flB (flN w l 0) = l := by
  show (List.range w).map (fun j => l.getD j Ps.z0) = l
  apply List.ext_getElem
  ·simp [hlen]
  ·intro i h1 h2
   simp [List.getElem?_eq_getElem h2]
 have eA : flA w (flN w l 0) = [] := by
  show (List.range (w - w)).map _ = []
  rw [Nat.sub_self]; rfl
 refine ⟨Nat.le_refl w, fun j hj => ?_, ?_⟩
 ·show l.getD j Ps.z0 = _
  have : w ≤ j := hj
  rw [List.getD_eq_getElem?_getD, List.getElem?_eq_none (by omega)]; rfl
 ·rw [eA, eB]
  exact ⟨hv, hG, fun _ => Iff.rfl, (fun a ha => by cases ha), (fun a ha => by cases ha), List.Pairwise.nil, fun b _ m hm => by omega⟩
theorem fl_run {w : Nat} (hw : w ≤ 12) {l : List Ps} (hlen : l.length = w) (hv : ∀ q, q ∈ l → Vl w q) (hG : Good (l.map nf)) : ∀ n, n ≤ w → FlOk w n (l.map nf) (flN w l n)
 | 0, _ => fl_zero hlen hv hG
 | n + 1, hn => fl_step hw hn (fl_run hw hlen hv hG n (by omega))
def parS (N n : Nat) (s : (Nat → Ps) × Nat) : (Nat → Ps) × Nat := match fndO s.1 N (2 * n) s.2 with
 | none => s
 | some f => (clrR (swapF s.1 s.2 f) s.2 (2 * n) N, s.2 + 1)
def parN (l : List Ps) : Nat → (Nat → Ps) × Nat
 | 0 => (fun j => l.getD j Ps.z0, 0)
 | n + 1 => parS l.length n (parN l n)
abbrev paB (N : Nat) (s : (Nat → Ps) × Nat) : List Ps := (List.range (N - s.2)).map fun j => s.1 (s.2 + j)
structure PaOk (w n : Nat) (L : List E) (s : (Nat → Ps) × Nat) (pc : Nat → Nat) : Prop where
 le : s.2 ≤ w
 pt : Pt w n L ((List.range s.2).map fun j => (pc j, s.1 j)) (paB w s)
theorem paok_v {w n : Nat} {L : List E} {s : (Nat → Ps) × Nat} {pc : Nat → Nat} (h : PaOk w n L s pc) {j : Nat} (hj : j < w) : Vl w (s.1 j) := by
 refine h.pt.vl _ (List.mem_append.2 ?_)
 rcases Nat.lt_or_ge j s.2 with q | q
 ·exact .inl (List.mem_map.2 ⟨_, List.mem_map.2 ⟨j, List.mem_range.2 q, rfl⟩, rfl⟩)
 ·exact .inr (List.mem_map.2 ⟨j - s.2, List.mem_range.2 (by omega), by show s.1 (s.2 + (j - s.2)) = _; rw [show s.2 + (j - s.2) = j by omega]⟩)
theorem clrR_x {w N a n : Nat} (hw : w ≤ 12) (hn : n < w) {g : Nat → Ps} {j : Nat} (hv : Vl w (g j)) (hj : j < N) (ha : j ≠ a) : clrR g a (2 * n) N j = clrX (g a) n (g j) := by
 unfold clrR clrX
 rw [bitB_x hw hn hv]
 by_cases e : xB (g j) n = true
 ·rw [if_pos ⟨hj, ha, e⟩, if_pos e]
 ·rw [if_neg (fun h => e h.2.2), if_neg e]
theorem pa_step {w n : Nat} (hw : w ≤ 12) (hn : n < w) {L : List E} {s : (Nat → Ps) × Nat} {pc : Nat → Nat} (h : PaOk w n L s pc) : ∃ pc', PaOk w (n + 1) L (parS w n s) pc' := by
 unfold parS
 obtain ⟨rf, a⟩ := s
 dsimp only
 have hle : a ≤ w := h.le
 have hv : ∀ j, j < w → Vl w (rf j) := fun j hj => paok_v h hj
 cases hf : fndO rf w (2 * n) a with
 | none =>
  refine ⟨pc, h.le, ptq_skip h.pt fun b hb => ?_⟩
  obtain ⟨j, hj, rfl⟩ := List.mem_map.1 hb
  have hj : j < w - a := List.mem_range.1 hj
  show xB (rf (a + j)) n = false
  rw [← bitB_x hw hn (hv _ (by omega))]
  exact fndO_none hf _ (by omega) (by omega)
 | some f =>
  obtain ⟨f0, f1, f2, _⟩ := fndO_some hf
  rw [bitB_x hw hn (hv f f1)] at f2
  dsimp only
  have hsv := swap_vl hv (show a < w by omega) f1
  have ga : swapF rf a f a = rf f := by unfold swapF; rw [if_pos rfl]
  have glt : ∀ j, j < a → swapF rf a f j = rf j := fun j hj => by unfold swapF; rw [if_neg (by omega), if_neg (by omega)]
  have gge : ∀ j, a < j → j < w → ∃ i, a ≤ i ∧ i < w ∧ swapF rf a f j = rf i := fun j h1 h2 => by
   unfold swapF
   rw [if_neg (by omega)]
   split
   ·exact ⟨a, Nat.le_refl _, by omega, rfl⟩
   ·exact ⟨j, by omega, h2, rfl⟩
  have gback : ∀ i, a ≤ i → i < w → i = f ∨ ∃ j, a < j ∧ j < w ∧ swapF rf a f j = rf i := fun i h1 h2 => by
   by_cases e : i = f
   ·exact .inl e
   ·right
    by_cases e2 : i = a
    ·exact ⟨f, by omega, f1, by unfold swapF; rw [if_neg (by omega), if_pos rfl, e2]⟩
    ·exact ⟨i, by omega, h2, by unfold swapF; rw [if_neg e2, if_neg e]⟩
  generalize swapF rf a f = g at hsv ga glt gge gback
  have cx : ∀ j, j < w → j ≠ a → clrR g a (2 * n) w j = clrX (rf f) n (g j) := fun j h1 h2 => by rw [clrR_x hw hn (hsv j h1) h1 h2, ga]
  refine ⟨fun j => if j = a then n else pc j, by show a + 1 ≤ w; omega, ?_⟩
  have eA : (List.range (a + 1)).map (fun j => ((if j = a then n else pc j), clrR g a (2 * n) w j)) = ((List.range a).map fun j => (pc j, rf j)).map (fun b => (b.1, clrX (rf f) n b.2)) ++ [(n, rf f)] := by
   rw [List.range_succ, List.map_append, List.map_map]
   congr 1
   ·refine List.map_congr_left fun j hj => ?_
    have hj := List.mem_range.1 hj
    rw [if_neg (by omega), cx j (by omega) (by omega), glt j hj]; rfl
   ·simp only [List.map_cons, List.map_nil, if_true]
    rw [clrR_a, ga]
  show Pt w (n + 1) L ((List.range (a + 1)).map (fun j => ((if j = a then n else pc j), clrR g a (2 * n) w j))) _
  rw [eA]
  have mB : ∀ i, a ≤ i → i < w → rf i ∈ paB w (rf, a) := fun i h1 h2 => List.mem_map.2 ⟨i - a, List.mem_range.2 (by show i - a < w - a; omega), by show rf (a + (i - a)) = _; rw [show a + (i - a) = i by omega]⟩
  refine ptq_step hw h.pt (f := rf f) (mB f f0 f1) f2 (fun q hq => ?_) (fun r hr => ?_) (fun q hq => ?_)
  ·obtain ⟨j, hj, rfl⟩ := List.mem_map.1 hq
   have hj : j < w - (a + 1) := List.mem_range.1 hj
   obtain ⟨i, i1, i2, e⟩ := gge (a + 1 + j) (by omega) (by omega)
   exact ⟨rf i, mB i i1 i2, by show clrR g a (2 * n) w (a + 1 + j) = _; rw [cx _ (by omega) (by omega), e]⟩
  ·obtain ⟨i, hi, rfl⟩ := List.mem_map.1 hr
   have hi : i < w - a := List.mem_range.1 hi
   rcases gback (a + i) (by omega) (by omega) with e | ⟨j, j1, j2, e⟩
   ·exact .inl (by show rf (a + i) = _; rw [e])
   ·refine .inr (List.mem_map.2 ⟨j - (a + 1), List.mem_range.2 (by show j - (a + 1) < w - (a + 1); omega), ?_⟩)
    show clrR g a (2 * n) w (a + 1 + (j - (a + 1))) = clrX _ n (rf (a + i))
    rw [show a + 1 + (j - (a + 1)) = j by omega, cx j j2 (by omega), e]
  ·obtain ⟨j, hj, rfl⟩ := List.mem_map.1 hq
   have hj : j < w - (a + 1) := List.mem_range.1 hj
   show xB (clrR g a (2 * n) w (a + 1 + j)) n = false
   rw [cx _ (by omega) (by omega), clrX_bit hw (hv f f1) (hsv _ (by omega)), f2]
   cases xB (g (a + 1 + j)) n <;> rfl
theorem pa_run {w : Nat} (hw : w ≤ 12) {l : List Ps} (hlen : l.length = w) (hv : ∀ q, q ∈ l → Vl w q) (hG : Good (l.map nf)) : ∀ n, n ≤ w → ∃ pc, PaOk w n (l.map nf) (parN l n) pc
 | 0, _ => by
  refine ⟨fun _ => 0, Nat.zero_le _, ?_⟩
  have eB : paB w (parN l 0) = l := by
   show (List.range (w - 0)).map (fun j => l.getD (0 + j) Ps.z0) = l
   apply List.ext_getElem
   ·simp [hlen]
   ·intro i h1 h2
    simp [List.getElem?_eq_getElem h2]
  rw [eB]
  exact ⟨hv, hG, fun _ => Iff.rfl, (fun a ha => by cases ha), (fun a ha => by cases ha), List.Pairwise.nil, fun b _ m hm => by omega⟩
 | n + 1, hn => by
  obtain ⟨pc, h⟩ := pa_run hw hlen hv hG n (by omega)
  have := pa_step hw hn h
  rw [← hlen] at this
  rw [hlen] at this
  have e : parN l (n + 1) = parS w n (parN l n) := by show parS l.length n _ = _; rw [hlen]
  rw [e]; exact this
end Go.Tz
