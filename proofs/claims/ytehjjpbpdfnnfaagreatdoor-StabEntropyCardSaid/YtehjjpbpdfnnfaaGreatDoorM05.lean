import Derived.Test.YtehjjpbpdfnnfaaGreatDoorM04
namespace Go.Tz
open Go Go.AL Go.Proofs
variable {G : Nat → Option (List D)}
abbrev Rn := Nat × Nat
def Rn.l (r : Rn) : List D := [iD r.1, iD r.2]
abbrev rnD (l : List Rn) (t : Bool) : D := .sl (l.map Rn.l) t
theorem rn_len (l : List Rn) : ∀ el, el ∈ l.map Rn.l → el.length = 2 := by
 intro el h
 obtain ⟨q, _, rfl⟩ := List.mem_map.1 h
 rfl
theorem rn_sc (l : List Rn) : (((l.map Rn.l).map (·.map AV.d)).all fun el => el.all AV.scalar) = true := by
 simp [Rn.l, AV.scalar, D.scalar]
theorem over_all {α : Type} {N : Nat} {z : α} {ys : List α} (h : ys.length = N) : over (List.replicate N z) 0 (ys.take N) = ys := by
 have e : ys.take N = ys := List.take_of_length_le (by omega)
 unfold over
 rw [e]
 simp [h]
def rwB (N : Nat) (f : Nat → List D) : Blk := dblk 2 ((List.range N).map f)
theorem rwB_list (l : List Rn) : Blk.arr 2 ((l.map Rn.l).map fun x => x.map AV.d) = rwB l.length fun j => Rn.l (l.getD j (0, 0)) := by
 unfold rwB dblk
 congr 2
 apply List.ext_getElem
 ·simp
 ·intro j h1 h2
  have h3 : j < l.length := by simpa using h1
  simp [List.getD_eq_getElem?_getD, List.getElem?_eq_getElem h3]
theorem get_rw {N k : Nat} {f : Nat → List D} (h : k < N) : (((List.range N).map f).map fun el => el.map AV.d)[0 + (k : Int).toNat]? = some ((f k).map AV.d) := by simp [h]
theorem get_rwE {N k : Nat} {f : Nat → List D} {x : List D} (h : k < N) (e : f k = x) : (((List.range N).map f).map fun el => el.map AV.d)[0 + (k : Int).toNat]? = some (x.map AV.d) := by rw [get_rw h, e]
theorem rwB_congr {N : Nat} {f g : Nat → List D} (h : ∀ j, f j = g j) : Blk.arr 2 (((List.range N).map f).map fun el => el.map AV.d) = rwB N g := by rw [funext h]; rfl
theorem set_rw {N k : Nat} {f : Nat → List D} {x : List D} (h : k < N) : (((List.range N).map f).map fun el => el.map AV.d).set (0 + (k : Int).toNat) (x.map AV.d) = ((List.range N).map fun j => if j = k then x else f j).map fun el => el.map AV.d := by
 rw [Int.toNat_natCast, Nat.zero_add]
 apply List.ext_getElem
 ·simp
 ·intro i h1 h2
  rw [List.getElem_set]
  by_cases e : k = i
  ·subst e; simp
  ·rw [if_neg e]; simp [Ne.symm e]
def clrW (rf : Nat → Rn) (n b i : Nat) : Nat → Rn := fun k => if k < i ∧ k ≠ n ∧ (rf k).1.testBit b = true then ((rf k).1 ^^^ (rf n).1, (rf k).2 ^^^ (rf n).2) else rf k
theorem clrW_0 (rf : Nat → Rn) (n b : Nat) : clrW rf n b 0 = rf := by funext k; simp [clrW]
theorem clrW_n (rf : Nat → Rn) (n b i : Nat) : clrW rf n b i n = rf n := by simp [clrW]
theorem clrW_ge (rf : Nat → Rn) (n b i : Nat) : clrW rf n b i i = rf i := by simp [clrW]
theorem clrW_same {rf : Nat → Rn} {n b i : Nat} (h : ¬ (i ≠ n ∧ (rf i).1.testBit b = true)) : clrW rf n b (i + 1) = clrW rf n b i := by
 funext j
 unfold clrW
 by_cases e : j = i
 ·subst e
  rw [if_neg (fun q => h q.2), if_neg (fun q => h q.2)]
 ·have : (j < i + 1) ↔ (j < i) := by omega
  simp only [this]
theorem clrW_set {rf : Nat → Rn} {n b i : Nat} (hin : i ≠ n) (hb : (rf i).1.testBit b = true) : clrW rf n b (i + 1) = fun j => if j = i then ((rf i).1 ^^^ (rf n).1, (rf i).2 ^^^ (rf n).2) else clrW rf n b i j := by
 funext j
 unfold clrW
 by_cases e : j = i
 ·subst e
  rw [if_pos ⟨Nat.lt_succ_self _, hin, hb⟩, if_pos rfl]
 ·have : (j < i + 1) ↔ (j < i) := by omega
  simp only [this, if_neg e]
def lowN (n : Nat) : Nat := ((List.range 24).find? fun j => n.testBit j).getD 0
theorem low_spec {n : Nat} (h0 : n ≠ 0) (hn : n < 2 ^ 24) : lowN n < 24 ∧ n.testBit (lowN n) = true ∧ ∃ m, n = 2 ^ lowN n * (2 * m + 1) := by
 obtain ⟨c, hc⟩ := Nat.exists_testBit_of_ne_zero h0
 have hc24 : c < 24 := by
  rcases Nat.lt_or_ge c 24 with q | q
  ·exact q
  ·rw [Nat.testBit_lt_two_pow (Nat.lt_of_lt_of_le hn (Nat.pow_le_pow_right (by decide) q))] at hc; cases hc
 cases hf : (List.range 24).find? fun j => n.testBit j with
 | none =>
  have := List.find?_eq_none.1 hf c (List.mem_range.2 hc24)
  rw [hc] at this; simp at this
 | some t =>
  have ht : lowN n = t := by unfold lowN; rw [hf]; rfl
  rw [ht]
  rw [List.find?_range_eq_some] at hf
  obtain ⟨h1, h2, h3⟩ := hf
  refine ⟨List.mem_range.1 h2, h1, n / 2 ^ t / 2, ?_⟩
  have hz : n % 2 ^ t = 0 := by
   refine Nat.eq_of_testBit_eq fun j => ?_
   rw [Nat.testBit_mod_two_pow, Nat.zero_testBit]
   by_cases e : j < t
   ·have := h3 j e; simp at this; simp [this]
   ·simp [e]
  have hodd : n / 2 ^ t % 2 = 1 := by
   rw [Nat.testBit_eq_decide_div_mod_eq] at h1; simpa using h1
  have e1 : 2 * (n / 2 ^ t / 2) + 1 = n / 2 ^ t := by omega
  rw [e1, Nat.mul_div_cancel' (Nat.dvd_of_mod_eq_zero hz)]
def redW (l : List Rn) : Nat → Nat → Rn
 | 0 => fun j => l.getD j (0, 0)
 | n + 1 => if (redW l n n).1 ≠ 0 then clrW (redW l n) n (lowN (redW l n n).1) l.length else redW l n
theorem redW_lt {l : List Rn} (h : ∀ r, r ∈ l → r.1 < 2 ^ 24 ∧ r.2 < 2 ^ 24) : ∀ n j, (redW l n j).1 < 2 ^ 24 ∧ (redW l n j).2 < 2 ^ 24
 | 0, j => by
  show (l.getD j (0, 0)).1 < 2 ^ 24 ∧ (l.getD j (0, 0)).2 < 2 ^ 24
  rw [List.getD_eq_getElem?_getD]
  cases hj : l[j]? with
  | none => exact ⟨by decide, by decide⟩
  | some r => exact h r (List.mem_of_getElem? hj)
 | n + 1, j => by
  have ih := redW_lt h n
  simp only [redW]
  split
  ·unfold clrW
   split
   ·exact ⟨Nat.xor_lt_two_pow (ih j).1 (ih n).1, Nat.xor_lt_two_pow (ih j).2 (ih n).2⟩
   ·exact ih j
  ·exact ih j
theorem low_mul {n m : Nat} (h0 : n ≠ 0) (hn : n < 2 ^ 24) (h : n = 2 ^ lowN n * (2 * m + 1)) : PC Pr GG 251 [.int .u64 (IntKind.u64.wrap (n : Int))] (iD (lowN n)) := by
 have hl := (low_spec h0 hn).1
 revert h hl
 generalize lowN n = t
 intro h hl
 rw [wrapu (by omega)]
 exact trail251 h hl hn
def tzN (n : Nat) : Nat := if n = 0 then 64 else lowN n
theorem tz_c {n : Nat} (hn : n < 2 ^ 24) : PC Pr GG 251 [.int .u64 (IntKind.u64.wrap (n : Int))] (iD (tzN n)) := by
 unfold tzN
 split
 ·rename_i h; subst h; exact trail251z
 ·rename_i h
  obtain ⟨_, _, m, hm⟩ := low_spec h hn
  exact low_mul h hn hm
def lfW (rf : Nat → Rn) (i : Nat) : List Rn := ((List.range i).map rf).filter fun r => decide (r.1 ≠ 0)
def gnW (rf : Nat → Rn) (i : Nat) : List Rn := ((List.range i).map rf).filter fun r => decide (r.1 = 0)
theorem lf_snoc (rf : Nat → Rn) (i : Nat) : lfW rf (i + 1) = lfW rf i ++ (if (rf i).1 ≠ 0 then [rf i] else []) := by
 simp only [lfW, List.range_succ, List.map_append, List.filter_append, List.map_cons, List.map_nil, List.filter_cons, List.filter_nil, decide_eq_true_eq]
theorem gn_snoc (rf : Nat → Rn) (i : Nat) : gnW rf (i + 1) = gnW rf i ++ (if (rf i).1 = 0 then [rf i] else []) := by
 simp only [gnW, List.range_succ, List.map_append, List.filter_append, List.map_cons, List.map_nil, List.filter_cons, List.filter_nil, decide_eq_true_eq]
theorem asD_tup2 {H : AHeap} {v1 v2 : AV} {d1 d2 : D} (h1 : AsD H v1 d1) (h2 : AsD H v2 d2) : AsD H (.tup [v1, v2]) (.tup [d1, d2]) := by
 refine .tup _ _ rfl fun j v d hv hd => ?_
 match j, hv, hd with
 | 0, hv, hd => simp at hv hd; subst hv hd; exact h1
 | 1, hv, hd => simp at hv hd; subst hv hd; exact h2
 | j + 2, hv, _ => simp at hv
theorem chk250 : chkFn Tryz.f250 = true := by kernel_rfl
theorem chk199 : chkFn Tryz.f199 = true := by kernel_rfl
theorem red199 (l : List Rn) (t : Bool) (hn : l.length ≤ 1000) (hb : ∀ r, r ∈ l → r.1 < 2 ^ 24 ∧ r.2 < 2 ^ 24) : PC Pr GG 199 [rnD l t] (.tup [rnD (lfW (redW l l.length) l.length) false, rnD (gnW (redW l l.length) l.length) false]) := by
 refine pc_freeze (isFn_of Tryz.func199 chk199) (fn_walk pok Tryz.func199 chk199 ?_)
 conv => whnf
 repeat' first | ((first | refine LookP.mk _ rfl ?_ | refine ShlP.mk _ (by first | exact over_all (by simp) | (simp only [List.set, over, List.take, List.drop, List.append_eq, List.nil_append, List.cons_append, List.length]; rfl) | rfl) ?_ | (refine And.intro (by first | exact ⟨Int.natCast_nonneg _, rfl, by show 16 * (((l.map Rn.l).length : Nat) : Int).toNat ≤ 281474976710656; rw [Int.toNat_natCast, List.length_map]; omega, by decide, by decide⟩ | exact rn_len _ | exact (by rw [List.length_replicate, Nat.zero_add]; exact Nat.le_refl _) | assumption | exact ⟨by kernel_rfl, rfl⟩ | decide | omega) ?_) | rw [rn_sc] | refine HpP.force ?_); conv => whnf)
 have eN : (((l.map Rn.l).length : Nat) : Int).toNat = l.length := by simp
 refine for_use pok (fun n => ⟨[(2, .d (.sl [] true)), (3, .d (.sl [] true)), (4, .ptr 1 1 0 0), (5, .fn 250 [] [.ptr 1 1 0 0]), (18, .d (iD l.length)), (19, .d (iD n))], [(0, some (rwB l.length fun j => (redW l n j).l)), (1, some (.arr 1 [[.sl 0 2 0 l.length l.length true]]))], 2⟩) (l.length) (fun _ => True) (trivial) ?_ (by kernel_rfl) ?_ ?_
 ·refine keep_env (by first | exact Nat.zero_le _ | exact Nat.le_of_ble_eq_true rfl) ?_ ?_ trivial
  ·repeat' first | exact trivial | refine ⟨⟨by first | rfl | assumption | (show AV.d (D.int .i64 ((((l.map Rn.l).length : Nat) : Int).toNat : Int)) = _; rw [eN]), rfl⟩, ?_⟩
  ·repeat' first | exact trivial | refine ⟨⟨ltB rfl, _, rfl, by first | rfl | assumption | exact congrArg some (rwB_list l) | (show some (Blk.arr 1 [[AV.sl 0 2 0 (((l.map Rn.l).length : Nat) : Int).toNat (((l.map Rn.l).length : Nat) : Int).toNat true]]) = _; rw [eN]), by first | exact below1 rfl | exact below_dblk _ _ _ | exact below_arr rfl | exact below_dblk _ _ _⟩, ?_⟩
 ·intro n A_n h_n I_n N_n
  have e_n : iadd .i64 (n : Int) 1 = ((n + 1 : Nat) : Int) := iadd_nat (by first | omega | (simp at *; omega))
  have hlt := redW_lt hb n n
  have hlt3 := redW_lt hb n
  generalize hg : redW l n = rf at hlt hlt3
  have htz := tz_c hlt.1
  have hlt2 : (rf n).1 < 2 ^ 63 := by omega
  generalize hb1 : (rf n).1 = b1 at hlt htz hlt2
  conv => whnf
  repeat' first | ((first | refine LookP.mk _ (by first | rfl | exact get_rw h_n) ?_ | refine And.intro (by first | assumption | exact ⟨by kernel_rfl, rfl⟩ | decide | omega) ?_ | rw [hb1] | refine pc_use htz ?_); conv => whnf) | (intro t ht; cases t <;> conv => whnf)
  ·exfalso; simp at ht; omega
  ·have h0 : b1 = 0 := by simp at ht; omega
   have hnx : redW l (n + 1) = rf := by simp only [redW, hg, hb1, h0]; simp
   refine N_n _ ?_ ?_
   ·first | trivial | assumption | omega
   ·refine keep_env (by first | exact Nat.zero_le _ | exact Nat.le_of_ble_eq_true rfl) ?_ ?_ trivial
    ·repeat' first | exact trivial | refine ⟨⟨by first | rfl | assumption | exact congrArg (fun n => AV.d (iD n)) e_n, rfl⟩, ?_⟩
    ·repeat' first | exact trivial | refine ⟨⟨ltB rfl, _, rfl, by first | rfl | assumption | (rw [hnx]; rfl), by first | exact below1 rfl | exact below_dblk _ _ _ | exact below_arr rfl | exact below_dblk _ _ _⟩, ?_⟩
  ·have h0 : b1 ≠ 0 := by simp at ht; omega
   have hnx : redW l (n + 1) = clrW rf n (tzN b1) l.length := by
    simp only [redW, hg, hb1]; rw [if_pos h0]; unfold tzN; rw [if_neg h0]
   have ht64 : tzN b1 ≤ 64 := by
    unfold tzN; split
    ·omega
    ·rename_i h; have := (low_spec h hlt.1).1; omega
   generalize tzN b1 = b at hnx ht64
   clear htz
   refine call_walk pok Tryz.func250 chk250 ?_
   conv => whnf
   repeat' first | (refine LookP.mk _ rfl ?_; conv => whnf)
   refine for_use pok (fun k => ⟨[(0, .d (iD n)), (1, .d (iD b)), (2, .ptr 1 1 0 0), (7, .d (iD l.length)), (8, .d (iD k))], [(0, some (rwB l.length fun j => (clrW rf n b k j).l)), (1, some (.arr 1 [[.sl 0 2 0 l.length l.length true]]))], 2⟩) (l.length) (fun _ => True) (trivial) ?_ (by kernel_rfl) ?_ ?_
   ·refine keep_env (by first | exact Nat.zero_le _ | exact Nat.le_of_ble_eq_true rfl) ?_ ?_ trivial
    ·repeat' first | exact trivial | refine ⟨⟨by first | rfl | assumption, rfl⟩, ?_⟩
    ·repeat' first | exact trivial | refine ⟨⟨ltB rfl, _, rfl, by first | rfl | assumption | (rw [clrW_0]; rfl), by first | exact below1 rfl | exact below_dblk _ _ _ | exact below_arr rfl | exact below_dblk _ _ _⟩, ?_⟩
   ·intro k A_k h_k I_k N_k
    have e_k : iadd .i64 (k : Int) 1 = ((k + 1 : Nat) : Int) := iadd_nat (by first | omega | (simp at *; omega))
    have hn' := clrW_n rf n b k
    have hk' := clrW_ge rf n b k
    have hs := @clrW_set rf n b k
    have hs2 := @clrW_same rf n b k
    generalize hgk : clrW rf n b k = g at hn' hk' hs
    conv => whnf
    repeat' first | ((first | refine LookP.mk _ (by first | rfl | exact get_rw (f := fun j => Rn.l (g j)) h_k | exact get_rw (f := fun j => Rn.l (g j)) h_n) ?_ | refine ShlP.mk _ (by first | exact set_rw (x := [_, _]) h_k | rfl) ?_ | refine And.intro (by first | assumption | exact ⟨by kernel_rfl, rfl⟩ | decide | omega) ?_ | refine HpP.force ?_); conv => whnf) | (intro t ht; cases t <;> conv => whnf)
    ·exfalso; simp at ht; omega
    ·have hkn : k = n := by simp at ht; omega
     have e : clrW rf n b (k + 1) = g := by rw [← hgk]; exact hs2 fun q => q.1 hkn
     refine N_k _ ?_ ?_
     ·first | trivial | assumption | omega
     ·refine keep_env (by first | exact Nat.zero_le _ | exact Nat.le_of_ble_eq_true rfl) ?_ ?_ trivial
      ·repeat' first | exact trivial | refine ⟨⟨by first | rfl | assumption | exact congrArg (fun n => AV.d (iD n)) e_k, rfl⟩, ?_⟩
      ·repeat' first | exact trivial | refine ⟨⟨ltB rfl, _, rfl, by first | rfl | assumption | (rw [e]; rfl), by first | exact below1 rfl | exact below_dblk _ _ _ | exact below_arr rfl | exact below_dblk _ _ _⟩, ?_⟩
    ·have hkn : k ≠ n := by intro e; subst e; simp at *
     have e : clrW rf n b (k + 1) = g := by
      rw [← hgk]; refine hs2 fun q => ?_
      rw [hk', bit_nat ht64 (by have := (hlt3 k).1; omega), q.2] at ht
      simp at ht
     refine N_k _ ?_ ?_
     ·first | trivial | assumption | omega
     ·refine keep_env (by first | exact Nat.zero_le _ | exact Nat.le_of_ble_eq_true rfl) ?_ ?_ trivial
      ·repeat' first | exact trivial | refine ⟨⟨by first | rfl | assumption | exact congrArg (fun n => AV.d (iD n)) e_k, rfl⟩, ?_⟩
      ·repeat' first | exact trivial | refine ⟨⟨ltB rfl, _, rfl, by first | rfl | assumption | (rw [e]; rfl), by first | exact below1 rfl | exact below_dblk _ _ _ | exact below_arr rfl | exact below_dblk _ _ _⟩, ?_⟩
    ·have hkn : k ≠ n := by intro e; subst e; simp at *
     have hnk : n ≠ k := Ne.symm hkn
     have hbk : (rf k).1.testBit b = true := by
      rw [hk', bit_nat ht64 (by have := (hlt3 k).1; omega)] at ht
      cases e : (rf k).1.testBit b with
      | true => rfl
      | false => rw [e] at ht; simp at ht
     repeat' first | ((first | refine LookP.mk _ (by first | rfl | exact get_rwE h_k (if_pos rfl) | exact get_rwE h_n (if_neg hnk)) ?_ | refine ShlP.mk _ (by first | exact set_rw (x := [_, _]) h_k | rfl) ?_ | refine And.intro (by first | assumption | exact ⟨by kernel_rfl, rfl⟩ | decide | omega) ?_ | refine HpP.force ?_); conv => whnf)
     have hblk : ∀ j, (if j = k then [iD (ixor .i64 (g k).1 (g n).1), iD (ixor .i64 (g k).2 (g n).2)] else if j = k then [iD (ixor .i64 (g k).1 (g n).1), iD (g k).2] else Rn.l (g j)) = Rn.l (clrW rf n b (k + 1) j) := by
      intro j
      rw [hs hkn hbk]
      dsimp only
      by_cases e : j = k
      ·rw [if_pos e, if_pos e, hk', hn']
       have q1 := hlt3 k
       have q2 := hlt3 n
       rw [ixor_nat (by omega) (by omega), ixor_nat (by omega) (by omega)]; rfl
      ·rw [if_neg e, if_neg e, if_neg e]
     refine N_k _ ?_ ?_
     ·first | trivial | assumption | omega
     ·refine keep_env (by first | exact Nat.zero_le _ | exact Nat.le_of_ble_eq_true rfl) ?_ ?_ trivial
      ·repeat' first | exact trivial | refine ⟨⟨by first | rfl | assumption | exact congrArg (fun n => AV.d (iD n)) e_k, rfl⟩, ?_⟩
      ·repeat' first | exact trivial | refine ⟨⟨ltB rfl, _, rfl, by first | rfl | assumption | exact congrArg some (rwB_congr hblk), by first | exact below1 rfl | exact below_dblk _ _ _ | exact below_arr rfl | exact below_dblk _ _ _⟩, ?_⟩
   ·intro A_last I_last
    conv => whnf
    repeat (refine LookP.mk _ rfl ?_; conv => whnf)
    intro t ht
    cases t
    rotate_left
    ·exfalso; first | (simp at ht; done) | (simp at ht; omega)
    conv => whnf
    skip
    refine N_n _ ?_ ?_
    ·first | trivial | assumption | omega
    ·refine keep_env (by first | exact Nat.zero_le _ | exact Nat.le_of_ble_eq_true rfl) ?_ ?_ trivial
     ·repeat' first | exact trivial | refine ⟨⟨by first | rfl | assumption | exact congrArg (fun n => AV.d (iD n)) e_n, rfl⟩, ?_⟩
     ·repeat' first | exact trivial | refine ⟨⟨ltB rfl, _, rfl, by first | rfl | assumption | (rw [hnx]; rfl), by first | exact below1 rfl | exact below_dblk _ _ _ | exact below_arr rfl | exact below_dblk _ _ _⟩, ?_⟩
 ·intro A_last I_last
  generalize redW l l.length = rf
  conv => whnf
  repeat (refine LookP.mk _ rfl ?_; conv => whnf)
  intro t ht
  cases t
  rotate_left
  ·exfalso; first | (simp at ht; done) | (simp at ht; omega)
  conv => whnf
  repeat' first | (refine LookP.mk _ rfl ?_; conv => whnf)
  refine for_use pok (fun i => ⟨[(2, .sl 1 2 0 (lfW rf i).length (lfW rf i).length false), (3, .sl 2 2 0 (gnW rf i).length (gnW rf i).length false), (40, .sl 0 2 0 l.length l.length true), (41, .d (iD l.length)), (42, .d (iD i))], [(0, some (rwB l.length fun j => (rf j).l)), (1, some (dblk 2 ((lfW rf i).map Rn.l))), (2, some (dblk 2 ((gnW rf i).map Rn.l)))], 3⟩) (l.length) (fun _ => True) (trivial) ?_ (by kernel_rfl) ?_ ?_
  ·refine Sub.trans ((sub_nil (t := 2) (S := 2) (Nat.zero_le _) rfl).trans (sub_nil (t := 3) (S := 2) (Nat.zero_le _) rfl)) ?_
   first | refine ren_env [(1, 2), (2, 3)] ?_ ?_ ?_ trivial | refine ren_envB [(1, 2), (2, 3)] rfl rfl ?_ ?_ ?_ trivial
   ·repeat' first | exact trivial | refine ⟨⟨by first | rfl | assumption, rfl⟩, ?_⟩
   ·repeat' first | exact trivial | refine ⟨⟨ltB rfl, _, rfl, by first | rfl | assumption | exact get_ren rfl (by first | rfl | assumption), by first | exact below1 rfl | exact below_dblk _ _ _ | exact below_arr rfl⟩, ?_⟩
   ·repeat' first | exact trivial | (refine And.intro ?_ ?_) | (exact fun _ => rfl) | (exact fun h => absurd h (Nat.ne_of_beq_eq_false rfl))
  ·intro i A_i h_i I_i N_i
   have e_i : iadd .i64 (i : Int) 1 = ((i + 1 : Nat) : Int) := iadd_nat (by first | omega | (simp at *; omega))
   have h1 := lf_snoc rf i
   have h2 := gn_snoc rf i
   have hle1 : (lfW rf i).length ≤ i := by have := List.length_filter_le (fun r : Rn => decide (r.1 ≠ 0)) ((List.range i).map rf); simpa [lfW] using this
   have hle2 : (gnW rf i).length ≤ i := by have := List.length_filter_le (fun r : Rn => decide (r.1 = 0)) ((List.range i).map rf); simpa [gnW] using this
   generalize lfW rf i = L at h1 hle1
   generalize gnW rf i = K at h2 hle2
   conv => whnf
   repeat (refine LookP.mk _ rfl ?_; conv => whnf)
   intro t ht
   cases t
   ·exfalso; first | (simp at ht; done) | (simp at ht; omega)
   conv => whnf
   repeat' first | ((first | refine LookP.mk _ (by first | rfl | exact get_rw (f := fun j => Rn.l (rf j)) h_i) ?_ | refine ShlP.mk _ (by first | (simp only [List.set, over, List.take, List.drop, List.append_eq, List.nil_append, List.cons_append, List.length]; rfl) | rfl) ?_ | (refine And.intro (by first | exact Nat.le_refl _ | exact ⟨by simp, by decide, by show (2 * (L.length + 1) + 192) * 16 ≤ 281474976710656; omega⟩ | exact ⟨by simp, by decide, by show (2 * (K.length + 1) + 192) * 16 ≤ 281474976710656; omega⟩ | assumption | exact ⟨by kernel_rfl, rfl⟩ | decide | omega) ?_) | rw [nbeq] | refine HpP.force ?_); conv => whnf) | (intro t ht; cases t <;> conv => whnf)
   ·have hz : (rf i).1 = 0 := by simp at ht; omega
    have e1 : lfW rf (i + 1) = L := by rw [h1, if_neg (by simp [hz])]; simp
    have e2 : gnW rf (i + 1) = K ++ [rf i] := by rw [h2, if_pos hz]
    refine N_i _ ?_ ?_
    ·first | trivial | assumption | omega
    ·first | refine ren_env [(2, 5)] ?_ ?_ ?_ trivial | refine ren_envB [(2, 5)] rfl rfl ?_ ?_ ?_ trivial
     ·repeat' first | exact trivial | refine ⟨⟨by first | rfl | assumption | exact congrArg (fun n => AV.d (iD n)) e_i | (rw [e2, List.length_append]; rfl) | (rw [e1]; rfl), rfl⟩, ?_⟩
     ·repeat' first | exact trivial | refine ⟨⟨ltB rfl, _, rfl, by first | rfl | assumption | exact get_ren rfl (by first | rfl | assumption | exact get_ren rfl (by rw [e1]; rfl) | exact get_ren rfl (by rw [e2, List.map_append]; exact congrArg some (dblk_snoc rfl))) | exact get_ren rfl (by rw [e1]; rfl) | exact get_ren rfl (by rw [e2, List.map_append]; exact congrArg some (dblk_snoc rfl)), by first | exact below1 rfl | exact below_dblk _ _ _ | exact below_arr rfl | exact below_dblk _ _ _⟩, ?_⟩
     ·repeat' first | exact trivial | (refine And.intro ?_ ?_) | (exact fun _ => rfl) | (exact fun h => absurd h (Nat.ne_of_beq_eq_false rfl))
   ·have hz : (rf i).1 ≠ 0 := by simp at ht; omega
    have e1 : lfW rf (i + 1) = L ++ [rf i] := by rw [h1, if_pos hz]
    have e2 : gnW rf (i + 1) = K := by rw [h2, if_neg hz]; simp
    refine N_i _ ?_ ?_
    ·first | trivial | assumption | omega
    ·first | refine ren_env [(1, 5)] ?_ ?_ ?_ trivial | refine ren_envB [(1, 5)] rfl rfl ?_ ?_ ?_ trivial
     ·repeat' first | exact trivial | refine ⟨⟨by first | rfl | assumption | exact congrArg (fun n => AV.d (iD n)) e_i | (rw [e1, List.length_append]; rfl) | (rw [e2]; rfl), rfl⟩, ?_⟩
     ·repeat' first | exact trivial | refine ⟨⟨ltB rfl, _, rfl, by first | rfl | assumption | exact get_ren rfl (by first | rfl | assumption | exact get_ren rfl (by rw [e2]; rfl) | exact get_ren rfl (by rw [e1, List.map_append]; exact congrArg some (dblk_snoc rfl))) | exact get_ren rfl (by rw [e2]; rfl) | exact get_ren rfl (by rw [e1, List.map_append]; exact congrArg some (dblk_snoc rfl)), by first | exact below1 rfl | exact below_dblk _ _ _ | exact below_arr rfl | exact below_dblk _ _ _⟩, ?_⟩
     ·repeat' first | exact trivial | (refine And.intro ?_ ?_) | (exact fun _ => rfl) | (exact fun h => absurd h (Nat.ne_of_beq_eq_false rfl))
  ·intro A_last I_last
   conv => whnf
   repeat (refine LookP.mk _ rfl ?_; conv => whnf)
   intro t ht
   cases t
   rotate_left
   ·exfalso; first | (simp at ht; done) | (simp at ht; omega)
   conv => whnf
   skip
   exact fin (asD_tup2 (asD_dblk rfl (by simp)) (asD_dblk rfl (by simp)))
end Go.Tz
namespace Go.Tz
open Go Go.AL Go.Proofs Go.Ma
variable {G : Nat → Option (List D)}
theorem chk269 : chkFn Tryz.f269 = true := by kernel_rfl
theorem ev269 (q : Ps) (f : FuncId) (first cap : List D) (b : Bool) (hf : PC Pr G f (first ++ [q.d] ++ cap) (.bool b)) : PC Pr G 269 [q.d, .rop [.fn f first cap] 0] (.bool (!b)) := by
 refine pc_walk pok Tryz.func269 chk269 ?_
 conv => whnf
 repeat' first | ((first | refine LookP.mk _ rfl ?_ | rw [forceL_eq] | refine pc_use3B hf rfl ?_); conv => whnf) | (intro t ht; cases t <;> conv => whnf)
 all_goals rw [ht]; exact fin rfl
theorem chk248 : chkFn Tryz.f248 = true := by kernel_rfl
theorem every248 (l : List Ps) (t : Bool) (f : FuncId) (first cap : List D) (p : Ps → Bool) (hn : l.length ≤ 1000) (hf : ∀ q, q ∈ l → PC Pr G f (first ++ [q.d] ++ cap) (.bool (p q))) : PC Pr G 248 [rowsD l t, .fn f first cap] (.bool (l.all p)) := by
 have hi := has196 (G := G) l t 269 [] [.rop [.fn f first cap] 0] (fun q => !p q) hn fun q hq => ev269 q f first cap (p q) (hf q hq)
 have e : l.all p = !l.any (fun q => !p q) := by
  rw [List.all_eq_not_any_not]
 rw [e]
 refine pc_walk pok Tryz.func248 chk248 ?_
 conv => whnf
 repeat' first | (refine pc_lendcB hi rfl ?_) | (intro t ht; cases t <;> conv => whnf)
 all_goals rw [ht]; exact fin rfl
theorem chk249 : chkFn Tryz.f249 = true := by kernel_rfl
theorem chks249 (q r : Ps) (l : List Ps) (t : Bool) : PC Pr G 249 [q.d, .rop [rowsD (r :: l) t] 0] (.bool (decide (q.w = r.w))) := by
 refine pc_walk pok Tryz.func249 chk249 ?_
 conv => whnf
 repeat' first | ((first | refine LookP.mk _ rfl ?_ | refine And.intro (by first | assumption | exact ⟨by kernel_rfl, rfl⟩ | decide | omega) ?_ | refine HpP.force ?_); conv => whnf) | (intro t ht; cases t <;> conv => whnf)
 all_goals
  refine fin ?_
  have e : (q.w == r.w) = decide (q.w = r.w) := by rw [Bool.eq_iff_iff]; simp
  rw [← e, ht]
theorem chk198 : chkFn Tryz.f198 = true := by kernel_rfl
theorem checks198 {w : Nat} (hw : 1 ≤ w ∧ w ≤ 12) (r : Ps) (l : List Ps) (t : Bool) (hn : (r :: l).length ≤ 24) (hv : ∀ q, q ∈ r :: l → Vl w q) : PC Pr G 198 [rowsD (r :: l) t] (iD 0) := by
 have hev := every248 (G := G) (r :: l) t 249 [] [.rop [rowsD (r :: l) t] 0] (fun q => decide (q.w = r.w)) (by omega) fun q _ => chks249 q r l t
 have hall : (r :: l).all (fun q => decide (q.w = r.w)) = true := List.all_eq_true.2 fun q hq => by simp [vl_w (hv q hq), vl_w (hv r (by simp))]
 rw [hall] at hev
 generalize hm : r :: l = m at hn hv hev
 refine pc_walk pok Tryz.func198 chk198 ?_
 conv => whnf
 repeat' first | (refine LookP.mk _ rfl ?_; conv => whnf) | (intro t ht; cases t <;> conv => whnf)
 rotate_left
 ·exfalso; simp at ht; omega
 ·exfalso
  have : 1 ≤ m.length := by rw [← hm]; simp
  simp at ht; omega
 refine for_use pok (fun i => ⟨[(1, .ptr 0 1 0 0), (14, .d (rowsD m t)), (15, .d (iD (m.map Ps.l).length)), (16, .d (iD i))], [(0, some (.arr 1 [[.d (rowsD m t)]]))], 1⟩) (m.length) (fun _ => True) (trivial) ?_ (by kernel_rfl) ?_ ?_
 ·refine keep_env (by first | exact Nat.zero_le _ | exact Nat.le_of_ble_eq_true rfl) ?_ ?_ trivial
  ·repeat' first | exact trivial | refine ⟨⟨by first | rfl | assumption, rfl⟩, ?_⟩
  ·repeat' first | exact trivial | refine ⟨⟨ltB rfl, _, rfl, by first | rfl | assumption, by first | exact below1 rfl | exact below_dblk _ _ _ | exact below_arr rfl⟩, ?_⟩
 ·intro i A_i h_i I_i N_i
  have e_i : iadd .i64 (i : Int) 1 = ((i + 1 : Nat) : Int) := iadd_nat (by first | omega | (simp at *; omega))
  have hc := check111 (G := G) m[i]
  rw [pck_vl hw (hv _ (List.getElem_mem h_i))] at hc
  conv => whnf
  repeat (refine LookP.mk _ rfl ?_; conv => whnf)
  intro t ht
  cases t
  ·exfalso; first | (simp at ht; done) | (simp at ht; omega)
  conv => whnf
  repeat' first | ((first | refine LookP.mk _ (by first | rfl | exact get_l h_i) ?_ | refine ShlP.mk _ (by first | (simp only [List.set, over, List.take, List.drop, List.append_eq, List.nil_append, List.cons_append, List.length]; rfl) | rfl) ?_ | refine And.intro (by first | assumption | exact ⟨by kernel_rfl, rfl⟩ | decide | omega) ?_ | refine pc_use hc ?_ | refine HpP.force ?_); conv => whnf) | (intro t ht; cases t <;> conv => whnf)
  ·refine N_i _ ?_ ?_
   ·first | trivial | assumption | omega
   ·refine keep_env (by first | exact Nat.zero_le _ | exact Nat.le_of_ble_eq_true rfl) ?_ ?_ trivial
    ·repeat' first | exact trivial | refine ⟨⟨by first | rfl | assumption | exact congrArg (fun n => AV.d (iD n)) e_i, rfl⟩, ?_⟩
    ·repeat' first | exact trivial | refine ⟨⟨ltB rfl, _, rfl, by first | rfl | assumption, by first | exact below1 rfl | exact below_dblk _ _ _ | exact below_arr rfl⟩, ?_⟩
  ·exact absurd ht (by decide)
 ·intro A_last I_last
  conv => whnf
  repeat (refine LookP.mk _ rfl ?_; conv => whnf)
  intro t ht
  cases t
  rotate_left
  ·exfalso; first | (simp at ht; done) | (simp at ht; omega)
  conv => whnf
  repeat' first | (refine LookP.mk _ rfl ?_; conv => whnf) | (refine pc_lendcB hev rfl ?_) | (intro t ht; cases t <;> conv => whnf)
  ·exfalso; cases ht
  ·exact fin rfl
theorem rowI_nat {w : Nat} (hw : w ≤ 12) {l : List Ps} (hv : ∀ q, q ∈ l → Vl w q) (hn : l.length ≤ 24) : (rowI l).map Rw.l = (l.mapIdx fun n q => ((nf q).2, 2 ^ n)).map Rn.l := by
 unfold rowI
 apply List.ext_getElem
 ·simp
 ·intro i h1 h2
  have hi : i < l.length := by simpa using h1
  simp only [List.getElem_map, List.getElem_mapIdx]
  obtain ⟨X, Z, P, he, g1, g2, g3⟩ := hv l[i] (List.getElem_mem hi)
  have hp : (2 : Nat) ^ w ≤ 2 ^ 12 := Nat.pow_le_pow_right (by decide) hw
  rw [he, nf_mk]
  show [iD (ior .i64 (X : Int) (ishl .i64 (Z : Int) (12 : Nat))), iD (ishl .i64 1 i)] = [iD ((X + 4096 * Z : Nat) : Int), iD ((2 ^ i : Nat) : Int)]
  rw [pow_nat (by omega), ishl_nat (by decide) (by omega), Nat.shiftLeft_eq, ior_nat (by omega) (by omega)]
  have e : X ||| Z * 2 ^ 12 = X + 4096 * Z := by
   have := Nat.two_pow_add_eq_or_of_lt (show X < 2 ^ 12 by omega) Z
   rw [Nat.or_comm, Nat.mul_comm Z, ← this]; omega
  rw [e]
def rowN (l : List Ps) : List Rn := l.mapIdx fun n q => ((nf q).2, 2 ^ n)
def redF (l : List Ps) : Nat → Rn := redW (rowN l) l.length
theorem rowN_lt {w : Nat} (hw : w ≤ 12) {l : List Ps} (hv : ∀ q, q ∈ l → Vl w q) (hn : l.length ≤ 24) : ∀ r, r ∈ rowN l → r.1 < 2 ^ 24 ∧ r.2 < 2 ^ 24 := by
 intro r hr
 obtain ⟨i, hi, rfl⟩ := List.mem_mapIdx.1 hr
 obtain ⟨X, Z, P, he, g1, g2, g3⟩ := hv l[i] (List.getElem_mem hi)
 have hp : (2 : Nat) ^ w ≤ 2 ^ 12 := Nat.pow_le_pow_right (by decide) hw
 rw [he, nf_mk]
 refine ⟨by show X + 4096 * Z < 2 ^ 24; omega, Nat.pow_lt_pow_right (by decide) (by omega)⟩
theorem rowN_len (l : List Ps) : (rowN l).length = l.length := by simp [rowN]
theorem redu199 {w : Nat} (hw : w ≤ 12) {l : List Ps} (hv : ∀ q, q ∈ l → Vl w q) (hn : l.length ≤ 24) : PC Pr GG 199 [.sl ((rowI l).map Rw.l) false] (.tup [rnD (lfW (redF l) l.length) false, rnD (gnW (redF l) l.length) false]) := by
 rw [rowI_nat hw hv hn]
 have := red199 (rowN l) false (by rw [rowN_len]; omega) (rowN_lt hw hv hn)
 rw [rowN_len] at this
 exact this
theorem chk115 : chkFn Tryz.f115 = true := by kernel_rfl
theorem ind115 {w : Nat} (hw : 1 ≤ w ∧ w ≤ 12) (l : List Ps) (t : Bool) (hpos : 0 < l.length) (hn : l.length ≤ 24) (hv : ∀ q, q ∈ l → Vl w q) : PC Pr GG 115 [rowsD l t] (.tup [.bool (decide ((gnW (redF l) l.length).length = 0)), iD 0]) := by
 have h1 : PC Pr GG 198 [rowsD l t] (iD 0) := by
  cases l with
  | nil => simp at hpos
  | cons r l => exact checks198 hw r l t hn hv
 have h2 := rows200 (G := GG) l t (by omega)
 have h3 := redu199 hw.2 hv hn
 generalize gnW (redF l) l.length = K at h3 ⊢
 generalize lfW (redF l) l.length = L at h3
 generalize (rowI l).map Rw.l = R at h2 h3
 refine pc_walk pok Tryz.func115 chk115 ?_
 conv => whnf
 repeat' first | ((first | refine pc_use h1 ?_ | refine pc_use h2 ?_ | refine pc_use h3 ?_); conv => whnf) | (intro t ht; cases t <;> conv => whnf)
 ·have e : K.length ≠ 0 := by intro h; simp [h] at ht
  rw [decide_eq_false e]; exact fin rfl
 ·have e : K.length = 0 := by simp at ht; simp [ht]
  rw [decide_eq_true e]; exact fin rfl
 ·exact absurd ht (by decide)
end Go.Tz
namespace Go.Tz
open Go Go.AL Go.Proofs Go.Ma
variable {G : Nat → Option (List D)}
theorem get_rn {l : List Rn} {k : Nat} (h : k < l.length) : (l.map Rn.l)[(k : Int).toNat]? = some (l[k]).l := by simp [h]
theorem rn_beq (q r : Rn) : ([(q.1 : Int), (q.2 : Int)] == [(r.1 : Int), (r.2 : Int)]) = decide (q = r) := by
 obtain ⟨a, b⟩ := q
 obtain ⟨a', b'⟩ := r
 rw [Bool.eq_iff_iff]; simp; omega
def oth (r : Rn) (l : List Rn) : Nat := l.foldl (fun o x => if x = r then o else o ||| x.1) 0
end Go.Tz
namespace Go.Tz
open Go Go.AL Go.Proofs Go.Ma
variable {G : Nat → Option (List D)}
theorem chk192 : chkFn Tryz.f192 = true := by kernel_rfl
theorem has192 (c : Nat) (q : Ps) : PC Pr G 192 [.agg [iD (c % 2 : Nat), iD (c / 2 : Nat)], q.d] (iD (bitI (if (c : Int) % 2 = 0 then q.x else q.z) ((c : Int) / 2))) := by
 have h : c % 2 = 0 ∨ c % 2 = 1 := by omega
 have e2 : (c : Int) / 2 = ((c / 2 : Nat) : Int) := by omega
 have e1 : (if (c : Int) % 2 = 0 then q.x else q.z) = if c % 2 = 0 then q.x else q.z := by
  by_cases e : c % 2 = 0
  ·rw [if_pos e, if_pos (by omega)]
  ·rw [if_neg e, if_neg (by omega)]
 rw [e1, e2]
 generalize c / 2 = d
 refine pc_walk pok Tryz.func192 chk192 ?_
 rcases h with h | h
 ·rw [h, if_pos rfl]
  conv => whnf
  repeat' first | ((first | refine LookP.mk _ rfl ?_ | refine ShlP.mk _ (by first | (simp only [List.set, over, List.take, List.drop, List.append_eq, List.nil_append, List.cons_append, List.length]; rfl) | rfl) ?_ | refine And.intro (by first | assumption | exact ⟨by kernel_rfl, rfl⟩ | decide | omega) ?_ | refine HpP.force ?_); conv => whnf)
  exact fin rfl
 ·rw [h, if_neg (by decide)]
  conv => whnf
  repeat' first | ((first | refine LookP.mk _ rfl ?_ | refine ShlP.mk _ (by first | (simp only [List.set, over, List.take, List.drop, List.append_eq, List.nil_append, List.cons_append, List.length]; rfl) | rfl) ?_ | refine And.intro (by first | assumption | exact ⟨by kernel_rfl, rfl⟩ | decide | omega) ?_ | refine HpP.force ?_); conv => whnf)
  exact fin rfl
theorem chk193 : chkFn Tryz.f193 = true := by kernel_rfl
theorem has193 (c : Nat) (q : Ps) : PC Pr G 193 [q.d, .rop [iD (c % 2 : Nat), iD (c / 2 : Nat)] 0] (.bool (bitB q c)) := by
 have hh := has192 (G := G) c q
 have e : bitB q c = (bitI (if (c : Int) % 2 = 0 then q.x else q.z) ((c : Int) / 2) == 1) := by
  unfold bitB; rw [Bool.eq_iff_iff]; simp
 rw [e]
 generalize bitI (if (c : Int) % 2 = 0 then q.x else q.z) ((c : Int) / 2) = b at hh ⊢
 refine pc_walk pok Tryz.func193 chk193 ?_
 conv => whnf
 repeat' first | ((first | refine LookP.mk _ rfl ?_ | refine pc_use hh ?_); conv => whnf) | (intro t ht; cases t <;> conv => whnf)
 all_goals rw [ht]; exact fin rfl
theorem psB_list (l : List Ps) : Blk.arr 4 ((l.map Ps.l).map fun x => x.map AV.d) = dblk 4 ((List.range l.length).map fun j => Ps.l (l.getD j Ps.z0)) := by
 unfold dblk
 congr 2
 apply List.ext_getElem
 ·simp
 ·intro j h1 h2
  have h3 : j < l.length := by simpa using h1
  simp [List.getD_eq_getElem?_getD, List.getElem?_eq_getElem h3]
theorem swap_vl {w n a f : Nat} {rf : Nat → Ps} (h : ∀ j, j < n → Vl w (rf j)) (ha : a < n) (hf : f < n) : ∀ j, j < n → Vl w (swapF rf a f j) := by
 intro j hj
 unfold swapF
 split
 ·exact h f hf
 ·split
  ·exact h a ha
  ·exact h j hj
theorem clr_vl {w n a c i : Nat} {rf : Nat → Ps} (hw : w ≤ 12) (h : ∀ j, j < n → Vl w (rf j)) (ha : a < n) : ∀ j, j < n → Vl w (clrR rf a c i j) := by
 intro j hj
 unfold clrR
 split
 ·exact mul_vl hw (h j hj) (h a ha)
 ·exact h j hj
theorem fndO_some {rf : Nat → Ps} {n c a f : Nat} (h : fndO rf n c a = some f) : a ≤ f ∧ f < n ∧ bitB (rf f) c = true ∧ ∀ j, a ≤ j → j < f → bitB (rf j) c = false := by
 unfold fndO at h
 rw [List.find?_range_eq_some] at h
 obtain ⟨p1, p2, p3⟩ := h
 simp at p1
 refine ⟨p1.1, List.mem_range.1 p2, p1.2, fun j hj hlt => ?_⟩
 have := p3 j hlt
 simp at this
 rcases this with h | h
 ·omega
 ·exact h
theorem fndO_none {rf : Nat → Ps} {n c a : Nat} (h : fndO rf n c a = none) : ∀ j, a ≤ j → j < n → bitB (rf j) c = false := by
 intro j hj hlt
 unfold fndO at h
 have := List.find?_eq_none.1 h j (List.mem_range.2 hlt)
 simpa [hj] using this
theorem red_vl {w : Nat} (hw : w ≤ 12) {l : List Ps} (hv : ∀ q, q ∈ l → Vl w q) : ∀ c, (∀ j, j < l.length → Vl w ((redN l c).1 j)) ∧ (redN l c).2.2 ≤ l.length
 | 0 => ⟨fun j hj => by simp only [redN, List.getD_eq_getElem?_getD, List.getElem?_eq_getElem hj, Option.getD_some]; exact hv _ (List.getElem_mem hj), Nat.zero_le _⟩
 | c + 1 => by
  obtain ⟨q1, q2⟩ := red_vl hw hv c
  simp only [redN, colS]
  split
  ·exact ⟨q1, q2⟩
  ·rename_i f hf
   obtain ⟨p3, p2, _⟩ := fndO_some hf
   have p4 : (redN l c).2.2 < l.length := by omega
   exact ⟨clr_vl hw (swap_vl q1 p4 p2) p4, p4⟩
theorem idx_fnd {rf : Nat → Ps} {n c a : Nat} (ha : a ≤ n) : idxI (fun q => bitB q c) (((List.range n).map rf).drop a) = match fndO rf n c a with
  | some f => ((f - a : Nat) : Int)
  | none => -1 := by
 cases h : fndO rf n c a with
 | none =>
  have h0 := fndO_none h
  refine idxI_none fun q hq => ?_
  obtain ⟨i, hi, rfl⟩ := List.getElem_of_mem hq
  have hi' : i < n - a := by simpa using hi
  simp only [List.getElem_drop, List.getElem_map, List.getElem_range]
  exact h0 _ (by omega) (by omega)
 | some f =>
  obtain ⟨h1, h2, h3, h4⟩ := fndO_some h
  have hl : f - a < (((List.range n).map rf).drop a).length := by simp; omega
  refine idxI_some hl ?_ fun q hq => ?_
  ·simp only [List.getElem_drop, List.getElem_map, List.getElem_range]
   rw [show a + (f - a) = f by omega]; exact h3
  ·obtain ⟨i, hi, rfl⟩ := List.mem_take_iff_getElem.1 hq
   have hi' : i < f - a := by omega
   simp only [List.getElem_drop, List.getElem_map, List.getElem_range]
   exact h4 _ (by omega) (by omega)
theorem asD_part {H : AHeap} {nm N a : Nat} {g : Nat → Ps} {t : Bool} (hg : H.get nm = some (dblk 4 ((List.range N).map fun j => (g j).l))) (ha : a ≤ N) : AsD H (.sl nm 4 (0 + (a : Int).toNat) (N - (a : Int).toNat) (N - (a : Int).toNat) t) (rowsD (((List.range N).map g).drop a) t) := by
 rw [Int.toNat_natCast, Nat.zero_add]
 have := asD_sl_map (lo := a) (len := N - a) (room := N - a) (t := t) hg (by simp; omega)
 have e : (((List.range N).map fun j => (g j).l).drop a).take (N - a) = (((List.range N).map g).drop a).map Ps.l := by
  rw [List.take_of_length_le (by simp), List.map_drop, List.map_map]; rfl
 rw [e] at this
 have et : (t && decide (N - a = N - a)) = t := by simp
 rw [et] at this
 exact this
theorem psB_congr {N : Nat} {f g : Nat → List D} (h : ∀ j, f j = g j) : Blk.arr 4 (((List.range N).map f).map fun el => el.map AV.d) = dblk 4 ((List.range N).map g) := by rw [funext h]; rfl
theorem asD_agg2 {H : AHeap} {v1 v2 : AV} {d1 d2 : D} (h1 : AsD H v1 d1) (h2 : AsD H v2 d2) : AsD H (.agg [v1, v2]) (.agg [d1, d2]) := by
 refine .agg _ _ rfl fun j v d hv hd => ?_
 match j, hv, hd with
 | 0, hv, hd => simp at hv hd; subst hv hd; exact h1
 | 1, hv, hd => simp at hv hd; subst hv hd; exact h2
 | j + 2, hv, _ => simp at hv
theorem asD_fn1 {H : AHeap} {f : FuncId} {v : AV} {d : D} (h : AsD H v d) : AsD H (.fn f [] [v]) (.fn f [] [d]) := by
 refine .fn f _ _ _ _ rfl rfl (fun j v d h1 => by simp at h1) fun j v' d' h1 h2 => ?_
 match j, h1, h2 with
 | 0, h1, h2 => simp at h1 h2; subst h1 h2; exact h
 | j + 1, h1, _ => simp at h1
theorem asD_rop {H : AHeap} {nm sz : Nat} {ds : List D} (hg : H.get nm = some (.arr sz [ds.map AV.d])) : AsD H (.ptr nm sz 0 0) (.rop ds 0) := by
 refine .ptr nm sz 0 0 _ _ ds hg rfl (by simp) fun j v d h1 h2 => ?_
 rw [List.getElem?_map, h2] at h1
 simp at h1; subst h1; exact .d d
theorem pc_lend2 {f : FuncId} {v1 v2 : AV} {d1 d2 d : D} {H : AHeap} {nx : Nat} {k : AV → AHeap → Nat → Prop} (h : PC Pr G f [d1, d2] d) (h1 : AsD H v1 d1) (h2 : AsD H v2 d2) (hf : d.flat = true) (hk : k (.d d) H nx) : CallVC Pr G f [v1, v2] H nx k := by
 refine pc_lend h rfl (fun i v d a1 a2 => ?_) hf hk
 match i, a1, a2 with
 | 0, a1, a2 => simp at a1 a2; subst a1 a2; exact h1
 | 1, a1, a2 => simp at a1 a2; subst a1 a2; exact h2
 | i + 2, a1, _ => simp at a1
theorem chk191 : chkFn Tryz.f191 = true := by kernel_rfl
theorem chk105 : chkFn Tryz.f105 = true := by kernel_rfl
theorem canon105a {w : Nat} (hw : 1 ≤ w ∧ w ≤ 12) (l : List Ps) (t : Bool) (hn : l.length ≤ 1000) (hv : ∀ q, q ∈ l → Vl w q) : ACall Pr G 105 [.d (stD w l t)] [] 0 fun v H _ => v = .agg [.d (iD w), .sl 2 4 0 l.length l.length true] ∧ H.get 2 = some (dblk 4 ((redRows l (2 * w)).map Ps.l)) := by
 refine fn_walk pok Tryz.func105 chk105 ?_
 conv => whnf
 repeat' first | ((first | refine LookP.mk _ rfl ?_ | refine ShlP.mk _ (by first | exact over_all (by simp) | (simp only [List.set, over, List.take, List.drop, List.append_eq, List.nil_append, List.cons_append, List.length]; rfl) | rfl) ?_ | (refine And.intro (by first | exact ⟨Int.natCast_nonneg _, rfl, by show 32 * (((l.map Ps.l).length : Nat) : Int).toNat ≤ 281474976710656; rw [Int.toNat_natCast, List.length_map]; omega, by decide, by decide⟩ | exact rows_len _ | exact (by rw [List.length_replicate, Nat.zero_add]; exact Nat.le_refl _) | assumption | exact ⟨by kernel_rfl, rfl⟩ | decide | omega) ?_) | rw [rows_sc] | refine HpP.force ?_); conv => whnf)
 have eN : (((l.map Ps.l).length : Nat) : Int).toNat = l.length := by simp
 have hrv := red_vl hw.2 hv
 have e2 : imul .i64 2 (w : Int) = ((2 * w : Nat) : Int) := imul_nat (a := 2) (by omega)
 refine for_use pok (fun c => ⟨[(1, .ptr 0 2 0 0), (2, .ptr 1 2 0 0), (3, .ptr 3 1 0 0), (4, .d (iD (redN l c).2.2)), (5, .fn 191 [] [.ptr 3 1 0 0]), (20, .d (iD (2 * w : Nat))), (21, .d (iD c))], [(0, some (.arr 2 [[.d (iD w), .d (rowsD l t)]])), (1, some (.arr 2 [[.d (iD 0), .d (.sl [] true)]])), (2, some (dblk 4 ((List.range l.length).map fun j => ((redN l c).1 j).l))), (3, some (.arr 1 [[.sl 2 4 0 l.length l.length true]]))], 4⟩) ((2 * w)) (fun _ => True) (trivial) ?_ (by kernel_rfl) ?_ ?_
 ·refine keep_env (by first | exact Nat.zero_le _ | exact Nat.le_of_ble_eq_true rfl) ?_ ?_ trivial
  ·repeat' first | exact trivial | refine ⟨⟨by first | rfl | assumption | exact congrArg (fun n => AV.d (iD n)) e2, rfl⟩, ?_⟩
  ·repeat' first | exact trivial | refine ⟨⟨ltB rfl, _, rfl, by first | rfl | assumption | exact congrArg some (psB_list l) | (show some (Blk.arr 1 [[AV.sl 2 4 0 (((l.map Ps.l).length : Nat) : Int).toNat (((l.map Ps.l).length : Nat) : Int).toNat true]]) = _; rw [eN]), by first | exact below1 rfl | exact below_dblk _ _ _ | exact below_arr rfl⟩, ?_⟩
 ·intro c A_c h_c I_c N_c
  have e_c : iadd .i64 (c : Int) 1 = ((c + 1 : Nat) : Int) := iadd_nat (by first | omega | (simp at *; omega))
  obtain ⟨hvr, han⟩ := hrv c
  have hnx : redN l (c + 1) = colS l.length c (redN l c) := rfl
  unfold colS at hnx
  generalize hR : redN l c = s at hvr han hnx ⊢
  obtain ⟨rf, wb, a⟩ := s
  dsimp only at hvr han hnx ⊢
  conv => whnf
  repeat (refine LookP.mk _ rfl ?_; conv => whnf)
  intro t ht
  cases t
  ·exfalso; first | (simp at ht; done) | (simp at ht; omega)
  conv => whnf
  repeat' first | ((first | refine LookP.mk _ rfl ?_ | refine ShlP.mk _ (by first | (simp only [List.set, over, List.take, List.drop, List.append_eq, List.nil_append, List.cons_append, List.length]; rfl) | rfl) ?_ | refine And.intro (by first | exact ⟨Int.natCast_nonneg _, by omega⟩ | assumption | exact ⟨by kernel_rfl, rfl⟩ | decide | omega) ?_ | refine HpP.force ?_); conv => whnf)
  have e3 : (c : Int).tmod 2 = ((c % 2 : Nat) : Int) := by rw [Int.tmod_eq_emod_of_nonneg (by omega)]; rfl
  have e4 : iquo .i64 (c : Int) 2 = ((c / 2 : Nat) : Int) := by
   have := iquo_eq (c := (c : Int)) (d := 2) (by omega) (by omega) (by decide) (by decide)
   rw [this]; rfl
  rw [e3, e4]
  have hidx := idx180 (G := G) (((List.range l.length).map rf).drop a) true 193 [] [.rop [iD (c % 2 : Nat), iD (c / 2 : Nat)] 0] (fun q => bitB q c) (by simp; omega) fun q _ => has193 c q
  rw [idx_fnd han] at hidx
  cases hf : fndO rf l.length c a with
  | none =>
   rw [hf] at hidx hnx
   dsimp only at hidx hnx
   refine pc_lend2 hidx (asD_part rfl han) (asD_fn1 (asD_rop rfl)) rfl ?_
   conv => whnf
   repeat' first | (refine LookP.mk _ rfl ?_; conv => whnf) | (intro t ht; cases t <;> conv => whnf)
   ·exact absurd ht (by decide)
   ·refine N_c _ ?_ ?_
    ·first | trivial | assumption | omega
    ·refine keep_env (by first | exact Nat.zero_le _ | exact Nat.le_of_ble_eq_true rfl) ?_ ?_ trivial
     ·repeat' first | exact trivial | refine ⟨⟨by first | rfl | assumption | exact congrArg (fun n => AV.d (iD n)) e_c | (rw [hnx]; rfl), rfl⟩, ?_⟩
     ·repeat' first | exact trivial | refine ⟨⟨ltB rfl, _, rfl, by first | rfl | assumption | (rw [hnx]; rfl), by first | exact below1 rfl | exact below_dblk _ _ _ | exact below_arr rfl⟩, ?_⟩
  | some f =>
   rw [hf] at hidx hnx
   dsimp only at hidx hnx
   obtain ⟨hf1, hf2, _, _⟩ := fndO_some hf
   have haN : a < l.length := by omega
   have e6 : iadd .i64 (a : Int) 1 = ((a + 1 : Nat) : Int) := iadd_nat (b := 1) (by omega)
   have e5 : iadd .i64 (a : Int) ((f - a : Nat) : Int) = (f : Int) := by rw [iadd_nat (by omega)]; congr 1; omega
   refine pc_lend2 hidx (asD_part rfl han) (asD_fn1 (asD_rop rfl)) rfl ?_
   conv => whnf
   repeat' first | ((first | (refine LookP.mk _ (by first | rfl | exact get_rw (f := fun j => Ps.l (rf j)) hf2 | exact get_rw (f := fun j => Ps.l (rf j)) haN | exact get_rwE (x := Ps.l (rf f)) hf2 (by split <;> rfl)) ?_) | refine ShlP.mk _ (by first | exact set_rw (x := [_, _, _, _]) haN | exact set_rw (x := [_, _, _, _]) hf2 | rfl) ?_ | refine And.intro (by first | (rw [e5]; exact ⟨Int.natCast_nonneg _, by omega⟩) | exact ⟨Int.natCast_nonneg _, by omega⟩ | assumption | exact ⟨by kernel_rfl, rfl⟩ | decide | omega) ?_ | rw [e5] | refine HpP.force ?_); conv => whnf) | (intro t ht; cases t <;> conv => whnf)
   rotate_left
   ·exfalso; simp at ht; exact absurd ht (Int.not_lt.2 (Int.natCast_nonneg _))
   have hgv := swap_vl hvr haN hf2
   have hsw : ∀ j, (if j = f then [iD (rf a).w, iD (rf a).x, iD (rf a).z, iD (rf a).p] else if j = a then [iD (rf f).w, iD (rf f).x, iD (rf f).z, iD (rf f).p] else Ps.l (rf j)) = Ps.l (clrR (swapF rf a f) a c 0 j) := by
    intro j
    have e : clrR (swapF rf a f) a c 0 j = swapF rf a f j := by simp [clrR]
    rw [e]
    unfold swapF
    by_cases j1 : j = f <;> by_cases j2 : j = a
    ·subst j1 j2; rw [if_pos rfl, if_pos rfl]; rfl
    ·rw [if_pos j1, if_neg j2, if_pos j1]; rfl
    ·rw [if_neg j1, if_pos j2, if_pos j2]; rfl
    ·rw [if_neg j1, if_neg j2, if_neg j2, if_neg j1]
   generalize swapF rf a f = g at hnx hgv hsw
   refine call_walk pok Tryz.func191 chk191 ?_
   conv => whnf
   repeat' first | (refine LookP.mk _ rfl ?_; conv => whnf)
   refine for_use pok (fun k => ⟨[(1, .d (iD a)), (2, .ptr 3 1 0 0), (3, .ptr 5 2 0 0), (7, .d (iD l.length)), (8, .d (iD k))], [(0, some (.arr 2 [[.d (iD w), .d (rowsD l t)]])), (1, some (.arr 2 [[.d (iD 0), .d (.sl [] true)]])), (2, some (dblk 4 ((List.range l.length).map fun j => (clrR g a c k j).l))), (3, some (.arr 1 [[.sl 2 4 0 l.length l.length true]])), (5, some (.arr 2 [[.d (iD (c % 2 : Nat)), .d (iD (c / 2 : Nat))]]))], 6⟩) (l.length) (fun _ => True) (trivial) ?_ (by kernel_rfl) ?_ ?_
   ·refine keep_env (by first | exact Nat.zero_le _ | exact Nat.le_of_ble_eq_true rfl) ?_ ?_ trivial
    ·repeat' first | exact trivial | refine ⟨⟨by first | rfl | assumption, rfl⟩, ?_⟩
    ·repeat' first | exact trivial | refine ⟨⟨ltB rfl, _, rfl, by first | rfl | assumption | exact congrArg some (psB_congr hsw), by first | exact below1 rfl | exact below_dblk _ _ _ | exact below_arr rfl⟩, ?_⟩
   ·intro k A_k h_k I_k N_k
    have e_k : iadd .i64 (k : Int) 1 = ((k + 1 : Nat) : Int) := iadd_nat (by first | omega | (simp at *; omega))
    have hra := clrR_a g a c k
    have hrk := clrR_ge g a c k k (Nat.le_refl _)
    have hset := @clrR_set g a c k
    have hsame := @clrR_same g a c k
    have hh := has192 (G := G) c (g k)
    have hb : bitB (g k) c = (bitI (if (c : Int) % 2 = 0 then (g k).x else (g k).z) ((c : Int) / 2) == 1) := by
     unfold bitB; rw [Bool.eq_iff_iff]; simp
    have ht2 := times183v (G := G) hw (g k) [g a] true (by simp) (hgv k h_k) (by intro r hr; rw [List.mem_singleton.1 hr]; exact hgv a haN)
    rw [← hrk] at hh hb
    rw [← hra, ← hrk] at ht2
    generalize hr : clrR g a c k = r at hra hrk hset hsame hh hb ht2
    generalize bitI (if (c : Int) % 2 = 0 then (r k).x else (r k).z) ((c : Int) / 2) = b at hh hb
    have hm : ([r a].foldl mulS (r k)) = mulS (r k) (r a) := rfl
    rw [hm] at ht2
    rw [← hra, ← hrk] at hset
    generalize mulS (r k) (r a) = m at ht2 hset
    conv => whnf
    repeat (refine LookP.mk _ rfl ?_; conv => whnf)
    intro t ht
    cases t
    ·exfalso; first | (simp at ht; done) | (simp at ht; omega)
    conv => whnf
    repeat' first | ((first | refine LookP.mk _ (by first | rfl | exact get_rw (f := fun j => Ps.l (r j)) h_k | exact get_rw (f := fun j => Ps.l (r j)) haN) ?_ | refine ShlP.mk _ (by first | exact set_rw (x := [_, _, _, _]) h_k | (simp only [List.set, over, List.take, List.drop, List.append_eq, List.nil_append, List.cons_append, List.length]; rfl) | rfl) ?_ | refine And.intro (by first | exact ⟨Int.natCast_nonneg _, by omega⟩ | assumption | exact ⟨by kernel_rfl, rfl⟩ | decide | omega) ?_ | refine pc_head hh ?_ | refine pc_head ht2 ?_ | refine HpP.force ?_); conv => whnf) | (intro t ht; cases t <;> conv => whnf)
    ·have hka : k = a := by simp at ht; omega
     have e : clrR g a c (k + 1) = r := hsame fun q => q.1 hka
     refine N_k _ ?_ ?_
     ·first | trivial | assumption | omega
     ·refine keep_env (by first | exact Nat.zero_le _ | exact Nat.le_of_ble_eq_true rfl) ?_ ?_ trivial
      ·repeat' first | exact trivial | refine ⟨⟨by first | rfl | assumption | exact congrArg (fun n => AV.d (iD n)) e_k, rfl⟩, ?_⟩
      ·repeat' first | exact trivial | refine ⟨⟨ltB rfl, _, rfl, by first | rfl | assumption | (rw [e]; rfl), by first | exact below1 rfl | exact below_dblk _ _ _ | exact below_arr rfl⟩, ?_⟩
    ·have e : clrR g a c (k + 1) = r := by
      refine hsame fun q => ?_
      rw [← hrk, hb] at q
      rw [q.2] at ht; cases ht
     refine N_k _ ?_ ?_
     ·first | trivial | assumption | omega
     ·refine keep_env (by first | exact Nat.zero_le _ | exact Nat.le_of_ble_eq_true rfl) ?_ ?_ trivial
      ·repeat' first | exact trivial | refine ⟨⟨by first | rfl | assumption | exact congrArg (fun n => AV.d (iD n)) e_k, rfl⟩, ?_⟩
      ·repeat' first | exact trivial | refine ⟨⟨ltB rfl, _, rfl, by first | rfl | assumption | (rw [e]; rfl), by first | exact below1 rfl | exact below_dblk _ _ _ | exact below_arr rfl⟩, ?_⟩
    ·have hka : k ≠ a := by intro e; subst e; simp at *
     have e := hset hka (by rw [hb]; exact ht)
     have hblk : ∀ j, (if j = k then [iD m.w, iD m.x, iD m.z, iD m.p] else Ps.l (r j)) = Ps.l (clrR g a c (k + 1) j) := by
      intro j
      rw [e]
      dsimp only
      split <;> rfl
     refine N_k _ ?_ ?_
     ·first | trivial | assumption | omega
     ·refine keep_env (by first | exact Nat.zero_le _ | exact Nat.le_of_ble_eq_true rfl) ?_ ?_ trivial
      ·repeat' first | exact trivial | refine ⟨⟨by first | rfl | assumption | exact congrArg (fun n => AV.d (iD n)) e_k, rfl⟩, ?_⟩
      ·repeat' first | exact trivial | refine ⟨⟨ltB rfl, _, rfl, by first | rfl | assumption | exact congrArg some (psB_congr hblk), by first | exact below1 rfl | exact below_dblk _ _ _ | exact below_arr rfl⟩, ?_⟩
   ·intro A_last I_last
    conv => whnf
    repeat (refine LookP.mk _ rfl ?_; conv => whnf)
    intro t ht
    cases t
    rotate_left
    ·exfalso; first | (simp at ht; done) | (simp at ht; omega)
    conv => whnf
    skip
    refine N_c _ ?_ ?_
    ·first | trivial | assumption | omega
    ·refine keep_env (by first | exact Nat.zero_le _ | exact Nat.le_of_ble_eq_true rfl) ?_ ?_ trivial
     ·repeat' first | exact trivial | refine ⟨⟨by first | rfl | assumption | exact congrArg (fun n => AV.d (iD n)) e_c | (rw [hnx]; exact congrArg (fun n => AV.d (iD n)) e6) | (rw [hnx]; rfl), rfl⟩, ?_⟩
     ·repeat' first | exact trivial | refine ⟨⟨ltB rfl, _, rfl, by first | rfl | assumption | (rw [hnx]; rfl), by first | exact below1 rfl | exact below_dblk _ _ _ | exact below_arr rfl⟩, ?_⟩
 ·intro A_last I_last
  conv => whnf
  repeat (refine LookP.mk _ rfl ?_; conv => whnf)
  intro t ht
  cases t
  rotate_left
  ·exfalso; first | (simp at ht; done) | (simp at ht; omega)
  conv => whnf
  repeat' first | ((first | refine LookP.mk _ rfl ?_ | refine ShlP.mk _ (by first | (simp only [List.set, over, List.take, List.drop, List.append_eq, List.nil_append, List.cons_append, List.length]; rfl) | rfl) ?_ | refine HpP.force ?_); conv => whnf)
  refine fin ⟨rfl, ?_⟩
  have e : (redRows l (2 * w)).map Ps.l = (List.range l.length).map fun j => Ps.l ((redN l (2 * w)).1 j) := by
   unfold redRows; rw [List.map_map]; rfl
  rw [e]; rfl
theorem canon105o {w : Nat} (hw : 1 ≤ w ∧ w ≤ 12) (l : List Ps) (t : Bool) (hn : l.length ≤ 1000) (hv : ∀ q, q ∈ l → Vl w q) : PO Pr G 105 [stD w l t] (.agg [.d (iD w), .sl 0 4 0 l.length l.length true]) [(0, some (dblk 4 ((redRows l (2 * w)).map Ps.l)))] 1 := by
 refine ⟨isFn_of Tryz.func105 chk105, acall_sub (canon105a hw l t hn hv) ?_⟩
 rintro v H n ⟨rfl, hg⟩
 refine ⟨_, _, 1, ?_, rfl, rfl, rfl⟩
 first | refine ren_env [(0, 2)] ?_ ?_ ?_ trivial | refine ren_envB [(0, 2)] rfl rfl ?_ ?_ ?_ trivial
 ·repeat' first | exact trivial | refine ⟨⟨by first | rfl | assumption, rfl⟩, ?_⟩
 ·repeat' first | exact trivial | refine ⟨⟨ltB rfl, _, rfl, by first | rfl | assumption | exact get_ren rfl (by first | rfl | assumption | exact get_ren rfl hg) | exact get_ren rfl hg, by first | exact below1 rfl | exact below_dblk _ _ _ | exact below_arr rfl⟩, ?_⟩
 ·repeat' first | exact trivial | (refine And.intro ?_ ?_) | (exact fun _ => rfl) | (exact fun h => absurd h (Nat.ne_of_beq_eq_false rfl))
end Go.Tz
namespace Go.Tz
open Go Go.AL Go.Ma
def vec (q : Ps) : Nat := (nf q).2
theorem vec_in {w : Nat} (hw : w ≤ 12) {q : Ps} (h : Vl w q) : inV w (vec q) := by
 obtain ⟨X, Z, P, rfl, h1, h2, h3⟩ := h
 have hp : (2 : Nat) ^ w ≤ 2 ^ 12 := Nat.pow_le_pow_right (by decide) hw
 unfold vec
 rw [nf_mk]
 refine inV_bits _ fun j hj => ?_
 dsimp only
 rw [vec_bit (by omega)]
 split
 ·exact Nat.testBit_lt_two_pow (Nat.lt_of_lt_of_le h1 (Nat.pow_le_pow_right (by decide) (by omega)))
 ·exact Nat.testBit_lt_two_pow (Nat.lt_of_lt_of_le h2 (Nat.pow_le_pow_right (by decide) (by omega)))
theorem vec_lt {w : Nat} (hw : w ≤ 12) {q : Ps} (h : Vl w q) : vec q < 2 ^ 24 := sp_lt _ (U_lt hw) _ (vec_in hw h)
theorem vec_mul {w : Nat} (hw : w ≤ 12) {q r : Ps} (hq : Vl w q) (hr : Vl w r) : vec (mulS q r) = vec q ^^^ vec r := by
 unfold vec; rw [nf_mul hw hq hr]; rfl
theorem bitB_cb {w c : Nat} (hw : w ≤ 12) (hc : c < 2 * w) {q : Ps} (h : Vl w q) : bitB q c = cb (vec q) c := by
 obtain ⟨X, Z, P, rfl, h1, h2, h3⟩ := h
 have hp : (2 : Nat) ^ w ≤ 2 ^ 12 := Nat.pow_le_pow_right (by decide) hw
 unfold bitB cb pos vec bitI mk
 rw [show nf ⟨(w : Int), (X : Int), (Z : Int), (P : Int)⟩ = _ from nf_mk w X Z P]
 dsimp only
 have e2 : (c : Int) / 2 = ((c / 2 : Nat) : Int) := by omega
 rw [e2]
 by_cases e : c % 2 = 0
 ·rw [if_pos (show (c : Int) % 2 = 0 by omega), if_pos e, bit_nat (by omega) (by omega), vec_bit (by omega), if_pos (show c / 2 < 12 by omega)]
  cases X.testBit (c / 2) <;> simp
 ·rw [if_neg (show ¬ (c : Int) % 2 = 0 by omega), if_neg e, bit_nat (by omega) (by omega), vec_bit (by omega), if_neg (show ¬ 12 + c / 2 < 12 by omega), show 12 + c / 2 - 12 = c / 2 by omega]
  cases Z.testBit (c / 2) <;> simp
theorem rr_congr {n c a : Nat} {R R' pc : Nat → Nat} (h : RR n c a R pc) (e : ∀ j, j < n → R j = R' j) : RR n c a R' pc := by
 have ha := h.an
 refine ⟨h.an, h.lt, h.mono, fun j hj => ?_, fun i j hi hj hij => ?_, fun j d hj hd => ?_, fun j d h1 h2 h3 => ?_⟩
 ·rw [← e j (by omega)]; exact h.own j hj
 ·rw [← e i hi]; exact h.other i j hi hj hij
 ·rw [← e j (by omega)]; exact h.lead j d hj hd
 ·rw [← e j h2]; exact h.zero j d h1 h2 h3
def rfv (l : List Ps) (c j : Nat) : Nat := vec ((redN l c).1 j)
theorem rfv_step {w : Nat} (hw : w ≤ 12) {l : List Ps} (hv : ∀ q, q ∈ l → Vl w q) {c : Nat} (hc : c < 2 * w) :
  (fndO (redN l c).1 l.length c (redN l c).2.2 = none ∧ redN l (c + 1) = redN l c ∧ ∀ j, (redN l c).2.2 ≤ j → j < l.length → cb (rfv l c j) c = false) ∨
  ∃ f, (redN l c).2.2 ≤ f ∧ f < l.length ∧ (redN l (c + 1)).2.2 = (redN l c).2.2 + 1 ∧ (redN l (c + 1)).2.1 = clrB (swapF (redN l c).1 (redN l c).2.2 f) (swapF (redN l c).2.1 (redN l c).2.2 f) l.length (redN l c).2.2 c l.length ∧ cb (rfv l c f) c = true ∧
   ∀ j, j < l.length → rfv l (c + 1) j = clr (swp (rfv l c) (redN l c).2.2 f) (redN l c).2.2 c j := by
 obtain ⟨q1, q2⟩ := red_vl hw hv c
 cases hf : fndO (redN l c).1 l.length c (redN l c).2.2 with
 | none =>
  refine .inl ⟨rfl, by simp only [redN, colS, hf], fun j h1 h2 => ?_⟩
  have := fndO_none hf j h1 h2
  rw [bitB_cb hw hc (q1 j h2)] at this
  exact this
 | some f =>
  obtain ⟨h1, h2, h3, h4⟩ := fndO_some hf
  have han : (redN l c).2.2 < l.length := by omega
  have e1 : redN l (c + 1) = (clrR (swapF (redN l c).1 (redN l c).2.2 f) (redN l c).2.2 c l.length, clrB (swapF (redN l c).1 (redN l c).2.2 f) (swapF (redN l c).2.1 (redN l c).2.2 f) l.length (redN l c).2.2 c l.length, (redN l c).2.2 + 1) := by simp only [redN, colS, hf]
  rw [bitB_cb hw hc (q1 f h2)] at h3
  refine .inr ⟨f, h1, h2, by rw [e1], by rw [e1], h3, fun j hj => ?_⟩
  have hs := swap_vl q1 han h2
  have sw : ∀ j, vec (swapF (redN l c).1 (redN l c).2.2 f j) = swp (rfv l c) (redN l c).2.2 f j := by
   intro j
   unfold swapF swp rfv
   split
   ·rfl
   ·split <;> rfl
  show vec ((redN l (c + 1)).1 j) = _
  rw [e1]
  dsimp only
  unfold clrR clr
  rw [← sw j, ← sw (redN l c).2.2, ← bitB_cb hw hc (hs j hj)]
  by_cases e : j ≠ (redN l c).2.2 ∧ bitB (swapF (redN l c).1 (redN l c).2.2 f j) c = true
  ·rw [if_pos ⟨hj, e⟩, if_pos e, vec_mul hw (hs j hj) (hs _ han)]
  ·rw [if_neg (fun q => e q.2), if_neg e]
theorem rfv_rr {w : Nat} (hw : w ≤ 12) {l : List Ps} (hv : ∀ q, q ∈ l → Vl w q) : ∀ {c : Nat}, c ≤ 2 * w → ∃ pc, RR l.length c (redN l c).2.2 (rfv l c) pc
 | 0, _ => ⟨_, rr_zero _ _⟩
 | c + 1, hc => by
  obtain ⟨pc, h⟩ := rfv_rr hw hv (c := c) (by omega)
  rcases rfv_step hw hv (c := c) (by omega) with ⟨_, h2, h3⟩ | ⟨f, f1, f2, f3, _, f4, f5⟩
  ·refine ⟨pc, ?_⟩
   have e : rfv l (c + 1) = rfv l c := by funext j; unfold rfv; rw [h2]
   rw [e, h2]
   exact rr_skip h h3
  ·refine ⟨fun j => if j = (redN l c).2.2 then c else pc j, ?_⟩
   rw [f3]
   refine rr_congr (rr_clr (rr_swap h f1 f2) (by omega) ?_) fun j hj => (f5 j hj).symm
   unfold swp; rw [if_pos rfl]; exact f4
theorem span_clr {n a : Nat} {R : Nat → Nat} (ha : a < n) (t : Nat → Bool) (v : Nat) : spB (revl (fun j => if j ≠ a ∧ t j = true then R j ^^^ R a else R j) n) v = spB (revl R n) v := by
 have m1 : ∀ j, j < n → spB (revl R n) (R j) = true := fun j hj => sp_mem _ _ (revl_mem.2 ⟨j, hj, rfl⟩)
 have m2 : ∀ j, j < n → spB (revl (fun j => if j ≠ a ∧ t j = true then R j ^^^ R a else R j) n) (if j ≠ a ∧ t j = true then R j ^^^ R a else R j) = true := fun j hj => sp_mem _ _ (revl_mem.2 ⟨j, hj, rfl⟩)
 have ma := m2 a ha
 rw [if_neg (by simp)] at ma
 refine sp_ext (fun x hx => ?_) (fun x hx => ?_) v
 ·obtain ⟨j, hj, rfl⟩ := revl_mem.1 hx
  split
  ·exact sp_xor _ _ _ (m1 j hj) (m1 a ha)
  ·exact m1 j hj
 ·obtain ⟨j, hj, rfl⟩ := revl_mem.1 hx
  have := m2 j hj
  split at this
  ·have h2 := sp_xor _ _ _ this ma
   rwa [xor_cancel] at h2
  ·exact this
theorem span_swp {n a f : Nat} {R : Nat → Nat} (ha : a < n) (hf : f < n) (v : Nat) : spB (revl (swp R a f) n) v = spB (revl R n) v := by
 refine sp_ext (fun x hx => ?_) (fun x hx => ?_) v
 ·obtain ⟨j, hj, rfl⟩ := revl_mem.1 hx
  obtain ⟨i, hi, e, _⟩ := swp_mem (f := R) ha hf hj
  rw [e]; exact sp_mem _ _ (revl_mem.2 ⟨i, hi, rfl⟩)
 ·obtain ⟨j, hj, rfl⟩ := revl_mem.1 hx
  by_cases e1 : j = a
  ·refine sp_mem _ _ (revl_mem.2 ⟨f, hf, ?_⟩)
   unfold swp
   by_cases e2 : f = a
   ·rw [if_pos e2, e1, e2]
   ·rw [if_neg e2, if_pos rfl, e1]
  ·by_cases e2 : j = f
   ·refine sp_mem _ _ (revl_mem.2 ⟨a, ha, ?_⟩)
    unfold swp; rw [if_pos rfl, e2]
   ·refine sp_mem _ _ (revl_mem.2 ⟨j, hj, ?_⟩)
    unfold swp; rw [if_neg e1, if_neg e2]
theorem revl_congr {r r' : Nat → Nat} : ∀ {n : Nat}, (∀ j, j < n → r j = r' j) → revl r n = revl r' n
 | 0, _ => rfl
 | n + 1, h => by simp only [revl]; rw [h n (by omega), revl_congr fun j hj => h j (by omega)]
theorem rfv_span {w : Nat} (hw : w ≤ 12) {l : List Ps} (hv : ∀ q, q ∈ l → Vl w q) (v : Nat) : ∀ {c : Nat}, c ≤ 2 * w → spB (revl (rfv l c) l.length) v = spB (revl (rfv l 0) l.length) v
 | 0, _ => rfl
 | c + 1, hc => by
  rw [← rfv_span hw hv v (c := c) (by omega)]
  rcases rfv_step hw hv (c := c) (by omega) with ⟨_, h2, h3⟩ | ⟨f, f1, f2, f3, _, f4, f5⟩
  ·have e : rfv l (c + 1) = rfv l c := by funext j; unfold rfv; rw [h2]
   rw [e]
  ·have ha : (redN l c).2.2 < l.length := by omega
   rw [revl_congr f5, ← span_swp (R := rfv l c) ha f2 v]
   exact span_clr (R := swp (rfv l c) (redN l c).2.2 f) ha (fun j => cb (swp (rfv l c) (redN l c).2.2 f j) c) v
theorem rfv_piv {w : Nat} (hw : w ≤ 12) {l : List Ps} (hv : ∀ q, q ∈ l → Vl w q) : ∃ pc, RR l.length (2 * w) (redN l (2 * w)).2.2 (rfv l (2 * w)) pc ∧ Piv l.length (rfv l (2 * w)) (fun i => pos (pc i)) fun i => decide (i < (redN l (2 * w)).2.2) := by
 obtain ⟨pc, h⟩ := rfv_rr hw hv (Nat.le_refl _)
 exact ⟨pc, h, rr_piv h fun j hj hz => cb_zero hw (vec_in hw ((red_vl hw hv _).1 j hj)) hz⟩
def rwv (l : List Ps) (m j : Nat) : Nat := (redW (rowN l) m j).1
theorem rwv_0 (l : List Ps) {j : Nat} (hj : j < l.length) : rwv l 0 j = rfv l 0 j := by
 unfold rwv rfv
 have h2 : j < (rowN l).length := by rw [rowN_len]; exact hj
 simp only [redW, redN, List.getD_eq_getElem?_getD, List.getElem?_eq_getElem hj, List.getElem?_eq_getElem h2, Option.getD_some]
 simp [rowN, vec]
theorem rwv_step (l : List Ps) (m : Nat) : rwv l (m + 1) = if rwv l m m ≠ 0 then (fun k => if k < (rowN l).length ∧ k ≠ m ∧ (rwv l m k).testBit (lowN (rwv l m m)) = true then rwv l m k ^^^ rwv l m m else rwv l m k) else rwv l m := by
 funext k
 unfold rwv
 simp only [redW]
 split
 ·unfold clrW
  dsimp only
  split <;> rfl
 ·rfl
theorem rwv_span {w : Nat} (hw : w ≤ 12) {l : List Ps} (hv : ∀ q, q ∈ l → Vl w q) (hn : l.length ≤ 24) (v : Nat) : ∀ {m : Nat}, m ≤ l.length → spB (revl (rwv l m) l.length) v = spB (revl (rfv l 0) l.length) v
 | 0, _ => by rw [revl_congr fun j hj => rwv_0 l hj]
 | m + 1, hm => by
  rw [← rwv_span hw hv hn v (m := m) (by omega), rwv_step]
  split
  ·rw [← span_clr (R := rwv l m) (a := m) (by omega) (fun k => (rwv l m k).testBit (lowN (rwv l m m))) v]
   congr 1
   refine revl_congr fun j hj => ?_
   have : j < (rowN l).length := by rw [rowN_len]; exact hj
   simp only [this, true_and]
  ·rfl
theorem rwv_piv {w : Nat} (hw : w ≤ 12) {l : List Ps} (hv : ∀ q, q ∈ l → Vl w q) (hn : l.length ≤ 24) : ∀ {m : Nat}, m ≤ l.length → ∃ p : Nat → Nat, (∀ j, j < m → rwv l m j ≠ 0 → (rwv l m j).testBit (p j) = true) ∧ ∀ i j, i < l.length → j < m → i ≠ j → rwv l m j ≠ 0 → (rwv l m i).testBit (p j) = false
 | 0, _ => ⟨fun _ => 0, by omega, by omega⟩
 | m + 1, hm => by
  obtain ⟨p, h1, h2⟩ := rwv_piv hw hv hn (m := m) (by omega)
  have hlt := redW_lt (rowN_lt hw hv hn) m
  rw [rwv_step]
  by_cases h0 : rwv l m m ≠ 0
  ·rw [if_pos h0]
   obtain ⟨hl, hb, _⟩ := low_spec h0 (hlt m).1
   generalize lowN (rwv l m m) = b at hl hb
   have hmj : ∀ j, j < m → rwv l m j ≠ 0 → (rwv l m m).testBit (p j) = false := fun j hj hz => h2 m j (by omega) hj (by omega) hz
   have nz : ∀ j, j < m → (if j < (rowN l).length ∧ j ≠ m ∧ (rwv l m j).testBit b = true then rwv l m j ^^^ rwv l m m else rwv l m j) ≠ 0 → rwv l m j ≠ 0 := by
    intro j hj h e
    rw [e] at h
    simp at h
   refine ⟨fun j => if j = m then b else p j, fun j hj hz => ?_, fun i j hi hj hij hz => ?_⟩
   ·dsimp only at hz ⊢
    by_cases e : j = m
    ·subst e
     rw [if_pos rfl, if_neg (by simp)]; exact hb
    ·rw [if_neg e]
     have hj' : j < m := by omega
     have hz' := nz j hj' hz
     split
     ·rw [Nat.testBit_xor, h1 j hj' hz', hmj j hj' hz']; rfl
     ·exact h1 j hj' hz'
   ·dsimp only at hz ⊢
    have hil : i < (rowN l).length := by rw [rowN_len]; exact hi
    by_cases e : j = m
    ·subst e
     rw [if_pos rfl]
     by_cases c : (rwv l j i).testBit b = true
     ·rw [if_pos ⟨hil, hij, c⟩, Nat.testBit_xor, c, hb]; rfl
     ·rw [if_neg fun q => c q.2.2]; simpa using c
    ·rw [if_neg e]
     have hj' : j < m := by omega
     have hz' := nz j hj' hz
     split
     ·rw [Nat.testBit_xor, h2 i j hi hj' hij hz', hmj j hj' hz']; rfl
     ·exact h2 i j hi hj' hij hz'
  ·rw [if_neg h0]
   simp only [ne_eq, Decidable.not_not] at h0
   refine ⟨p, fun j hj hz => ?_, fun i j hi hj hij hz => ?_⟩
   ·exact h1 j (by rcases Nat.lt_or_ge j m with q | q; exact q; exact absurd (by rw [show j = m by omega]; exact h0) hz) hz
   ·exact h2 i j hi (by rcases Nat.lt_or_ge j m with q | q; exact q; exact absurd (by rw [show j = m by omega]; exact h0) hz) hij hz
theorem rwv_Piv {w : Nat} (hw : w ≤ 12) {l : List Ps} (hv : ∀ q, q ∈ l → Vl w q) (hn : l.length ≤ 24) : ∃ p, Piv l.length (rwv l l.length) p fun i => decide (rwv l l.length i ≠ 0) := by
 obtain ⟨p, h1, h2⟩ := rwv_piv hw hv hn (Nat.le_refl _)
 exact ⟨p, fun i hi ha => h1 i hi (by simpa using ha), fun i j hi hj hij ha => h2 i j hi hj hij (by simpa using ha), fun i _ ha => by simpa using ha⟩
theorem lead_nz {w : Nat} (hw : w ≤ 12) {q : Ps} (h : Vl w q) : 0 ≤ leadI q ↔ vec q ≠ 0 := by
 have hww := vl_w h
 have key : ∀ f k, k + f = 2 * w → (0 ≤ leadF q f k ↔ ∃ d, k ≤ d ∧ d < 2 * w ∧ bitB q d = true) := by
  intro f
  induction f with
  | zero =>
   intro k hk
   constructor
   ·intro h; simp [leadF] at h
   ·rintro ⟨d, h1, h2, _⟩; omega
  | succ f ih =>
   intro k hk
   simp only [leadF]
   by_cases hb : bitB q k = true
   ·rw [if_pos hb]
    exact ⟨fun _ => ⟨k, Nat.le_refl _, by omega, hb⟩, fun _ => by omega⟩
   ·rw [if_neg hb, ih (k + 1) (by omega)]
    constructor
    ·rintro ⟨d, h1, h2, h3⟩; exact ⟨d, by omega, h2, h3⟩
    ·rintro ⟨d, h1, h2, h3⟩
     refine ⟨d, ?_, h2, h3⟩
     rcases Nat.lt_or_ge k d with e | e
     ·omega
     ·have : d = k := by omega
      subst this; exact absurd h3 hb
 unfold leadI
 rw [hww, Int.toNat_natCast, key _ 0 (by omega)]
 constructor
 ·rintro ⟨d, _, h2, h3⟩ e
  rw [bitB_cb hw h2 h, e] at h3
  simp [cb] at h3
 ·intro hz
  refine Classical.byContradiction fun hn => hz (cb_zero hw (vec_in hw h) fun d hd => ?_)
  rw [← bitB_cb hw hd h]
  cases e : bitB q d with
  | false => rfl
  | true => exact absurd ⟨d, Nat.zero_le _, hd, e⟩ hn
theorem cnt_countP {act : Nat → Bool} : ∀ n, Ma.cnt act n = (List.range n).countP act
 | 0 => rfl
 | n + 1 => by
  rw [List.range_succ, List.countP_append, ← cnt_countP n]
  simp only [Ma.cnt, List.countP_singleton]
  cases act n <;> rfl
theorem rank_rk {w : Nat} (hw : w ≤ 12) {l : List Ps} (hv : ∀ q, q ∈ l → Vl w q) : rankN (redRows l (2 * w)) = rk (revl (rfv l 0) l.length) := by
 obtain ⟨pc, h1, h2⟩ := rfv_piv hw hv
 have hb : ∀ c, ∀ a, a ∈ revl (rfv l c) l.length → a < 2 ^ 24 := by
  intro c a ha
  obtain ⟨j, hj, rfl⟩ := revl_mem.1 ha
  exact vec_lt hw ((red_vl hw hv c).1 j hj)
 have e1 := rk_eq (hb (2 * w)) (hb 0) fun v => rfv_span hw hv v (Nat.le_refl _)
 rw [← e1, rk_piv h2]
 unfold rankN redRows
 rw [List.countP_map, cnt_countP]
 refine List.countP_congr fun j hj => ?_
 have hjn := List.mem_range.1 hj
 have hvl := (red_vl hw hv (2 * w)).1 j hjn
 simp only [Function.comp, decide_eq_true_eq]
 rw [lead_nz hw hvl]
 constructor
 ·intro hz
  refine Classical.byContradiction fun hn => hz (h2.zero j hjn (by simpa using hn))
 ·intro hlt e
  have := h2.own j hjn (by simpa using hlt)
  rw [show rfv l (2 * w) j = 0 from e] at this
  simp at this
theorem gone_rk {w : Nat} (hw : w ≤ 12) {l : List Ps} (hv : ∀ q, q ∈ l → Vl w q) (hn : l.length ≤ 24) : (gnW (redF l) l.length).length = 0 ↔ rk (revl (rfv l 0) l.length) = l.length := by
 obtain ⟨p, h2⟩ := rwv_Piv hw hv hn
 have hb : ∀ a, a ∈ revl (rfv l 0) l.length → a < 2 ^ 24 := by
  intro a ha
  obtain ⟨j, hj, rfl⟩ := revl_mem.1 ha
  exact vec_lt hw ((red_vl hw hv 0).1 j hj)
 have hb2 : ∀ a, a ∈ revl (rwv l l.length) l.length → a < 2 ^ 24 := by
  intro a ha
  obtain ⟨j, hj, rfl⟩ := revl_mem.1 ha
  exact (redW_lt (rowN_lt hw hv hn) _ j).1
 have e1 := rk_eq hb2 hb fun v => rwv_span hw hv hn v (Nat.le_refl _)
 rw [← e1, rk_piv h2, cnt_all]
 unfold gnW redF
 rw [List.length_eq_zero_iff, List.filter_eq_nil_iff]
 constructor
 ·intro h i hi
  have := h _ (List.mem_map.2 ⟨i, List.mem_range.2 hi, rfl⟩)
  exact decide_eq_true (by simpa [rwv] using this)
 ·intro h r hr
  obtain ⟨i, hi, rfl⟩ := List.mem_map.1 hr
  have := of_decide_eq_true (h i (List.mem_range.1 hi))
  simpa [rwv] using this
theorem ind_iff {w : Nat} (hw : w ≤ 12) {l : List Ps} (hv : ∀ q, q ∈ l → Vl w q) (hn : l.length ≤ 24) : (gnW (redF l) l.length).length = 0 ↔ rankN (redRows l (2 * w)) = l.length := by
 rw [gone_rk hw hv hn, rank_rk hw hv]
end Go.Tz
namespace Go.Tz
open Go Go.AL Go.Proofs
def zeroS (w : Nat) : List Ps := (List.range w).map fun i => ⟨w, 0, ((2 ^ i : Nat) : Int), 0⟩
end Go.Tz
namespace Go.Tz
open Go Go.AL Go.Proofs
variable {G : Nat → Option (List D)}
def badAt (l : List Ps) (i : Nat) : Bool := match l[i]? with
 | some q => decide (q.p.tmod 2 ≠ 0) || (l.take i).any fun r => decide (mulS q r ≠ mulS r q)
 | none => false
def badS (l : List Ps) : Bool := (List.range l.length).any (badAt l)
def chkS (w : Int) (l : List Ps) : Int :=
 if offB w 1 12 then 3 else if (l.length : Int) ≠ w then 2 else match l.find? fun q => decide (pchkI q ≠ 0) with
 | some q => pchkI q
 | none => if l.any fun q => decide (q.w ≠ w) then 7 else if badS l then 14 else if rankN (redRows l (2 * w.toNat)) = l.length then 0 else 14
theorem find_at {l : List Ps} {p : Ps → Bool} {i : Nat} (h : i < l.length) (hz : ∀ q, q ∈ l.take i → p q = false) (hp : p l[i] = true) : l.find? p = some l[i] := by
 have e : (l.take i ++ l[i] :: l.drop (i + 1)).find? p = some l[i] := by
  rw [List.find?_append, List.find?_eq_none.2 (by intro q hq; simp [hz q hq]), List.find?_cons_of_pos hp]; rfl
 have e2 : l.take i ++ l[i] :: l.drop (i + 1) = l := by rw [List.getElem_cons_drop, List.take_append_drop]
 rw [e2] at e
 exact e
theorem badAt_lt {l : List Ps} {i : Nat} (h : i < l.length) : badAt l i = (decide (l[i].p.tmod 2 ≠ 0) || (l.take i).any fun r => decide (mulS l[i] r ≠ mulS r l[i])) := by
 unfold badAt; rw [List.getElem?_eq_getElem h]
theorem badS_of {l : List Ps} {i : Nat} (h : i < l.length) (hb : badAt l i = true) : badS l = true := List.any_eq_true.2 ⟨i, List.mem_range.2 h, hb⟩
end Go.Tz
namespace Go.Tz
open Go Go.AL Go.Proofs
variable {G : Nat → Option (List D)}
def prodS (w : Int) (l : List Ps) : Ps := l.foldl mulS ⟨w, 0, 0, 0⟩
end Go.Tz
namespace Go.Tz
open Go Go.AL Go.Proofs Go.Ma
variable {G : Nat → Option (List D)}
theorem pck_pchk (q : Ps) : pckI q = pchkI q := by
 unfold pckI pchkI offB
 have d0 : (decide (q.w < 1) || decide (q.w > 12)) = decide (q.w < 1 ∨ q.w > 12) := by
  rw [Bool.eq_iff_iff]; simp
 rw [d0]
 simp only [decide_eq_true_eq]
 by_cases h1 : q.w < 1 ∨ q.w > 12
 ·rw [if_pos h1, if_pos h1]
 ·rw [if_neg h1, if_neg h1]
  obtain ⟨w, hw⟩ : ∃ w : Nat, q.w = w := ⟨q.w.toNat, by omega⟩
  have hw12 : 1 ≤ w ∧ w ≤ 12 := by omega
  rw [hw, pow_nat (by omega)]
  have hp : (2 : Nat) ^ w ≤ 2 ^ 12 := Nat.pow_le_pow_right (by decide) hw12.2
  have hp0 : 0 < (2 : Nat) ^ w := Nat.two_pow_pos w
  have e : isub .i64 ((2 ^ w : Nat) : Int) 1 = ((2 ^ w - 1 : Nat) : Int) := isub_nat (b := 1) (by omega) (by omega)
  rw [e]
  generalize 2 ^ w = p at hp hp0
  have e1 : (decide (q.x < 0) || decide (q.x > ((p - 1 : Nat) : Int)) || (decide (q.z < 0) || decide (q.z > ((p - 1 : Nat) : Int)))) = decide (q.x < 0 ∨ q.z < 0 ∨ q.x ≥ (p : Int) ∨ q.z ≥ (p : Int)) := by
   rw [Bool.eq_iff_iff]; simp; omega
  have e2 : (decide (q.p < 0) || decide (q.p > 3)) = decide (q.p < 0 ∨ q.p > 3) := by
   rw [Bool.eq_iff_iff]; simp
  rw [e1, e2]
  simp only [decide_eq_true_eq]
theorem vl_of {w : Nat} {q : Ps} (h : pchkI q = 0) (hw : q.w = w) : Vl w q := by
 rw [← pck_pchk] at h
 unfold pckI at h
 split at h
 ·cases h
 rename_i h1
 split at h
 ·cases h
 rename_i h2
 split at h
 ·cases h
 rename_i h3
 rw [hw] at h1 h2
 rw [pow_nat (by omega)] at h2
 refine ⟨q.x.toNat, q.z.toNat, q.p.toNat, ?_, by omega, by omega, by omega⟩
 obtain ⟨a, b, c, d⟩ := q
 simp only at hw h2 h3
 subst hw
 unfold mk
 simp only [Ps.mk.injEq, true_and]
 omega
theorem any_congr {α : Type} {p q : α → Bool} : ∀ {l : List α}, (∀ a, a ∈ l → p a = q a) → l.any p = l.any q
 | [], _ => rfl
 | a :: l, h => by
  rw [List.any_cons, List.any_cons, h a (by simp), any_congr fun b hb => h b (List.mem_cons_of_mem _ hb)]
theorem chk114 : chkFn Tryz.f114 = true := by kernel_rfl
theorem with114 {w : Nat} (hw : 1 ≤ w ∧ w ≤ 12) {q r : Ps} (hq : Vl w q) (hr : Vl w r) : PC Pr G 114 [.agg q.l, r.d] (.bool (comV q r)) := by
 have hc := commute68v (G := G) hw hq hr
 refine pc_walk pok Tryz.func114 chk114 ?_
 conv => whnf
 repeat' first | ((first | refine LookP.mk _ rfl ?_ | refine pc_use hc ?_); conv => whnf)
 exact fin rfl
theorem chk113 : chkFn Tryz.f113 = true := by kernel_rfl
theorem wire113 (q : Ps) (w : Int) (l : List Ps) (t : Bool) : PC Pr G 113 [q.d, .rop [iD w, rowsD l t] 0] (.bool (decide (q.w = w))) := by
 refine pc_walk pok Tryz.func113 chk113 ?_
 conv => whnf
 repeat' first | (refine LookP.mk _ rfl ?_; conv => whnf) | (intro t ht; cases t <;> conv => whnf)
 all_goals
  refine fin ?_
  have e : (q.w == w) = decide (q.w = w) := by rw [Bool.eq_iff_iff]; simp
  rw [← e, ht]
theorem use_rows {f : FuncId} {m : List Ps} {x : List (List D)} {t0 : Bool} {d2 : D} {b : Bool} {H : AHeap} {nx : Nat} {k : AV → AHeap → Nat → Prop} (h : ∀ t', PC Pr G f [rowsD m t', d2] (.bool b)) (e : x = m.map Ps.l) (hk : ∀ t, b = t → k (.d (.bool t)) H nx) : CallVC Pr G f [.d (.sl x t0), .d d2] H nx k := by
 subst e; exact pc_useB (h t0) hk
theorem take_rows (l : List Ps) (i : Nat) : List.take ((i : Int).toNat - 0) (List.drop 0 (List.map Ps.l l)) = (l.take i).map Ps.l := by
 rw [Int.toNat_natCast, Nat.sub_zero, List.drop_zero, List.map_take]
theorem chk36 : chkFn Tryz.f36 = true := by kernel_rfl
theorem check36 (w : Int) (l : List Ps) (t : Bool) (hn : l.length ≤ 1000) : PC Pr GG 36 [stD w l t] (iD (chkS w l)) := by
 have hev := every112 (G := GG) l t 113 [] [.rop [iD w, rowsD l t] 0] (fun q => decide (q.w = w)) hn fun q _ => wire113 q w l t
 refine pc_walk pok Tryz.func36 chk36 ?_
 conv => whnf
 repeat' first | (refine LookP.mk _ rfl ?_; conv => whnf) | (intro t ht; cases t <;> conv => whnf)
 ·have ho : offB w 1 12 = false := by simp at *; unfold offB; simp; omega
  have hw : (l.length : Int) = w := by simp at *; omega
  have how : 1 ≤ w ∧ w ≤ 12 := by simp [offB] at ho; omega
  refine for_use pok (fun i => ⟨[(1, .ptr 0 2 0 0), (28, .d (rowsD l t)), (29, .d (iD (l.map Ps.l).length)), (30, .d (iD i))], [(0, some (.arr 2 [[.d (iD w), .d (rowsD l t)]]))], 1⟩) (l.length) (fun i => ∀ q, q ∈ l.take i → pchkI q = 0) (by simp) ?_ (by kernel_rfl) ?_ ?_
  ·refine keep_env (by first | exact Nat.zero_le _ | exact Nat.le_of_ble_eq_true rfl) ?_ ?_ trivial
   ·repeat' first | exact trivial | refine ⟨⟨by first | rfl | assumption, rfl⟩, ?_⟩
   ·repeat' first | exact trivial | refine ⟨⟨ltB rfl, _, rfl, by first | rfl | assumption, by first | exact below1 rfl | exact below_dblk _ _ _ | exact below_arr rfl⟩, ?_⟩
  ·intro i A_i h_i I_i N_i
   have e_i : iadd .i64 (i : Int) 1 = ((i + 1 : Nat) : Int) := iadd_nat (by first | omega | (simp at *; omega))
   have hc := check111 (G := GG) l[i]
   rw [pck_pchk] at hc
   have hfa := find_at (p := fun q => decide (pchkI q ≠ 0)) h_i (fun q hq => by simp [I_i q hq])
   have hst : ∀ {e}, pchkI l[i] = e → e = 0 → ∀ q, q ∈ l.take (i + 1) → pchkI q = 0 := by
    intro e h1 h2 q hq
    rw [take_snoc h_i] at hq
    rcases List.mem_append.1 hq with h | h
    ·exact I_i q h
    ·rw [List.mem_singleton.1 h, h1, h2]
   have hch : pchkI l[i] ≠ 0 → chkS w l = pchkI l[i] := by
    intro h
    unfold chkS
    rw [ho, if_neg (by simp), if_neg (by simpa using hw), hfa (by simpa using h)]
   generalize hpe : pchkI l[i] = e at hc hch
   conv => whnf
   repeat (refine LookP.mk _ rfl ?_; conv => whnf)
   intro t ht
   cases t
   ·exfalso; first | (simp at ht; done) | (simp at ht; omega)
   conv => whnf
   repeat' first | ((first | refine LookP.mk _ (by first | rfl | exact get_l h_i) ?_ | refine ShlP.mk _ (by first | (simp only [List.set, over, List.take, List.drop, List.append_eq, List.nil_append, List.cons_append, List.length]; rfl) | rfl) ?_ | refine And.intro (by first | assumption | exact ⟨by kernel_rfl, rfl⟩ | decide | omega) ?_ | refine pc_use hc ?_ | refine HpP.force ?_); conv => whnf) | (intro t ht; cases t <;> conv => whnf)
   ·refine N_i _ ?_ ?_
    ·exact hst hpe (by simpa using ht)
    ·refine keep_env (by first | exact Nat.zero_le _ | exact Nat.le_of_ble_eq_true rfl) ?_ ?_ trivial
     ·repeat' first | exact trivial | refine ⟨⟨by first | rfl | assumption | exact congrArg (fun n => AV.d (iD n)) e_i, rfl⟩, ?_⟩
     ·repeat' first | exact trivial | refine ⟨⟨ltB rfl, _, rfl, by first | rfl | assumption, by first | exact below1 rfl | exact below_dblk _ _ _ | exact below_arr rfl⟩, ?_⟩
   ·refine fin ?_
    rw [hch (by simpa using ht)]
  ·intro A_last I_last
   rw [List.take_length] at I_last
   conv => whnf
   repeat (refine LookP.mk _ rfl ?_; conv => whnf)
   intro t ht
   cases t
   rotate_left
   ·exfalso; first | (simp at ht; done) | (simp at ht; omega)
   conv => whnf
   have hfi : l.find? (fun q => decide (pchkI q ≠ 0)) = none := List.find?_eq_none.2 (by
    intro q hq; simp [I_last q hq])
   repeat' first | (refine LookP.mk _ rfl ?_; conv => whnf) | (refine pc_lendcB hev rfl ?_) | (intro t ht; cases t <;> conv => whnf)
   ·refine fin ?_
    have hni : l.any (fun q => decide (q.w ≠ w)) = true := by
     obtain ⟨q, hq, h⟩ := List.all_eq_false.1 ht
     exact List.any_eq_true.2 ⟨q, hq, by simpa using h⟩
    unfold chkS
    rw [ho, if_neg (by simp), if_neg (by simpa using hw), hfi]
    dsimp only
    rw [hni, if_pos rfl]
   ·have hal := ht
    have hws : ∀ q, q ∈ l → q.w = w := fun q hq => by have := List.all_eq_true.1 hal q hq; simpa using this
    obtain ⟨W, rfl⟩ : ∃ W : Nat, w = W := ⟨w.toNat, by omega⟩
    have hW : 1 ≤ W ∧ W ≤ 12 := by omega
    have hv : ∀ q, q ∈ l → Vl W q := fun q hq => vl_of (I_last q hq) (hws q hq)
    have hni : l.any (fun q => decide (q.w ≠ W)) = false := List.any_eq_false.2 (by intro q hq; simp [hws q hq])
    have hchk : chkS W l = if badS l then 14 else if rankN (redRows l (2 * W)) = l.length then 0 else 14 := by
     unfold chkS
     rw [ho, if_neg (by simp), if_neg (by simpa using hw), hfi]
     dsimp only
     rw [hni, if_neg (by simp), Int.toNat_natCast]
    refine for_use pok (fun i => ⟨[(1, .ptr 0 2 0 0), (46, .d (rowsD l t)), (47, .d (iD (l.map Ps.l).length)), (48, .d (iD i))], [(0, some (.arr 2 [[.d (iD W), .d (rowsD l t)]]))], 1⟩) (l.length) (fun i => ∀ j, j < i → badAt l j = false) (by omega) ?_ (by kernel_rfl) ?_ ?_
    ·refine keep_env (by first | exact Nat.zero_le _ | exact Nat.le_of_ble_eq_true rfl) ?_ ?_ trivial
     ·repeat' first | exact trivial | refine ⟨⟨by first | rfl | assumption, rfl⟩, ?_⟩
     ·repeat' first | exact trivial | refine ⟨⟨ltB rfl, _, rfl, by first | rfl | assumption, by first | exact below1 rfl | exact below_dblk _ _ _ | exact below_arr rfl⟩, ?_⟩
    ·intro i A_i h_i I_i N_i
     have e_i : iadd .i64 (i : Int) 1 = ((i + 1 : Nat) : Int) := iadd_nat (by first | omega | (simp at *; omega))
     have hvi := hv _ (List.getElem_mem h_i)
     have hev2 : ∀ t', PC Pr GG 112 [rowsD (l.take i) t', .fn 114 [.agg l[i].l] []] (.bool ((l.take i).all (comV l[i]))) := fun t' =>
      every112 (l.take i) t' 114 [.agg l[i].l] [] (comV l[i]) (by rw [List.length_take]; omega) fun q hq => with114 hW hvi (hv q (List.mem_of_mem_take hq))
     have hba : badAt l i = (decide (l[i].p.tmod 2 ≠ 0) || !(l.take i).all (comV l[i])) := by
      rw [badAt_lt h_i]
      congr 1
      rw [List.not_all_eq_any_not]
      refine any_congr fun q hq => ?_
      have := com_mul hW.2 hvi (hv q (List.mem_of_mem_take hq))
      rw [← this]; simp
     have hp2 : l[i].p.tmod 2 = 0 ∨ l[i].p.tmod 2 = 1 := by
      obtain ⟨X, Z, P, he, g1, g2, g3⟩ := hvi
      rw [he]
      show (P : Int).tmod 2 = 0 ∨ (P : Int).tmod 2 = 1
      rw [Int.tmod_eq_emod_of_nonneg (by omega)]; omega
     conv => whnf
     repeat (refine LookP.mk _ rfl ?_; conv => whnf)
     intro t ht
     cases t
     ·exfalso; first | (simp at ht; done) | (simp at ht; omega)
     conv => whnf
     repeat' first | ((first | refine LookP.mk _ (by first | rfl | exact get_l h_i) ?_ | refine ShlP.mk _ (by first | (simp only [List.set, over, List.take, List.drop, List.append_eq, List.nil_append, List.cons_append, List.length]; rfl) | rfl) ?_ | refine And.intro (by first | exact ⟨Nat.zero_le _, by rw [Int.toNat_natCast, List.length_map]; omega, rows_len _⟩ | assumption | exact ⟨by kernel_rfl, rfl⟩ | decide | omega) ?_ | refine use_rows hev2 (take_rows l i) ?_ | refine HpP.force ?_); conv => whnf) | (intro t ht; cases t <;> conv => whnf)
     ·refine fin ?_
      rw [hchk, if_pos (badS_of h_i (by rw [hba, ht]; simp))]
     ·have hz : l[i].p.tmod 2 = 0 := by
       rcases hp2 with h | h
       ·exact h
       ·exfalso; simp_all
      have hbz : badAt l i = false := by rw [hba, ht, hz]; rfl
      refine N_i _ ?_ ?_
      ·(intro j hj; rcases Nat.lt_or_ge j i with h | h; exact I_i j h; rw [show j = i by omega]; exact hbz)
      ·refine keep_env (by first | exact Nat.zero_le _ | exact Nat.le_of_ble_eq_true rfl) ?_ ?_ trivial
       ·repeat' first | exact trivial | refine ⟨⟨by first | rfl | assumption | exact congrArg (fun n => AV.d (iD n)) e_i, rfl⟩, ?_⟩
       ·repeat' first | exact trivial | refine ⟨⟨ltB rfl, _, rfl, by first | rfl | assumption, by first | exact below1 rfl | exact below_dblk _ _ _ | exact below_arr rfl⟩, ?_⟩
     ·refine fin ?_
      rw [hchk, if_pos (badS_of h_i (by rw [hba]; have : l[i].p.tmod 2 = 1 := (by simpa using ht); simp [this]))]
    ·intro A_last I_last
     have hb : badS l = false := List.any_eq_false.2 (by intro j hj; rw [I_last j (List.mem_range.1 hj)]; simp)
     rw [hb, if_neg (by simp)] at hchk
     have hin := ind115 hW l t (by omega) (by omega) hv
     have hie := ind_iff hW.2 hv (by omega)
     generalize (gnW (redF l) l.length).length = gl at hin hie
     conv => whnf
     repeat (refine LookP.mk _ rfl ?_; conv => whnf)
     intro t ht
     cases t
     rotate_left
     ·exfalso; first | (simp at ht; done) | (simp at ht; omega)
     conv => whnf
     repeat' first | (refine LookP.mk _ rfl ?_; conv => whnf) | (refine pc_useB2 (hin) ?_) | (intro t ht; cases t <;> conv => whnf)
     ·refine fin ?_
      rw [hchk, if_neg fun h => by simp at ht; exact ht (hie.2 h)]
     ·refine fin ?_
      rw [hchk, if_pos (hie.1 (by simpa using ht))]
 ·refine fin ?_
  have ho : offB w 1 12 = false := by simp at *; unfold offB; simp; omega
  unfold chkS
  rw [ho, if_neg (by simp), if_pos (by simpa using ht)]
 ·refine fin ?_
  have ho : offB w 1 12 = true := by unfold offB; rw [ht]; simp
  unfold chkS
  rw [ho, if_pos rfl]
 ·refine fin ?_
  have ho : offB w 1 12 = true := by unfold offB; rw [ht]; simp
  unfold chkS
  rw [ho, if_pos rfl]
end Go.Tz
namespace Go.Tz
open Go Go.AL Go.Proofs Go.Ma
variable {G : Nat → Option (List D)}
structure SOk (w : Nat) (l : List Ps) : Prop where
 lo : 1 ≤ w
 hi : w ≤ 12
 len : l.length = w
 vl : ∀ q, q ∈ l → Vl w q
 good : badS l = false
 rank : rankN (redRows l (2 * w)) = l.length
theorem chk_ok {w : Int} {l : List Ps} (h : chkS w l = 0) : ∃ W : Nat, w = W ∧ SOk W l := by
 unfold chkS at h
 split at h
 ·cases h
 rename_i ho
 split at h
 ·cases h
 rename_i hl
 split at h
 ·rename_i q hf
  have := List.find?_some hf
  simp at this
  exact absurd h this
 rename_i hf
 split at h
 ·cases h
 rename_i hw
 split at h
 ·cases h
 rename_i hb
 split at h
 ·rename_i hr
  have ho' : 1 ≤ w ∧ w ≤ 12 := by simp [offB] at ho; omega
  obtain ⟨W, rfl⟩ : ∃ W : Nat, w = W := ⟨w.toNat, by omega⟩
  rw [Int.toNat_natCast] at hr
  refine ⟨W, rfl, by omega, by omega, by simp at hl; omega, fun q hq => ?_, by simpa using hb, hr⟩
  have h1 := List.find?_eq_none.1 hf q hq
  have h2 : q.w = W := by
   have := hw
   simp only [List.any_eq_true, not_exists] at this
   have := this q
   simp [hq] at this
   exact this
  exact vl_of (by simpa using h1) h2
 ·cases h
theorem ok_chk {w : Nat} {l : List Ps} (h : SOk w l) : chkS w l = 0 := by
 have hlo := h.lo
 have hhi := h.hi
 have e1 : offB (w : Int) 1 12 = false := by unfold offB; simp; omega
 have e2 : l.find? (fun q => decide (pchkI q ≠ 0)) = none := List.find?_eq_none.2 fun q hq => by
  rw [← pck_pchk, pck_vl ⟨hlo, hhi⟩ (h.vl q hq)]; simp
 have e3 : l.any (fun q => decide (q.w ≠ w)) = false := List.any_eq_false.2 fun q hq => by simp [vl_w (h.vl q hq)]
 unfold chkS
 rw [e1, if_neg (by simp), if_neg (by simp [h.len]), e2]
 dsimp only
 rw [e3, if_neg (by simp), h.good, if_neg (by simp), Int.toNat_natCast, if_pos h.rank]
end Go.Tz
namespace Go.Tz
open Go Go.AL Go.Proofs Go.Ma
variable {G : Nat → Option (List D)}
def rangeAt : Code → Option (Code × Code)
 | .seq c d => match rangeAt c with
  | some p => some p
  | none => rangeAt d
 | .block _ c => rangeAt c
 | .rangeFunc _ _ a b => some (a, b)
 | _ => none
noncomputable def rgA (f : Func) : Code := match f.body with
 | some c => (match rangeAt c with
  | some p => p.1
  | none => .skip)
 | none => .skip
noncomputable def rgB (f : Func) : Code := match f.body with
 | some c => (match rangeAt c with
  | some p => p.2
  | none => .skip)
 | none => .skip
def numD (l : List Nat) : List (List D) := l.map fun n : Nat => [iD (n : Int)]
end Go.Tz
namespace Go.Tz
open Go Go.AL Go.Proofs Go.Ma
variable {G : Nat → Option (List D)}
theorem mapO_d (H : AHeap) (q : Nat) (vis : List Nat) : ∀ l : List D, mapO (asDX H (q + 1) vis) (l.map AV.d) = some l
 | [] => rfl
 | d :: l => by
  have e : asDX H (q + 1) vis (.d d) = some d := rfl
  simp only [List.map_cons, mapO, e, mapO_d H q vis l]
theorem mapO_dd (H : AHeap) (q : Nat) (vis : List Nat) : ∀ l : List (List D), mapO (mapO (asDX H (q + 1) vis)) (l.map fun el : List D => el.map AV.d) = some l
 | [] => rfl
 | d :: l => by
  simp only [List.map_cons, mapO, mapO_d H q vis d, mapO_dd H q vis l]
theorem asDX_sl {H : AHeap} {q : Nat} {vis : List Nat} {nm sz N : Nat} {t : Bool} {es : List (List D)} (hg : H.get nm = some (dblk sz es)) (hN : N = es.length) : asDX H (q + 2) vis (.sl nm sz 0 N N t) = some (.sl es t) := by
 subst hN
 have e1 : Nat.ble (0 + es.length) (es.map fun el : List D => el.map AV.d).length = true := by
  rw [Nat.ble_eq, List.length_map]; omega
 have e2 : Nat.beq sz sz = true := nbeq sz
 unfold asDX
 dsimp only
 rw [hg]
 unfold dblk
 simp only [mapO_dd, e1, e2]
 simp
theorem nmSs_d : ∀ (l : List D) (t : List Nat), nmSs (l.map AV.d) t = t
 | [], _ => rfl
 | d :: l, t => by
  show AV.nmS (.d d) (nmSs (l.map AV.d) t) = t
  rw [nmSs_d l t]; rfl
theorem fold_dd (t : List Nat) : ∀ es : List (List D), (es.map fun el : List D => el.map AV.d).foldr nmSs t = t
 | [] => rfl
 | d :: es => by rw [List.map_cons, List.foldr_cons, fold_dd t es, nmSs_d]
theorem mark1 {g : Nat → Option Blk} {n sz : Nat} {es : List (List D)} (hg : g n = some (dblk sz es)) : markG g 300 [n] [] = [n] := by
 show markG g (299 + 1) [n] [] = [n]
 unfold markG
 have e : elemN n [] = false := rfl
 simp only [e, hg]
 unfold dblk
 simp only [fold_dd]
 rfl
theorem rd_call {G : Nat → Option (List D)} {env : List (Nat × AV)} {g : Nat → Option Blk} {o : Oper} {f : Operand} {args : Array Operand} {tys : Array TypeId} {n sz : Nat} {es : List (List D)} (ho : o.op = .call ⟨.value f, args, tys⟩) (hn : (evE G env f).nmS (nmSs (args.toList.map (evE G env)) []) = [n]) (hg : g n = some (dblk sz es)) : rdOf G env g o = [n] := by
 unfold rdOf
 rw [ho]
 dsimp only
 rw [hn]
 exact mark1 hg
theorem spine_rd {G : Nat → Option (List D)} {env : List (Nat × AV)} {g : Nat → Option Blk} {o : Oper} {l : List Nat} {k : List Nat → Prop} (h : rdOf G env g o = l) (hk : spine l k) : spine (rdOf G env g o) k := by
 rw [h]; exact hk
end Go.Tz
namespace Go.Tz
open Go Go.AL Go.Proofs Go.Ma
variable {G : Nat → Option (List D)}
theorem chk109 : chkFn Tryz.f109 = true := by kernel_rfl
def minB (rows : List Nat) (b : Nat) : Nat := rows.foldl (fun b r => min b (b ^^^ r)) b
def rkStep (s : List Rn × List Nat) (p : Rn) : List Rn × List Nat := if p ∈ s.1 then s else (s.1 ++ [p], if minB s.2 (p.1 + 4096 * p.2) = 0 then s.2 else s.2 ++ [minB s.2 (p.1 + 4096 * p.2)])
def rkSt (l : List Rn) (i : Nat) : List Rn × List Nat := (l.take i).foldl rkStep ([], [])
theorem rkSt_snoc {l : List Rn} {i : Nat} (h : i < l.length) : rkSt l (i + 1) = rkStep (rkSt l i) l[i] := by
 unfold rkSt
 rw [take_snoc h, List.foldl_append]; rfl
theorem minB_lt : ∀ (rows : List Nat) {b : Nat}, b < 2 ^ 24 → minB rows b < 2 ^ 24
 | [], _, h => h
 | r :: rows, b, h => minB_lt rows (b := min b (b ^^^ r)) (Nat.lt_of_le_of_lt (Nat.min_le_left _ _) h)
theorem rk_inv {l : List Rn} (hb : ∀ r, r ∈ l → r.1 < 4096 ∧ r.2 < 4096) : ∀ {i : Nat}, i ≤ l.length → (rkSt l i).2.length ≤ i ∧ ∀ r, r ∈ (rkSt l i).2 → r < 2 ^ 24
 | 0, _ => ⟨Nat.le_refl _, fun r h => by cases h⟩
 | i + 1, hi => by
  obtain ⟨h1, h2⟩ := rk_inv hb (i := i) (by omega)
  rw [rkSt_snoc (by omega)]
  have hp := hb l[i] (List.getElem_mem (by omega))
  unfold rkStep
  split
  ·exact ⟨by omega, h2⟩
  ·dsimp only
   split
   ·exact ⟨by omega, h2⟩
   ·refine ⟨by rw [List.length_append]; simp; omega, fun r hr => ?_⟩
    rcases List.mem_append.1 hr with h | h
    ·exact h2 r h
    ·rw [List.mem_singleton.1 h]; exact minB_lt _ (by omega)
def metD (m : List Rn) : List (D × D) := m.map fun q => (.agg (Rn.l q), .bool true)
def metK (m : List Rn) : List (List Int) := m.map fun q => [(q.1 : Int), (q.2 : Int)]
theorem keys_met : ∀ m : List Rn, keysD true (metD m) = some (metK m)
 | [] => rfl
 | q :: m => by
  have e : keyD true (.agg (Rn.l q)) = some [(q.1 : Int), (q.2 : Int)] := rfl
  have ih := keys_met m
  unfold metD metK at ih ⊢
  simp only [List.map_cons, keysD, e, ih]
theorem allLen_met : ∀ m : List Rn, allLen 2 (metK m) = true
 | [] => rfl
 | q :: m => by
  have ih := allLen_met m
  unfold metK at ih ⊢
  simp only [List.map_cons, allLen, ih]; rfl
theorem idx_met_some {p : Rn} : ∀ {m : List Rn} (i : Nat), p ∈ m → ∃ j, idxOf [(p.1 : Int), (p.2 : Int)] (metK m) i = some (i + j) ∧ (metD m)[j]? = some (.agg (Rn.l p), .bool true)
 | [], _, h => by cases h
 | q :: m, i, h => by
  unfold metK metD
  simp only [List.map_cons, idxOf, rn_beq]
  by_cases e : p = q
  ·subst e
   exact ⟨0, by simp, rfl⟩
  ·have : p ∈ m := by
    rcases List.mem_cons.1 h with h | h
    ·exact absurd h e
    ·exact h
   obtain ⟨j, h1, h2⟩ := idx_met_some (i + 1) this
   refine ⟨j + 1, ?_, by simpa [metD] using h2⟩
   rw [decide_eq_false e]
   show idxOf _ (metK m) (i + 1) = _
   rw [h1]; congr 1; omega
theorem idx_met_none {p : Rn} : ∀ {m : List Rn} (i : Nat), p ∉ m → idxOf [(p.1 : Int), (p.2 : Int)] (metK m) i = none
 | [], _, _ => rfl
 | q :: m, i, h => by
  unfold metK
  simp only [List.map_cons, idxOf, rn_beq]
  have e : p ≠ q := fun e => h (by rw [e]; simp)
  rw [decide_eq_false e]
  exact idx_met_none (i + 1) fun hm => h (List.mem_cons_of_mem _ hm)
theorem rank109 (l : List Rn) (t : Bool) (hn : l.length ≤ 1000) (hb : ∀ r, r ∈ l → r.1 < 4096 ∧ r.2 < 4096) : PC Pr G 109 [rnD l t] (iD ((rkSt l l.length).2.length : Nat)) := by
 refine pc_walk pok Tryz.func109 chk109 ?_
 conv => whnf
 repeat' first | ((first | refine LookP.mk _ rfl ?_ | refine ShlP.mk _ (by first | (simp only [List.set, over, List.take, List.drop, List.append_eq, List.nil_append, List.cons_append, List.length]; rfl) | rfl) ?_ | refine And.intro (by first | assumption | exact ⟨by kernel_rfl, rfl⟩ | decide | omega | exact ⟨rfl, by decide, by simp only [List.length_map, Nat.zero_add]; omega⟩) ?_ | refine HpP.force ?_); conv => whnf) | (intro t ht; cases t <;> conv => whnf)
 refine for_use pok (fun i => ⟨[(3, .map 0), (4, .sl 1 1 0 (rkSt l i).2.length (rkSt l i).2.length false), (11, .d (rnD l t)), (12, .d (iD (l.map Rn.l).length)), (13, .d (iD i))], [(0, some (.map (metD (rkSt l i).1))), (1, some (dblk 1 (numD (rkSt l i).2)))], 2⟩) (l.length) (fun _ => True) (trivial) ?_ (by kernel_rfl) ?_ ?_
 ·refine Sub.trans (sub_nil (t := 4) (S := 1) (Nat.zero_le _) rfl) ?_
  refine keep_env (by first | exact Nat.zero_le _ | exact Nat.le_of_ble_eq_true rfl) ?_ ?_ trivial
  ·repeat' first | exact trivial | refine ⟨⟨by first | rfl | assumption, rfl⟩, ?_⟩
  ·repeat' first | exact trivial | refine ⟨⟨ltB rfl, _, rfl, by first | rfl | assumption, by first | exact below1 rfl | exact below_dblk _ _ _ | exact below_arr rfl | exact trivial⟩, ?_⟩
 ·intro i A_i h_i I_i N_i
  have e_i : iadd .i64 (i : Int) 1 = ((i + 1 : Nat) : Int) := iadd_nat (by first | omega | (simp at *; omega))
  have hs := rkSt_snoc h_i
  have hp := hb _ (List.getElem_mem h_i)
  have hinv : (rkSt l i).2.length ≤ i ∧ ∀ r, r ∈ (rkSt l i).2 → r < 2 ^ 24 := rk_inv hb (by omega)
  unfold rkStep at hs
  generalize rkSt l i = s at hs hinv
  by_cases hm : l[i] ∈ s.1
  ·obtain ⟨j, hj1, hj2⟩ := idx_met_some 0 hm
   rw [Nat.zero_add] at hj1
   rw [if_pos hm] at hs
   conv => whnf
   repeat (refine LookP.mk _ rfl ?_; conv => whnf)
   intro t ht
   cases t
   ·exfalso; first | (simp at ht; done) | (simp at ht; omega)
   conv => whnf
   repeat' first | ((first | refine LookP.mk _ (by first | rfl | exact get_rn h_i) ?_ | refine ShlP.mk _ (by first | (simp only [List.set, over, List.take, List.drop, List.append_eq, List.nil_append, List.cons_append, List.length]; rfl) | rfl) ?_ | refine And.intro (by first | assumption | exact ⟨by kernel_rfl, rfl⟩ | decide | omega | exact ⟨rfl, by decide, by simp only [List.length_map, Nat.zero_add]; omega⟩) ?_ | rw [keys_met] | rw [allLen_met] | rw [hj1] | rw [hj2] | refine HpP.force ?_); conv => whnf) | (intro t ht; cases t <;> conv => whnf)
   refine N_i _ ?_ ?_
   ·first | trivial | assumption | omega
   ·refine keep_env (by first | exact Nat.zero_le _ | exact Nat.le_of_ble_eq_true rfl) ?_ ?_ trivial
    ·repeat' first | exact trivial | refine ⟨⟨by first | rfl | assumption | exact congrArg (fun n => AV.d (iD n)) e_i | (rw [hs]; rfl), rfl⟩, ?_⟩
    ·repeat' first | exact trivial | refine ⟨⟨ltB rfl, _, rfl, by first | rfl | assumption | (rw [hs]; rfl), by first | exact below1 rfl | exact below_dblk _ _ _ | exact below_arr rfl | exact trivial⟩, ?_⟩
  ·have hj := idx_met_none 0 hm
   have hb0 : ior .i64 (l[i].1 : Int) (ishl .i64 (l[i].2 : Int) 12) = ((l[i].1 + 4096 * l[i].2 : Nat) : Int) := by
    have h1 := ishl_nat (a := l[i].2) (n := 12) (by decide) (by omega)
    rw [show ((12 : Nat) : Int) = 12 from rfl] at h1
    rw [h1, Nat.shiftLeft_eq, ior_nat (by omega) (by omega)]
    have e : l[i].1 ||| l[i].2 * 2 ^ 12 = l[i].1 + 4096 * l[i].2 := by
     have := Nat.two_pow_add_eq_or_of_lt (show l[i].1 < 2 ^ 12 by omega) l[i].2
     rw [Nat.or_comm, Nat.mul_comm l[i].2, ← this]; omega
    rw [e]
   rw [if_neg hm] at hs
   conv => whnf
   repeat (refine LookP.mk _ rfl ?_; conv => whnf)
   intro t ht
   cases t
   ·exfalso; first | (simp at ht; done) | (simp at ht; omega)
   conv => whnf
   repeat' first | ((first | refine LookP.mk _ (by first | rfl | exact get_rn h_i) ?_ | refine ShlP.mk _ (by first | (simp only [List.set, over, List.take, List.drop, List.append_eq, List.nil_append, List.cons_append, List.length]; rfl) | rfl) ?_ | refine And.intro (by first | assumption | exact ⟨by kernel_rfl, rfl⟩ | decide | omega | exact ⟨rfl, by decide, by simp only [List.length_map, Nat.zero_add]; omega⟩) ?_ | rw [keys_met] | rw [allLen_met] | rw [hj] | rw [spine_eq] | refine HpP.force ?_); conv => whnf) | (intro t ht; cases t <;> conv => whnf)
   refine for_use pok (fun k => ⟨[(3, .map 0), (4, .sl 1 1 0 s.2.length s.2.length false), (7, .d (iD (minB (s.2.take k) (l[i].1 + 4096 * l[i].2) : Nat))), (11, .d (rnD l t)), (12, .d (iD (l.map Rn.l).length)), (13, .d (iD i)), (28, .sl 1 1 0 s.2.length s.2.length false), (29, .d (iD s.2.length)), (30, .d (iD k))], [(0, some (.map (metD (s.1 ++ [l[i]])))), (1, some (dblk 1 (numD s.2)))], 2⟩) (s.2.length) (fun _ => True) (trivial) ?_ (by kernel_rfl) ?_ ?_
   ·refine keep_env (by first | exact Nat.zero_le _ | exact Nat.le_of_ble_eq_true rfl) ?_ ?_ trivial
    ·repeat' first | exact trivial | refine ⟨⟨by first | rfl | assumption | exact congrArg (fun n => AV.d (iD n)) hb0, rfl⟩, ?_⟩
    ·repeat' first | exact trivial | refine ⟨⟨ltB rfl, _, rfl, by first | rfl | assumption | (show some (Blk.map (metD s.1 ++ _)) = _; unfold metD; rw [List.map_append]; rfl), by first | exact below1 rfl | exact below_dblk _ _ _ | exact below_arr rfl | exact trivial⟩, ?_⟩
   ·intro k A_k h_k I_k N_k
    have e_k : iadd .i64 (k : Int) 1 = ((k + 1 : Nat) : Int) := iadd_nat (by first | omega | (simp at *; omega))
    have hms : minB (s.2.take (k + 1)) (l[i].1 + 4096 * l[i].2) = min (minB (s.2.take k) (l[i].1 + 4096 * l[i].2)) (minB (s.2.take k) (l[i].1 + 4096 * l[i].2) ^^^ s.2[k]) := by
     unfold minB; rw [take_snoc h_k, List.foldl_append]; rfl
    have hml : minB (s.2.take k) (l[i].1 + 4096 * l[i].2) < 2 ^ 24 := minB_lt _ (by omega)
    have hrl := hinv.2 _ (List.getElem_mem h_k)
    have hnum : ((numD s.2).map fun el => el.map AV.d)[0 + (k : Int).toNat]? = some ([iD (s.2[k] : Nat)].map AV.d) := by
     simp [numD, List.getElem?_eq_getElem h_k]
    generalize minB (s.2.take k) (l[i].1 + 4096 * l[i].2) = b at hms hml ⊢
    generalize s.2[k] = r at hms hrl hnum
    conv => whnf
    repeat (refine LookP.mk _ rfl ?_; conv => whnf)
    intro t ht
    cases t
    ·exfalso; first | (simp at ht; done) | (simp at ht; omega)
    conv => whnf
    repeat' first | ((first | refine LookP.mk _ (by first | rfl | exact hnum) ?_ | refine ShlP.mk _ (by first | (simp only [List.set, over, List.take, List.drop, List.append_eq, List.nil_append, List.cons_append, List.length]; rfl) | rfl) ?_ | refine And.intro (by first | exact ⟨Int.natCast_nonneg _, by omega⟩ | assumption | exact ⟨by kernel_rfl, rfl⟩ | decide | omega | exact ⟨rfl, by decide, by simp only [List.length_map, Nat.zero_add]; omega⟩) ?_ | refine HpP.force ?_); conv => whnf) | (intro t ht; cases t <;> conv => whnf)
    have hmin : (if ixor .i64 (b : Int) (r : Int) < (b : Int) then ixor .i64 (b : Int) (r : Int) else (b : Int)) = ((minB (s.2.take (k + 1)) (l[i].1 + 4096 * l[i].2) : Nat) : Int) := by
     rw [hms, ixor_nat (by omega) (by omega)]
     split <;> omega
    refine N_k _ ?_ ?_
    ·first | trivial | assumption | omega
    ·refine keep_env (by first | exact Nat.zero_le _ | exact Nat.le_of_ble_eq_true rfl) ?_ ?_ trivial
     ·repeat' first | exact trivial | refine ⟨⟨by first | rfl | assumption | exact congrArg (fun n => AV.d (iD n)) e_k | exact congrArg (fun n => AV.d (iD n)) hmin, rfl⟩, ?_⟩
     ·repeat' first | exact trivial | refine ⟨⟨ltB rfl, _, rfl, by first | rfl | assumption, by first | exact below1 rfl | exact below_dblk _ _ _ | exact below_arr rfl | exact trivial⟩, ?_⟩
   ·intro A_last I_last
    have hml : minB (s.2.take s.2.length) (l[i].1 + 4096 * l[i].2) < 2 ^ 24 := minB_lt _ (by omega)
    rw [List.take_length] at hml ⊢
    generalize minB s.2 (l[i].1 + 4096 * l[i].2) = b at hs hml ⊢
    conv => whnf
    repeat (refine LookP.mk _ rfl ?_; conv => whnf)
    intro t ht
    cases t
    rotate_left
    ·exfalso; first | (simp at ht; done) | (simp at ht; omega)
    conv => whnf
    repeat' first | ((first | refine LookP.mk _ rfl ?_ | refine ShlP.mk _ (by first | (simp only [List.set, over, List.take, List.drop, List.append_eq, List.nil_append, List.cons_append, List.length]; rfl) | rfl) ?_ | (refine And.intro (by first | exact Nat.le_refl _ | exact ⟨by simp [numD], by decide, by show (2 * (s.2.length + 1) + 192) * 8 ≤ 281474976710656; omega⟩ | assumption | exact ⟨by kernel_rfl, rfl⟩ | decide | omega | exact ⟨rfl, by decide, by simp only [List.length_map, Nat.zero_add]; omega⟩) ?_) | rw [nbeq] | refine HpP.force ?_); conv => whnf) | (intro t ht; cases t <;> conv => whnf)
    ·have hz : b = 0 := by simp at ht; omega
     rw [if_pos hz] at hs
     refine N_i _ ?_ ?_
     ·first | trivial | assumption | omega
     ·refine keep_env (by first | exact Nat.zero_le _ | exact Nat.le_of_ble_eq_true rfl) ?_ ?_ trivial
      ·repeat' first | exact trivial | refine ⟨⟨by first | rfl | assumption | exact congrArg (fun n => AV.d (iD n)) e_i | (rw [hs]; rfl), rfl⟩, ?_⟩
      ·repeat' first | exact trivial | refine ⟨⟨ltB rfl, _, rfl, by first | rfl | assumption | (rw [hs]; rfl), by first | exact below1 rfl | exact below_dblk _ _ _ | exact below_arr rfl | exact trivial⟩, ?_⟩
    ·have hz : b ≠ 0 := by simp at ht; omega
     rw [if_neg hz] at hs
     refine N_i _ ?_ ?_
     ·first | trivial | assumption | omega
     ·first | refine ren_env [(1, 3)] ?_ ?_ ?_ trivial | refine ren_envB [(1, 3)] rfl rfl ?_ ?_ ?_ trivial
      ·repeat' first | exact trivial | refine ⟨⟨by first | rfl | assumption | exact congrArg (fun n => AV.d (iD n)) e_i | (rw [hs, List.length_append]; rfl), rfl⟩, ?_⟩
      ·repeat' first | exact trivial | refine ⟨⟨ltB rfl, _, rfl, by first | rfl | assumption | exact get_ren rfl (by first | rfl | assumption | exact get_ren rfl (by rw [hs]; show _ = some (dblk 1 (numD (s.2 ++ [b]))); unfold numD; rw [List.map_append]; exact congrArg some (dblk_snoc rfl)) | (rw [hs]; rfl)) | exact get_ren rfl (by rw [hs]; show _ = some (dblk 1 (numD (s.2 ++ [b]))); unfold numD; rw [List.map_append]; exact congrArg some (dblk_snoc rfl)) | (rw [hs]; rfl), by first | exact below1 rfl | exact below_dblk _ _ _ | exact below_arr rfl | exact trivial⟩, ?_⟩
      ·repeat' first | exact trivial | (refine And.intro ?_ ?_) | (exact fun _ => rfl) | (exact fun h => absurd h (Nat.ne_of_beq_eq_false rfl))
 ·intro A_last I_last
  conv => whnf
  repeat (refine LookP.mk _ rfl ?_; conv => whnf)
  intro t ht
  cases t
  rotate_left
  ·exfalso; first | (simp at ht; done) | (simp at ht; omega)
  conv => whnf
  repeat' first | ((first | refine LookP.mk _ rfl ?_ | refine ShlP.mk _ (by first | (simp only [List.set, over, List.take, List.drop, List.append_eq, List.nil_append, List.cons_append, List.length]; rfl) | rfl) ?_ | refine And.intro (by first | assumption | exact ⟨by kernel_rfl, rfl⟩ | decide | omega | exact ⟨rfl, by decide, by simp only [List.length_map, Nat.zero_add]; omega⟩) ?_ | refine HpP.force ?_); conv => whnf) | (intro t ht; cases t <;> conv => whnf)
  exact fin rfl
end Go.Tz
namespace Go.Tz
open Go Go.AL Go.Proofs Go.Ma
variable {G : Nat → Option (List D)}
abbrev intsD (ks : List Int) (u : Bool) : D := .sl (ks.map fun k => [iD k]) u
theorem get_i {ks : List Int} {i : Nat} (h : i < ks.length) : (ks.map fun k => [iD k])[(i : Int).toNat]? = some [iD ks[i]] := by
 rw [Int.toNat_natCast, List.getElem?_map, List.getElem?_eq_getElem h]; rfl
def entA (w : Int) (ks : List Int) (i : Nat) : Int := match ks[i]? with
 | some k => if k < 0 ∨ k ≥ w then 1 else if k ∈ ks.take i then 5 else 0
 | none => 0
def entE (w : Int) (ks : List Int) : Int := match (List.range ks.length).find? (fun i => decide (entA w ks i ≠ 0)) with
 | some i => entA w ks i
 | none => 0
theorem entE_at {w : Int} {ks : List Int} {i : Nat} (h : i < ks.length) (h1 : ∀ j, j < i → entA w ks j = 0) (h2 : entA w ks i ≠ 0) : entE w ks = entA w ks i := by
 have : (List.range ks.length).find? (fun i => decide (entA w ks i ≠ 0)) = some i := by
  rw [List.find?_range_eq_some]
  exact ⟨by simpa using h2, List.mem_range.2 h, fun j hj => by simp [h1 j hj]⟩
 unfold entE; rw [this]
theorem entE_none {w : Int} {ks : List Int} (h1 : ∀ j, j < ks.length → entA w ks j = 0) : entE w ks = 0 := by
 have : (List.range ks.length).find? (fun i => decide (entA w ks i ≠ 0)) = none := List.find?_eq_none.2 fun j hj => by simp [h1 j (List.mem_range.1 hj)]
 unfold entE; rw [this]
def maskN (ks : List Int) : Nat := ks.foldl (fun m k => m ||| 2 ^ k.toNat) 0
theorem mask_snoc {ks : List Int} {i : Nat} (h : i < ks.length) : maskN (ks.take (i + 1)) = maskN (ks.take i) ||| 2 ^ (ks[i]).toNat := by
 unfold maskN
 rw [take_snoc h, List.foldl_append]; rfl
theorem mask_bit (j : Nat) : ∀ ks : List Int, (maskN ks).testBit j = ks.any fun k => decide (k.toNat = j) := by
 have key : ∀ (ks : List Int) (m : Nat), (ks.foldl (fun m k => m ||| 2 ^ k.toNat) m).testBit j = (m.testBit j || ks.any fun k => decide (k.toNat = j)) := by
  intro ks
  induction ks with
  | nil => intro m; simp
  | cons k ks ih =>
   intro m
   rw [List.foldl_cons, ih, Nat.testBit_or, Nat.testBit_two_pow, List.any_cons]
   cases m.testBit j <;> cases decide (k.toNat = j) <;> simp
 intro ks
 unfold maskN
 rw [key, Nat.zero_testBit, Bool.false_or]
theorem mask_lt {w : Nat} {ks : List Int} (h : ∀ k, k ∈ ks → 0 ≤ k ∧ k < w) : maskN ks < 2 ^ w := by
 refine Nat.lt_pow_two_of_testBit _ fun j hj => ?_
 rw [mask_bit]
 refine List.any_eq_false.2 fun k hk => ?_
 have := h k hk
 simp; omega
theorem entA_ok {w : Int} {ks : List Int} {i : Nat} (h : i < ks.length) (h0 : entA w ks i = 0) : 0 ≤ ks[i] ∧ ks[i] < w ∧ ks[i] ∉ ks.take i := by
 unfold entA at h0
 rw [List.getElem?_eq_getElem h] at h0
 dsimp only at h0
 split at h0
 ·cases h0
 ·split at h0
  ·cases h0
  ·rename_i h1 h2
   exact ⟨by omega, by omega, h2⟩
def maskL (l : List Ps) (m : Nat) : List Rn := l.map fun q => (q.x.toNat &&& m, q.z.toNat &&& m)
theorem pc_lend1 {f : FuncId} {v1 : AV} {d1 d : D} {H : AHeap} {nx : Nat} {k : AV → AHeap → Nat → Prop} (h : PC Pr G f [d1] d) (h1 : AsD H v1 d1) (hf : d.flat = true) (hk : k (.d d) H nx) : CallVC Pr G f [v1] H nx k := by
 refine pc_lend h rfl (fun i v d a1 a2 => ?_) hf hk
 match i, a1, a2 with
 | 0, a1, a2 => simp at a1 a2; subst a1 a2; exact h1
 | i + 1, a1, _ => simp at a1
theorem chk34 : chkFn Tryz.f34 = true := by kernel_rfl
def entD (w : Int) (l : List Ps) (ks : List Int) : D := if chkS w l ≠ 0 then .tup [iD 0, iD (chkS w l)] else if entE w ks ≠ 0 then .tup [iD 0, iD (entE w ks)] else .tup [iD (isub .i64 (rkSt (maskL l (maskN ks)) l.length).2.length ks.length), iD 0]
theorem entropy34 (w : Int) (l : List Ps) (t : Bool) (ks : List Int) (u : Bool) (hn : l.length ≤ 1000) (hk : ks.length ≤ 1000) : PC Pr GG 34 [stD w l t, intsD ks u] (entD w l ks) := by
 have hc := check36 w l t hn
 have hok := chk_ok (w := w) (l := l)
 unfold entD
 by_cases h : chkS w l = 0
 ·obtain ⟨W, rfl, hs⟩ := hok h
  rw [h] at hc
  rw [if_neg (by rw [h]; simp)]
  have hlo := hs.lo
  have hhi := hs.hi
  refine pc_walk pok Tryz.func34 chk34 ?_
  conv => whnf
  repeat' first | ((first | refine LookP.mk _ rfl ?_ | refine pc_use hc ?_); conv => whnf) | (intro t ht; cases t <;> conv => whnf)
  rotate_left
  ·exact absurd ht (by decide)
  refine for_use pok (fun i => ⟨[(1, .d (intsD ks u)), (2, .ptr 0 2 0 0), (7, .d (iD (maskN (ks.take i) : Nat))), (18, .d (intsD ks u)), (19, .d (iD (ks.map fun k => [iD k]).length)), (20, .d (iD i))], [(0, some (.arr 2 [[.d (iD W), .d (rowsD l t)]]))], 1⟩) (ks.length) (fun i => ∀ j, j < i → entA W ks j = 0) (by omega) ?_ (by kernel_rfl) ?_ ?_
  ·refine keep_env (by first | exact Nat.zero_le _ | exact Nat.le_of_ble_eq_true rfl) ?_ ?_ trivial
   ·repeat' first | exact trivial | refine ⟨⟨by first | rfl | assumption, rfl⟩, ?_⟩
   ·repeat' first | exact trivial | refine ⟨⟨ltB rfl, _, rfl, by first | rfl | assumption, by first | exact below1 rfl | exact below_dblk _ _ _ | exact below_arr rfl⟩, ?_⟩
  ·intro i A_i h_i I_i N_i
   have e_i : iadd .i64 (i : Int) 1 = ((i + 1 : Nat) : Int) := iadd_nat (by first | omega | (simp at *; omega))
   have hml : maskN (ks.take i) < 2 ^ W := mask_lt fun k hk => by
    obtain ⟨j, hj, rfl⟩ := List.mem_take_iff_getElem.1 hk
    have := entA_ok (by omega) (I_i j (by omega))
    exact ⟨this.1, this.2.1⟩
   have hp : (2 : Nat) ^ W ≤ 2 ^ 12 := Nat.pow_le_pow_right (by decide) hhi
   have hms := mask_snoc h_i
   have hEA : entA W ks i = if ks[i] < 0 ∨ ks[i] ≥ W then 1 else if ks[i] ∈ ks.take i then 5 else 0 := by
    unfold entA; rw [List.getElem?_eq_getElem h_i]
   have hat := entE_at h_i I_i
   have hmem : 0 ≤ ks[i] → (maskN (ks.take i)).testBit (ks[i]).toNat = decide (ks[i] ∈ ks.take i) := by
    intro h0
    rw [mask_bit, Bool.eq_iff_iff, List.any_eq_true, decide_eq_true_eq]
    constructor
    ·rintro ⟨k, hk, he⟩
     have he := of_decide_eq_true he
     obtain ⟨j, hj, rfl⟩ := List.mem_take_iff_getElem.1 hk
     have := (entA_ok (by omega) (I_i j (by omega))).1
     rw [show ks[i] = ks[j] by omega]; exact hk
    ·intro hk; exact ⟨_, hk, by simp⟩
   have hnn : entA W ks i = 0 → ∀ j, j < i + 1 → entA W ks j = 0 := by
    intro h j hj
    rcases Nat.lt_or_ge j i with q | q
    ·exact I_i j q
    ·rw [show j = i by omega]; exact h
   generalize maskN (ks.take i) = m at hml hms hmem ⊢
   have hgi := get_i h_i
   generalize ks[i] = v at hms hEA hat hmem hgi
   conv => whnf
   repeat (refine LookP.mk _ rfl ?_; conv => whnf)
   intro t ht
   cases t
   ·exfalso; first | (simp at ht; done) | (simp at ht; omega)
   conv => whnf
   repeat' first | ((first | refine LookP.mk _ (by first | rfl | exact hgi) ?_ | refine And.intro (by first | (simp at *; omega) | assumption | exact ⟨by kernel_rfl, rfl⟩ | decide | omega) ?_ | fail); conv => whnf) | (intro t ht; cases t <;> conv => whnf)
   ·have hv0 : 0 ≤ v ∧ v < W := by simp at *; omega
    obtain ⟨V, rfl⟩ : ∃ V : Nat, v = V := ⟨v.toNat, by omega⟩
    have hm2 := hmem hv0.1
    rw [Int.toNat_natCast] at hm2 hms
    rw [bit_nat (by omega) (by omega), hm2] at ht
    have hni : ¬ ((V : Int) ∈ ks.take i) := by
     intro hc
     rw [decide_eq_true hc] at ht; simp at ht
    have hz : entA W ks i = 0 := by rw [hEA, if_neg (by omega), if_neg hni]
    have hp2 : (2 : Nat) ^ V < 2 ^ 13 := Nat.pow_lt_pow_right (by decide) (by omega)
    have hor : ior .i64 (m : Int) (ishl .i64 1 (V : Int)) = ((maskN (ks.take (i + 1)) : Nat) : Int) := by
     rw [hms, pow_nat (by omega), ior_nat (by omega) (by omega)]
    refine N_i _ ?_ ?_
    ·exact hnn hz
    ·refine keep_env (by first | exact Nat.zero_le _ | exact Nat.le_of_ble_eq_true rfl) ?_ ?_ trivial
     ·repeat' first | exact trivial | refine ⟨⟨by first | rfl | assumption | exact congrArg (fun n => AV.d (iD n)) e_i | exact congrArg (fun n => AV.d (iD n)) hor, rfl⟩, ?_⟩
     ·repeat' first | exact trivial | refine ⟨⟨ltB rfl, _, rfl, by first | rfl | assumption, by first | exact below1 rfl | exact below_dblk _ _ _ | exact below_arr rfl⟩, ?_⟩
   ·have hv0 : 0 ≤ v ∧ v < W := by simp at *; omega
    obtain ⟨V, rfl⟩ : ∃ V : Nat, v = V := ⟨v.toNat, by omega⟩
    have hm2 := hmem hv0.1
    rw [Int.toNat_natCast] at hm2
    rw [bit_nat (by omega) (by omega), hm2] at ht
    have hni : (V : Int) ∈ ks.take i := by
     refine Classical.byContradiction fun hc => ?_
     rw [decide_eq_false hc] at ht; simp at ht
    have hz : entA W ks i = 5 := by rw [hEA, if_neg (by omega), if_pos hni]
    rw [if_pos (by rw [hat (by rw [hz]; decide), hz]; decide), hat (by rw [hz]; decide), hz]
    exact fin rfl
   ·have hz : entA W ks i = 1 := by rw [hEA, if_pos (by simp at ht; omega)]
    rw [if_pos (by rw [hat (by rw [hz]; decide), hz]; decide), hat (by rw [hz]; decide), hz]
    exact fin rfl
   ·have hz : entA W ks i = 1 := by rw [hEA, if_pos (by simp at ht; omega)]
    rw [if_pos (by rw [hat (by rw [hz]; decide), hz]; decide), hat (by rw [hz]; decide), hz]
    exact fin rfl
  ·intro A_last I_last
   have hml : maskN ks < 2 ^ W := mask_lt fun k hk => by
    obtain ⟨j, hj, rfl⟩ := List.getElem_of_mem hk
    have := entA_ok hj (I_last j hj)
    exact ⟨this.1, this.2.1⟩
   have hp : (2 : Nat) ^ W ≤ 2 ^ 12 := Nat.pow_le_pow_right (by decide) hhi
   rw [if_neg (by rw [entE_none I_last]; simp)]
   rw [List.take_length]
   generalize maskN ks = m at hml ⊢
   have hrk := rank109 (G := GG) (maskL l m) false (by rw [maskL, List.length_map]; omega) (by
    intro r hr
    obtain ⟨q, _, rfl⟩ := List.mem_map.1 hr
    exact ⟨Nat.lt_of_le_of_lt Nat.and_le_right (by omega), Nat.lt_of_le_of_lt Nat.and_le_right (by omega)⟩)
   have hmll : (maskL l m).length = l.length := by rw [maskL, List.length_map]
   rw [hmll] at hrk
   conv => whnf
   repeat (refine LookP.mk _ rfl ?_; conv => whnf)
   intro t ht
   cases t
   rotate_left
   ·exfalso; first | (simp at ht; done) | (simp at ht; omega)
   conv => whnf
   repeat' first | (refine LookP.mk _ rfl ?_; conv => whnf)
   refine for_use pok (fun i => ⟨[(1, .d (intsD ks u)), (7, .d (iD m)), (10, .sl 1 2 0 i i false), (45, .d (rowsD l t)), (46, .d (iD (l.map Ps.l).length)), (47, .d (iD i))], [(1, some (dblk 2 (((maskL l m).take i).map Rn.l)))], 2⟩) (l.length) (fun _ => True) (trivial) ?_ (by kernel_rfl) ?_ ?_
   ·refine Sub.trans (sub_nil (t := 10) (S := 2) (Nat.zero_le _) rfl) ?_
    refine keep_env (by first | exact Nat.zero_le _ | exact Nat.le_of_ble_eq_true rfl) ?_ ?_ trivial
    ·repeat' first | exact trivial | refine ⟨⟨by first | rfl | assumption, rfl⟩, ?_⟩
    ·repeat' first | exact trivial | refine ⟨⟨ltB rfl, _, rfl, by first | rfl | assumption, by first | exact below1 rfl | exact below_dblk _ _ _ | exact below_arr rfl⟩, ?_⟩
   ·intro i A_i h_i I_i N_i
    have e_i : iadd .i64 (i : Int) 1 = ((i + 1 : Nat) : Int) := iadd_nat (by first | omega | (simp at *; omega))
    have hi2 : i < (maskL l m).length := by omega
    have hsn : ((maskL l m).take (i + 1)).map Rn.l = ((maskL l m).take i).map Rn.l ++ [[iD ((l[i].x.toNat &&& m : Nat)), iD ((l[i].z.toNat &&& m : Nat))]] := by
     rw [take_snoc hi2, List.map_append]
     simp [maskL, Rn.l]
    have hlen : (((maskL l m).take i).map Rn.l).length = i := by rw [List.length_map, List.length_take]; omega
    obtain ⟨X, Z, P, he, g1, g2, g3⟩ := hs.vl _ (List.getElem_mem h_i)
    have hx : iand .i64 l[i].x (m : Int) = ((l[i].x.toNat &&& m : Nat) : Int) := by
     rw [he]; show iand .i64 (X : Int) (m : Int) = (((X : Int).toNat &&& m : Nat) : Int)
     rw [iand_nat (by omega) (by omega), Int.toNat_natCast]
    have hz : iand .i64 l[i].z (m : Int) = ((l[i].z.toNat &&& m : Nat) : Int) := by
     rw [he]; show iand .i64 (Z : Int) (m : Int) = (((Z : Int).toNat &&& m : Nat) : Int)
     rw [iand_nat (by omega) (by omega), Int.toNat_natCast]
    generalize ((maskL l m).take i).map Rn.l = M at hsn hlen
    conv => whnf
    repeat (refine LookP.mk _ rfl ?_; conv => whnf)
    intro t ht
    cases t
    ·exfalso; first | (simp at ht; done) | (simp at ht; omega)
    conv => whnf
    repeat' first | ((first | refine LookP.mk _ (by first | rfl | exact get_l h_i) ?_ | refine ShlP.mk _ (by first | (simp only [List.set, over, List.take, List.drop, List.append_eq, List.nil_append, List.cons_append, List.length]; rfl) | rfl) ?_ | (refine And.intro (by first | exact Nat.le_refl _ | exact ⟨by rw [List.length_map]; exact hlen, by decide, by show (2 * (i + 1) + 192) * 16 ≤ 281474976710656; omega⟩ | assumption | exact ⟨by kernel_rfl, rfl⟩ | decide | omega) ?_) | rw [nbeq] | rw [hx, hz] | refine HpP.force ?_); conv => whnf)
    refine N_i _ ?_ ?_
    ·first | trivial | assumption | omega
    ·first | refine ren_env [(1, 4)] ?_ ?_ ?_ trivial | refine ren_envB [(1, 4)] rfl rfl ?_ ?_ ?_ trivial
     ·repeat' first | exact trivial | refine ⟨⟨by first | rfl | assumption | exact congrArg (fun n => AV.d (iD n)) e_i, rfl⟩, ?_⟩
     ·repeat' first | exact trivial | refine ⟨⟨ltB rfl, _, rfl, by first | rfl | assumption | exact get_ren rfl (by first | rfl | assumption | exact get_ren rfl (by rw [hsn]; exact congrArg some (dblk_snoc rfl))) | exact get_ren rfl (by rw [hsn]; exact congrArg some (dblk_snoc rfl)), by first | exact below1 rfl | exact below_dblk _ _ _ | exact below_arr rfl⟩, ?_⟩
     ·repeat' first | exact trivial | (refine And.intro ?_ ?_) | (exact fun _ => rfl) | (exact fun h => absurd h (Nat.ne_of_beq_eq_false rfl))
   ·intro A_last I_last
    rw [← hmll, List.take_length, hmll]
    conv => whnf
    repeat (refine LookP.mk _ rfl ?_; conv => whnf)
    intro t ht
    cases t
    rotate_left
    ·exfalso; first | (simp at ht; done) | (simp at ht; omega)
    conv => whnf
    repeat' first | ((first | refine pc_lend1 hrk (asD_dblk rfl (by simp [hmll])) rfl ?_ | fail); conv => whnf) | fail
    refine fin ?_
    rw [List.length_map]
 ·rw [if_pos h]
  generalize chkS w l = e at hc h
  refine pc_walk pok Tryz.func34 chk34 ?_
  conv => whnf
  repeat' first | ((first | refine LookP.mk _ rfl ?_ | refine pc_use hc ?_); conv => whnf) | (intro t ht; cases t <;> conv => whnf)
  ·exact absurd (by simpa using ht) h
  ·exact fin rfl
end Go.Tz
namespace Go.Tz
open Go Go.AL Go.Proofs Go.Ma
variable {G : Nat → Option (List D)}
def sbStep (wb : Nat → Nat → Bool) (i : Nat) (q : Ps) (s : Ps × (Nat → Bool)) : Ps × (Nat → Bool) := if 0 ≤ leadI q ∧ bitB s.1 (leadI q) = true then (mulS s.1 q, fun j => s.2 j != wb i j) else s
def sbSt (m : List Ps) (wb : Nat → Nat → Bool) (p : Ps) : Nat → Ps × (Nat → Bool)
 | 0 => (p, fun _ => false)
 | i + 1 => sbStep wb i (m.getD i Ps.z0) (sbSt m wb p i)
def tkL (f : Nat → Bool) (n : Nat) : List Nat := (List.range n).filter f
end Go.Tz
namespace Go.Tz
open Go Go.AL Go.Proofs Go.Ma
variable {G : Nat → Option (List D)}
def sbL (w : Nat) (l : List Ps) (p : Ps) : Ps × (Nat → Bool) := sbSt (redRows l (2 * w)) (redN l (2 * w)).2.1 p l.length
def tkP (l : List Ps) (f : Nat → Bool) : List Ps := (tkL f l.length).map fun n => l.getD n Ps.z0
def phR (w : Nat) (l : List Ps) (p : Ps) : Int := (isub .i64 (iadd .i64 4 p.p) (prodS w (tkP l (sbL w l p).2)).p).tmod 4
def expR (w : Nat) (l : List Ps) (p : Ps) : Int := if (sbL w l p).1.x ≠ 0 ∨ (sbL w l p).1.z ≠ 0 then 0 else if phR w l p = 0 then 1 else -1
end Go.Tz
namespace Go.Tz
open Go Go.AL Go.Proofs Go.Ma
variable {G : Nat → Option (List D)}
def prjL (p : Ps) : List Ps → List Ps
 | [] => []
 | q :: l => if comV q p = true then q :: prjL p l else p :: l.map fun r => if comV r p = true then r else mulS q r
end Go.Tz
namespace Go.Tz
open Go Go.AL Go.Proofs
variable {G : Nat → Option (List D)}
theorem chk24 : chkFn Tryz.f24 = true := by kernel_rfl
theorem ints_sc (l : List Int) : (((l.map fun k => [iD k]).map (·.map AV.d)).all fun el => el.all AV.scalar) = true := by
 simp [AV.scalar, D.scalar]
theorem clone24 (es : List (List D)) (tg : Bool) (hes : ∀ el, el ∈ es → el.length = 1) (hsc : ((es.map (·.map AV.d)).all fun el => el.all AV.scalar) = true) (hbig : es.length ≤ 1000000) :
  ACall Pr G 24 [.d (.sl es tg)] [] 0 fun v N k => (v = .d (.sl [] true) ∧ es = []) ∨ (v = .sl 1 1 0 (0 + es.length) (0 + es.length) false ∧ N.get 1 = some (.arr 1 (es.map (·.map .d))) ∧ k = 2) := by
 refine fn_walk pok Tryz.func24 chk24 ?_
 conv => whnf
 repeat' first | ((first | refine ShlP.mk _ (by first | (simp only [List.set, over, List.take, List.drop, List.append_eq, List.nil_append, List.cons_append, List.length]; rfl) | rfl) ?_ | refine And.intro (by first | exact ⟨rfl, by decide, by simp only [List.length_map, Nat.zero_add]; omega⟩ | assumption | exact ⟨by kernel_rfl, rfl⟩ | decide | omega | exact ⟨rfl, by decide, by simp only [List.length_map, Nat.zero_add]; omega⟩) ?_ | rw [hsc] | refine HpP.force ?_); conv => whnf) | (intro t ht; cases t <;> conv => whnf)
 ·refine fin (.inr ⟨by simp, ?_, rfl⟩)
  simp [chunk, AHeap.get]
 ·refine fin (.inl ⟨rfl, ?_⟩)
  cases es with
  | nil => rfl
  | cons a l => simp at ht
theorem chk99 : chkFn Tryz.f99 = true := by kernel_rfl
theorem idx99 (l : List Int) (t : Bool) (v : Int) (hn : l.length ≤ 1000000) : PC Pr G 99 [intsD l t, iD v] (iD (idxI (fun k => decide (v = k)) l)) := by
 refine pc_walk pok Tryz.func99 chk99 ?_
 conv => whnf
 skip
 refine for_use pok (fun k => ⟨[(0, .d (intsD l t)), (1, .d (iD v)), (7, .d (iD (l.map fun k => [iD k]).length)), (8, .d (iD k))], [], 0⟩) (l.length) (fun k => ∀ q, q ∈ l.take k → decide (v = q) = false) (by simp) ?_ (by kernel_rfl) ?_ ?_
 ·refine keep_env (by first | exact Nat.zero_le _ | exact Nat.le_of_ble_eq_true rfl) ?_ ?_ trivial
  ·repeat' first | exact trivial | refine ⟨⟨by first | rfl | assumption, rfl⟩, ?_⟩
  ·repeat' first | exact trivial | refine ⟨⟨ltB rfl, _, rfl, by first | rfl | assumption, by first | exact below1 rfl | exact below_dblk _ _ _ | exact below_arr rfl⟩, ?_⟩
 ·intro k A_k h_k I_k N_k
  have e_k : iadd .i64 (k : Int) 1 = ((k + 1 : Nat) : Int) := iadd_nat (by first | omega | (simp at *; omega))
  have hg := get_i h_k
  conv => whnf
  repeat (refine LookP.mk _ rfl ?_; conv => whnf)
  intro t ht
  cases t
  ·exfalso; first | (simp at ht; done) | (simp at ht; omega)
  conv => whnf
  repeat' first | ((first | refine LookP.mk _ (by first | rfl | exact hg) ?_ | refine And.intro (by first | assumption | exact ⟨by kernel_rfl, rfl⟩ | decide | omega) ?_ | fail); conv => whnf) | (intro t ht; cases t <;> conv => whnf)
  ·have hnx : ∀ q, q ∈ l.take (k + 1) → decide (v = q) = false := by
    rw [take_snoc h_k]
    intro q hq
    rcases List.mem_append.1 hq with h | h
    ·exact I_k q h
    ·rw [List.mem_singleton.1 h]; simpa using ht
   refine N_k _ ?_ ?_
   ·first | trivial | assumption | omega
   ·refine keep_env (by first | exact Nat.zero_le _ | exact Nat.le_of_ble_eq_true rfl) ?_ ?_ trivial
    ·repeat' first | exact trivial | refine ⟨⟨by first | rfl | assumption | exact congrArg (fun n => AV.d (iD n)) e_k, rfl⟩, ?_⟩
    ·repeat' first | exact trivial | refine ⟨⟨ltB rfl, _, rfl, by first | rfl | assumption, by first | exact below1 rfl | exact below_dblk _ _ _ | exact below_arr rfl⟩, ?_⟩
  ·rw [idxI_some h_k (by simpa using ht) I_k]
   exact fin rfl
 ·intro A_last I_last
  rw [List.take_length] at I_last
  conv => whnf
  repeat (refine LookP.mk _ rfl ?_; conv => whnf)
  intro t ht
  cases t
  rotate_left
  ·exfalso; first | (simp at ht; done) | (simp at ht; omega)
  conv => whnf
  skip
  rw [idxI_none I_last]
  exact fin rfl
theorem chk25 : chkFn Tryz.f25 = true := by kernel_rfl
theorem has25 (l : List Int) (t : Bool) (v : Int) (hn : l.length ≤ 1000000) : PC Pr G 25 [intsD l t, iD v] (.bool (decide (v ∈ l))) := by
 have hi := idx99 (G := G) l t v hn
 have e : decide (v ∈ l) = decide (idxI (fun k => decide (v = k)) l ≥ 0) := by
  rw [idxI_ge, Bool.eq_iff_iff, decide_eq_true_eq, List.any_eq_true]
  constructor
  ·intro h; exact ⟨v, h, by simp⟩
  ·rintro ⟨q, hq, h⟩; rw [of_decide_eq_true h]; exact hq
 rw [e]
 generalize idxI (fun k => decide (v = k)) l = i at hi ⊢
 refine pc_walk pok Tryz.func25 chk25 ?_
 conv => whnf
 repeat' first | (refine pc_use hi ?_; conv => whnf) | (intro t ht; cases t <;> conv => whnf)
 all_goals (rw [ht]; exact fin rfl)
end Go.Tz
namespace Go.Tz
open Go Go.AL Go.Proofs Go.Ma
variable {G : Nat → Option (List D)}
abbrev ownV (w : Nat) (n : Nat) (t : Bool) : AV := .tup [.agg [.d (iD w), .sl 0 4 0 n n t], .d (iD 0)]
theorem chk110 : chkFn Tryz.f110 = true := by kernel_rfl
theorem zero110a {w : Nat} (hw : 1 ≤ w ∧ w ≤ 12) : ACall Pr GG 110 ([iD w].map .d) [] 0 fun v H _ => v = .agg [.d (iD w), .sl 2 4 0 w w false] ∧ H.get 2 = some (dblk 4 ((zeroS w).map Ps.l)) := by
 refine fn_walk pok Tryz.func110 chk110 ?_
 conv => whnf
 repeat' first | ((first | refine LookP.mk _ rfl ?_ | refine ShlP.mk _ (by first | (simp only [List.set, over, List.take, List.drop, List.append_eq, List.nil_append, List.cons_append, List.length]; rfl) | rfl) ?_ | refine And.intro (by first | assumption | exact ⟨by kernel_rfl, rfl⟩ | decide | omega | exact ⟨rfl, by decide, by simp only [List.length_map, Nat.zero_add]; omega⟩) ?_ | refine HpP.force ?_); conv => whnf) | (intro t ht; cases t <;> conv => whnf)
 refine for_use pok (fun i => ⟨[(0, .d (iD w)), (2, .ptr 0 2 0 0), (3, .ptr 1 2 0 0), (7, .d (iD w)), (8, .d (iD i))], [(0, some (.arr 2 [[.d (iD 0), .d (.sl [] true)]])), (1, some (.arr 2 [[.d (iD w), .sl 2 4 0 i i false]])), (2, some (dblk 4 (((zeroS w).take i).map Ps.l)))], 3⟩) (w) (fun _ => True) (trivial) ?_ (by kernel_rfl) ?_ ?_
 ·refine Sub.trans (sub_nilH2 (nm := 1) (S := 4) (Nat.zero_le _) rfl) ?_
  refine keep_env (by first | exact Nat.zero_le _ | exact Nat.le_of_ble_eq_true rfl) ?_ ?_ trivial
  ·repeat' first | exact trivial | refine ⟨⟨by first | rfl | assumption, rfl⟩, ?_⟩
  ·repeat' first | exact trivial | refine ⟨⟨ltB rfl, _, rfl, by first | rfl | assumption, by first | exact below1 rfl | exact below_dblk _ _ _ | exact below_arr rfl⟩, ?_⟩
 ·intro i A_i h_i I_i N_i
  have e_i : iadd .i64 (i : Int) 1 = ((i + 1 : Nat) : Int) := iadd_nat (by first | omega | (simp at *; omega))
  have hil : i < (zeroS w).length := by simpa [zeroS] using h_i
  have hsn : ((zeroS w).take (i + 1)).map Ps.l = ((zeroS w).take i).map Ps.l ++ [[iD w, iD 0, iD (2 ^ i : Nat), iD 0]] := by
   rw [take_snoc hil, List.map_append]; simp [zeroS, Ps.l]
  have hml : (((zeroS w).take i).map Ps.l).length = i := by rw [List.length_map, List.length_take]; omega
  have hp : ishl .i64 1 (i : Int) = ((2 ^ i : Nat) : Int) := pow_nat (by omega)
  generalize ((zeroS w).take i).map Ps.l = M at hsn hml
  conv => whnf
  repeat (refine LookP.mk _ rfl ?_; conv => whnf)
  intro t ht
  cases t
  ·exfalso; first | (simp at ht; done) | (simp at ht; omega)
  conv => whnf
  repeat' first | ((first | refine LookP.mk _ rfl ?_ | refine ShlP.mk _ (by first | (simp only [List.set, over, List.take, List.drop, List.append_eq, List.nil_append, List.cons_append, List.length]; rfl) | rfl) ?_ | (refine And.intro (by first | exact Nat.le_refl _ | exact Int.natCast_nonneg _ | exact ⟨by rw [List.length_map]; exact hml, by decide, by show (2 * (i + 1) + 192) * 32 ≤ 281474976710656; omega⟩ | assumption | exact ⟨by kernel_rfl, rfl⟩ | decide | omega | exact ⟨rfl, by decide, by simp only [List.length_map, Nat.zero_add]; omega⟩) ?_) | rw [nbeq] | rw [hp] | refine HpP.force ?_); conv => whnf) | (intro t ht; cases t <;> conv => whnf)
  refine N_i _ ?_ ?_
  ·first | trivial | assumption | omega
  ·first | refine ren_env [(2, 4)] ?_ ?_ ?_ trivial | refine ren_envB [(2, 4)] rfl rfl ?_ ?_ ?_ trivial
   ·repeat' first | exact trivial | refine ⟨⟨by first | rfl | assumption | exact congrArg (fun n => AV.d (iD n)) e_i, rfl⟩, ?_⟩
   ·repeat' first | exact trivial | refine ⟨⟨ltB rfl, _, rfl, by first | rfl | assumption | exact get_ren rfl (by first | rfl | assumption | exact get_ren rfl (by rw [hsn]; exact congrArg some (dblk_snoc rfl))) | exact get_ren rfl (by rw [hsn]; exact congrArg some (dblk_snoc rfl)), by first | exact below1 rfl | exact below_dblk _ _ _ | exact below_arr rfl⟩, ?_⟩
   ·repeat' first | exact trivial | (refine And.intro ?_ ?_) | (exact fun _ => rfl) | (exact fun h => absurd h (Nat.ne_of_beq_eq_false rfl))
 ·intro A_last I_last
  have hT : (zeroS w).take w = zeroS w := List.take_of_length_le (by simp [zeroS])
  rw [hT]
  conv => whnf
  repeat (refine LookP.mk _ rfl ?_; conv => whnf)
  intro t ht
  cases t
  rotate_left
  ·exfalso; first | (simp at ht; done) | (simp at ht; omega)
  conv => whnf
  repeat' first | ((first | refine LookP.mk _ rfl ?_ | refine ShlP.mk _ (by first | (simp only [List.set, over, List.take, List.drop, List.append_eq, List.nil_append, List.cons_append, List.length]; rfl) | rfl) ?_ | refine And.intro (by first | assumption | exact ⟨by kernel_rfl, rfl⟩ | decide | omega | exact ⟨rfl, by decide, by simp only [List.length_map, Nat.zero_add]; omega⟩) ?_ | refine HpP.force ?_); conv => whnf) | (intro t ht; cases t <;> conv => whnf)
  exact fin ⟨rfl, rfl⟩
theorem zero110p {w : Nat} (hw : 1 ≤ w ∧ w ≤ 12) : PO Pr GG 110 [iD w] (.agg [.d (iD w), .sl 0 4 0 w w false]) [(0, some (dblk 4 ((zeroS w).map Ps.l)))] 1 := by
 refine ⟨isFn_of Tryz.func110 chk110, acall_sub (zero110a hw) ?_⟩
 rintro v H n ⟨rfl, h2⟩
 refine ⟨_, _, 1, ?_, rfl, rfl, rfl⟩
 first | refine ren_env [(0, 2)] ?_ ?_ ?_ trivial | refine ren_envB [(0, 2)] rfl rfl ?_ ?_ ?_ trivial
 ·repeat' first | exact trivial | refine ⟨⟨by first | rfl | assumption, rfl⟩, ?_⟩
 ·repeat' first | exact trivial | refine ⟨⟨ltB rfl, _, rfl, by first | rfl | assumption | exact get_ren rfl (by first | rfl | assumption | exact get_ren rfl h2) | exact get_ren rfl h2, by first | exact below1 rfl | exact below_dblk _ _ _ | exact below_arr rfl⟩, ?_⟩
 ·repeat' first | exact trivial | (refine And.intro ?_ ?_) | (exact fun _ => rfl) | (exact fun h => absurd h (Nat.ne_of_beq_eq_false rfl))
end Go.Tz
namespace Go.Tz
open Go Go.AL Go.Ma
theorem eok_nf {w : Nat} (hw : w ≤ 12) {q : Ps} (h : Vl w q) : eok (nf q) ↔ q.p.tmod 2 = 0 := by
 obtain ⟨X, Z, P, rfl, h1, h2, h3⟩ := h
 have hp : (2 : Nat) ^ w ≤ 2 ^ 12 := Nat.pow_le_pow_right (by decide) hw
 have e : (mk w X Z P).p.tmod 2 = ((P % 2 : Nat) : Int) := by show ((P : Int)).tmod 2 = _; rfl
 rw [e]
 unfold eok
 rw [nf_mk]
 dsimp only
 rw [vec_bt (by omega) (by omega), Nat.and_comm Z X]
 generalize pop 12 (X &&& Z) = k
 have : (decide (k % 2 = 1)).toNat = k % 2 := by
  by_cases q : k % 2 = 1
  ·rw [decide_eq_true q, q]; rfl
  ·rw [decide_eq_false q]; simp; omega
 rw [this]
 constructor
 ·rintro ⟨_, h⟩; omega
 ·intro h; exact ⟨Nat.mod_lt _ (by decide), by omega⟩
theorem revl_rfv0 (l : List Ps) : revl (rfv l 0) l.length = (l.map vec).reverse := by
 have key : ∀ n, n ≤ l.length → revl (rfv l 0) n = ((l.take n).map vec).reverse := by
  intro n
  induction n with
  | zero => intro _; rfl
  | succ n ih =>
   intro hn
   rw [take_snoc (by omega), List.map_append, List.reverse_append, revl, ih (by omega)]
   have : rfv l 0 n = vec l[n] := by
    unfold rfv
    simp only [redN, List.getD_eq_getElem?_getD, List.getElem?_eq_getElem (show n < l.length by omega), Option.getD_some]
   rw [this]; rfl
 rw [key _ (Nat.le_refl _), List.take_length]
theorem rk_rev {l : List Nat} (h : ∀ a, a ∈ l → a < 2 ^ 24) : rk l.reverse = rk l :=
 rk_eq (k := 24) (fun a ha => h a (List.mem_reverse.1 ha)) h (sp_ext (fun a ha => sp_mem _ _ (List.mem_reverse.1 ha)) (fun a ha => sp_mem _ _ (List.mem_reverse.2 ha)))
theorem rank_ind {w : Nat} (hw : w ≤ 12) {l : List Ps} (hv : ∀ q, q ∈ l → Vl w q) : rankN (redRows l (2 * w)) = l.length ↔ Ind ((l.map nf).map (·.2)) := by
 rw [rank_rk hw hv, revl_rfv0, rk_rev]
 ·unfold Ind
  rw [List.map_map, List.length_map]; rfl
 ·intro a ha
  obtain ⟨q, hq, rfl⟩ := List.mem_map.1 ha
  exact vec_lt hw (hv q hq)
theorem badAt_ok {l : List Ps} {i : Nat} (h : i < l.length) : badAt l i = false ↔ l[i].p.tmod 2 = 0 ∧ ∀ r, r ∈ l.take i → mulS l[i] r = mulS r l[i] := by
 unfold badAt
 rw [List.getElem?_eq_getElem h]
 dsimp only
 rw [Bool.or_eq_false_iff, List.any_eq_false]
 simp
theorem good_iff {w : Nat} (hw : w ≤ 12) {l : List Ps} (hv : ∀ q, q ∈ l → Vl w q) : badS l = false ↔ Good (l.map nf) := by
 have hb : badS l = false ↔ ∀ i (h : i < l.length), l[i].p.tmod 2 = 0 ∧ ∀ r, r ∈ l.take i → mulS l[i] r = mulS r l[i] := by
  unfold badS
  rw [List.any_eq_false]
  constructor
  ·intro h i hi
   exact (badAt_ok hi).1 (by simpa using h i (List.mem_range.2 hi))
  ·intro h i hi
   have hi := List.mem_range.1 hi
   rw [(badAt_ok hi).2 (h i hi)]; simp
 rw [hb]
 constructor
 ·intro h
  refine ⟨fun a ha => ?_, fun a b ha hb => ?_⟩
  ·obtain ⟨q, hq, rfl⟩ := List.mem_map.1 ha
   obtain ⟨i, hi, rfl⟩ := List.getElem_of_mem hq
   exact (eok_nf hw (hv _ hq)).2 (h i hi).1
  ·obtain ⟨q, hq, rfl⟩ := List.mem_map.1 ha
   obtain ⟨r, hr, rfl⟩ := List.mem_map.1 hb
   obtain ⟨i, hi, rfl⟩ := List.getElem_of_mem hq
   obtain ⟨j, hj, rfl⟩ := List.getElem_of_mem hr
   rcases Nat.lt_trichotomy i j with e | e | e
   ·exact ecom_symm ((com_iff hw (hv _ hr) (hv _ hq)).1 ((h j hj).2 _ (List.mem_take_iff_getElem.2 ⟨i, by omega, rfl⟩)))
   ·subst e; exact ecom_self _
   ·exact (com_iff hw (hv _ hq) (hv _ hr)).1 ((h i hi).2 _ (List.mem_take_iff_getElem.2 ⟨j, by omega, rfl⟩))
 ·intro h i hi
  have hm := List.getElem_mem hi
  refine ⟨(eok_nf hw (hv _ hm)).1 (h.ok _ (List.mem_map.2 ⟨_, hm, rfl⟩)), fun r hr => ?_⟩
  have hr2 := List.mem_of_mem_take hr
  exact (com_iff hw (hv _ hm) (hv _ hr2)).2 (h.com _ _ (List.mem_map.2 ⟨_, hm, rfl⟩) (List.mem_map.2 ⟨_, hr2, rfl⟩))
theorem sok_sta {w : Nat} {l : List Ps} (h : SOk w l) : Sta w (l.map nf) :=
 ⟨(good_iff h.hi h.vl).1 h.good, (rank_ind h.hi h.vl).1 h.rank, by rw [List.length_map, h.len], fun a ha => by
  obtain ⟨q, hq, rfl⟩ := List.mem_map.1 ha
  exact vec_in h.hi (h.vl q hq)⟩
theorem sta_sok {w : Nat} (hw : 1 ≤ w ∧ w ≤ 12) {l : List Ps} (hv : ∀ q, q ∈ l → Vl w q) (h : Sta w (l.map nf)) : SOk w l :=
 ⟨hw.1, hw.2, by have := h.len; rwa [List.length_map] at this, hv, (good_iff hw.2 hv).2 h.good, (rank_ind hw.2 hv).2 h.ind⟩
end Go.Tz
namespace Go.Tz
open Go Go.AL Go.Ma
def SameG (L M : List E) : Prop := ∀ g, Gen L g ↔ Gen M g
theorem sameG_of {L M : List E} (hL : Good L) (h1 : ∀ a, a ∈ M → Gen L a) (h2 : ∀ a, a ∈ L → Gen M a) : SameG L M := fun _ => ⟨gen_sub (good_of hL h1) h2, gen_sub hL h1⟩
theorem sta_same {w : Nat} (hw : w ≤ 12) {L M : List E} (hL : Sta w L) (hM : M.length = w) (h1 : ∀ a, a ∈ M → Gen L a) (h2 : ∀ a, a ∈ L → Gen M a) : Sta w M := by
 have hlt : ∀ v, inV w v → v < 2 ^ 24 := fun v hv => sp_lt _ (U_lt hw) _ hv
 have hin : ∀ a, a ∈ M → inV w a.2 := fun a ha => by
  have := gen_span (h1 a ha)
  refine sp_sub _ _ (fun b hb => ?_) _ this
  obtain ⟨q, hq, rfl⟩ := List.mem_map.1 hb
  exact hL.inv q hq
 refine ⟨good_of hL.good h1, ?_, hM, hin⟩
 have : rk (M.map (·.2)) = rk (L.map (·.2)) := by
  refine rk_eq (k := 24) ?_ ?_ (sp_ext ?_ ?_)
  ·intro a ha
   obtain ⟨q, hq, rfl⟩ := List.mem_map.1 ha; exact hlt _ (hin q hq)
  ·intro a ha
   obtain ⟨q, hq, rfl⟩ := List.mem_map.1 ha; exact hlt _ (hL.inv q hq)
  ·intro a ha
   obtain ⟨q, hq, rfl⟩ := List.mem_map.1 ha; exact gen_span (h1 q hq)
  ·intro a ha
   obtain ⟨q, hq, rfl⟩ := List.mem_map.1 ha; exact gen_span (h2 q hq)
 unfold Ind
 rw [this, hL.ind]; simp [hL.len, hM]
theorem redRows_gen {w : Nat} (hw : w ≤ 12) {l : List Ps} (hv : ∀ q, q ∈ l → Vl w q) (hG : Good (l.map nf)) : ∀ {c : Nat}, c ≤ 2 * w → (∀ j, j < l.length → Gen (l.map nf) (nf ((redN l c).1 j))) ∧ ∀ a, a ∈ l.map nf → Gen ((redRows l c).map nf) a
 | 0, _ => by
  have e : ∀ j (h : j < l.length), (redN l 0).1 j = l[j] := fun j h => by
   show l.getD j Ps.z0 = l[j]
   rw [List.getD_eq_getElem?_getD, List.getElem?_eq_getElem h]; rfl
  refine ⟨fun j hj => ?_, fun a ha => ?_⟩
  ·rw [e j hj]; exact gen_mem' hG (List.mem_map.2 ⟨_, List.getElem_mem hj, rfl⟩)
  ·obtain ⟨q, hq, rfl⟩ := List.mem_map.1 ha
   obtain ⟨j, hj, rfl⟩ := List.getElem_of_mem hq
   refine gen_mem (fun b hb => ?_) (List.mem_map.2 ⟨(redN l 0).1 j, List.mem_map.2 ⟨j, List.mem_range.2 hj, rfl⟩, by rw [e j hj]⟩)
   obtain ⟨r, _, rfl⟩ := List.mem_map.1 hb
   exact nf_lt r
 | c + 1, hc => by
  obtain ⟨h1, h2⟩ := redRows_gen hw hv hG (c := c) (by omega)
  obtain ⟨q1, q2⟩ := red_vl hw hv c
  have hmem : ∀ (f : Nat → Ps) j, j < l.length → nf (f j) ∈ ((List.range l.length).map f).map nf := fun f j hj => List.mem_map.2 ⟨f j, List.mem_map.2 ⟨j, List.mem_range.2 hj, rfl⟩, rfl⟩
  simp only [redRows, redN, colS]
  cases hf : fndO (redN l c).1 l.length c (redN l c).2.2 with
  | none => exact ⟨h1, h2⟩
  | some f =>
   obtain ⟨f1, f2, f3, f4⟩ := fndO_some hf
   have ha : (redN l c).2.2 < l.length := by omega
   dsimp only
   generalize (redN l c).2.2 = a at f1 ha ⊢
   have sV : ∀ j, j < l.length → Vl w (swapF (redN l c).1 a f j) := fun j hj => by
    unfold swapF
    split
    ·exact q1 f f2
    ·split
     ·exact q1 _ ha
     ·exact q1 j hj
   have sG : ∀ j, j < l.length → Gen (l.map nf) (nf (swapF (redN l c).1 a f j)) := fun j hj => by
    unfold swapF
    split
    ·exact h1 f f2
    ·split
     ·exact h1 _ ha
     ·exact h1 j hj
   have sB : ∀ j, j < l.length → ∃ i, i < l.length ∧ (redN l c).1 j = swapF (redN l c).1 a f i := fun j hj => by
    by_cases e1 : j = f
    ·exact ⟨a, ha, by unfold swapF; rw [if_pos rfl, e1]⟩
    ·by_cases e2 : j = a
     ·exact ⟨f, f2, by unfold swapF; rw [if_neg (by omega), if_pos rfl, e2]⟩
     ·exact ⟨j, hj, by unfold swapF; rw [if_neg e2, if_neg e1]⟩
   generalize swapF (redN l c).1 a f = s at sV sG sB
   have cG : ∀ j, j < l.length → Gen (l.map nf) (nf (clrR s a c l.length j)) := fun j hj => by
    unfold clrR
    split
    ·rw [nf_mul hw (sV j hj) (sV a ha)]; exact gen_mul' hG (sG j hj) (sG a ha)
    ·exact sG j hj
   have hM : Good (((List.range l.length).map (clrR s a c l.length)).map nf) := good_of hG fun b hb => by
    obtain ⟨r, hr, rfl⟩ := List.mem_map.1 hb
    obtain ⟨j, hj, rfl⟩ := List.mem_map.1 hr
    exact cG j (List.mem_range.1 hj)
   have gA : Gen (((List.range l.length).map (clrR s a c l.length)).map nf) (nf (s a)) := by
    have := gen_mem' hM (hmem (clrR s a c l.length) a ha)
    rwa [clrR_a] at this
   have gS : ∀ j, j < l.length → Gen (((List.range l.length).map (clrR s a c l.length)).map nf) (nf (s j)) := fun j hj => by
    have h := gen_mem' hM (hmem (clrR s a c l.length) j hj)
    unfold clrR at h
    skip
    split at h
    ·rw [nf_mul hw (sV j hj) (sV a ha)] at h
     have h3 := gen_mul' hM h gA
     rw [emul_assoc, emul_self (gen_ok hG (sG a ha)), emul_one _ (nf_lt _)] at h3
     exact h3
    ·exact h
   refine ⟨cG, fun b hb => ?_⟩
   refine gen_sub hM (fun x hx => ?_) (h2 b hb)
   obtain ⟨r, hr, rfl⟩ := List.mem_map.1 hx
   obtain ⟨j, hj, rfl⟩ := List.mem_map.1 hr
   obtain ⟨i, hi, e⟩ := sB j (List.mem_range.1 hj)
   rw [e]; exact gS i hi
theorem redRows_ok {w : Nat} {l : List Ps} (h : SOk w l) : SOk w (redRows l (2 * w)) ∧ SameG (l.map nf) ((redRows l (2 * w)).map nf) := by
 have hs := sok_sta h
 obtain ⟨h1, h2⟩ := redRows_gen h.hi h.vl hs.good (Nat.le_refl (2 * w))
 have h1' : ∀ a, a ∈ (redRows l (2 * w)).map nf → Gen (l.map nf) a := fun a ha => by
  obtain ⟨r, hr, rfl⟩ := List.mem_map.1 ha
  obtain ⟨j, hj, rfl⟩ := List.mem_map.1 hr
  exact h1 j (List.mem_range.1 hj)
 refine ⟨sta_sok ⟨h.lo, h.hi⟩ (fun q hq => ?_) (sta_same h.hi hs (by rw [List.length_map, redRows_len, h.len]) h1' h2), sameG_of hs.good h1' h2⟩
 obtain ⟨j, hj, rfl⟩ := List.mem_map.1 hq
 exact (red_vl h.hi h.vl _).1 j (List.mem_range.1 hj)
end Go.Tz
namespace Go.Tz
open Go Go.AL Go.Ma
theorem oth_bit (r : Rn) (j : Nat) : ∀ l : List Rn, (oth r l).testBit j = l.any fun x => decide (x ≠ r) && x.1.testBit j := by
 have key : ∀ (l : List Rn) (o : Nat), (l.foldl (fun o x => if x = r then o else o ||| x.1) o).testBit j = (o.testBit j || l.any fun x => decide (x ≠ r) && x.1.testBit j) := by
  intro l
  induction l with
  | nil => intro o; simp
  | cons x l ih =>
   intro o
   rw [List.foldl_cons, ih, List.any_cons]
   by_cases e : x = r
   ·rw [if_pos e]; simp [e]
   ·rw [if_neg e, Nat.testBit_or]; simp [e, Bool.or_assoc]
 intro l
 unfold oth
 rw [key, Nat.zero_testBit, Bool.false_or]
end Go.Tz
namespace Go.Tz
open Go Go.AL Go.Ma
theorem min_bit {b r p : Nat} (hr : r.testBit p = true) (hp : r < 2 ^ (p + 1)) : (min b (b ^^^ r)).testBit p = false := by
 have hb : ∀ a : Nat, (a.testBit p = true → a ^^^ r < a) := by
  intro a ha
  have h1 : a / 2 ^ (p + 1) = (a ^^^ r) / 2 ^ (p + 1) := by
   have : (a ^^^ r) >>> (p + 1) = a >>> (p + 1) := by
    rw [Nat.shiftRight_xor_distrib]
    have : r >>> (p + 1) = 0 := by rw [Nat.shiftRight_eq_div_pow]; exact Nat.div_eq_of_lt hp
    rw [this, Nat.xor_zero]
   rw [Nat.shiftRight_eq_div_pow, Nat.shiftRight_eq_div_pow] at this
   exact this.symm
  have h2 : (a ^^^ r).testBit p = false := by rw [Nat.testBit_xor, ha, hr]; rfl
  have e1 : a % 2 ^ (p + 1) = a % 2 ^ p + 2 ^ p := by
   rw [Nat.pow_succ, Nat.mod_mul]
   rw [Nat.testBit_eq_decide_div_mod_eq] at ha
   have : a / 2 ^ p % 2 = 1 := by simpa using ha
   rw [this]; omega
  have e2 : (a ^^^ r) % 2 ^ (p + 1) = (a ^^^ r) % 2 ^ p := by
   rw [Nat.pow_succ, Nat.mod_mul]
   rw [Nat.testBit_eq_decide_div_mod_eq] at h2
   have : (a ^^^ r) / 2 ^ p % 2 = 0 := by
    have := Nat.mod_two_eq_zero_or_one ((a ^^^ r) / 2 ^ p)
    rcases this with h | h
    ·exact h
    ·rw [h] at h2; simp at h2
   rw [this]; omega
  have e3 : (a ^^^ r) % 2 ^ p < 2 ^ p := Nat.mod_lt _ (Nat.two_pow_pos p)
  have e4 := Nat.div_add_mod a (2 ^ (p + 1))
  have e5 := Nat.div_add_mod (a ^^^ r) (2 ^ (p + 1))
  rw [← h1] at e5
  omega
 by_cases h : b.testBit p = true
 ·have := hb b h
  rw [Nat.min_eq_right (by omega), Nat.testBit_xor, h, hr]; rfl
 ·have h' : (b ^^^ r).testBit p = true := by rw [Nat.testBit_xor, hr]; simp [h]
  have := hb (b ^^^ r) h'
  rw [xor_cancel] at this
  rw [Nat.min_eq_left (by omega)]
  simpa using h
theorem top_bit {r : Nat} (h : r ≠ 0) : r.testBit (Nat.log2 r) = true ∧ r < 2 ^ (Nat.log2 r + 1) := by
 have h1 := Nat.lt_log2_self (n := r)
 refine ⟨?_, h1⟩
 have h2 := Nat.log2_self_le h
 rw [Nat.testBit_eq_decide_div_mod_eq]
 have : r / 2 ^ Nat.log2 r = 1 := by
  rw [Nat.pow_succ] at h1
  have a1 : 1 ≤ r / 2 ^ Nat.log2 r := by rw [Nat.le_div_iff_mul_le (Nat.two_pow_pos _)]; omega
  have a2 : r / 2 ^ Nat.log2 r < 2 := by rw [Nat.div_lt_iff_lt_mul (Nat.two_pow_pos _)]; omega
  omega
 rw [this]; rfl
structure Bas (B : List Nat) : Prop where
 nz : ∀ r, r ∈ B → r ≠ 0
 pw : B.Pairwise fun r r' => r'.testBit (Nat.log2 r) = false
theorem bas_ind : ∀ {B : List Nat}, Bas B → Ind B
 | [], _ => rfl
 | r :: B, hB => by
  have hB2 : Bas B := ⟨fun x hx => hB.nz x (List.mem_cons_of_mem _ hx), (List.pairwise_cons.1 hB.pw).2⟩
  refine ind_cons.2 ⟨bas_ind hB2, ?_⟩
  cases e : spB B r with
  | false => rfl
  | true =>
   have := sp_bit (j := Nat.log2 r) B (List.pairwise_cons.1 hB.pw).1 _ e
   rw [(top_bit (hB.nz r (by simp))).1] at this; cases this
theorem min_spec (b : Nat) : ∀ (n : Nat) (B : List Nat), B.length = n → Bas B → (∀ r, r ∈ B → (minB B b).testBit (Nat.log2 r) = false) ∧ spB B (minB B b ^^^ b) = true
 | 0, B, hl, _ => by
  have : B = [] := List.length_eq_zero_iff.1 hl
  subst this
  refine ⟨fun r hr => (by cases hr), ?_⟩
  show spB [] (b ^^^ b) = true
  rw [Nat.xor_self]; rfl
 | n + 1, B, hl, hB => by
  obtain ⟨A, r, rfl⟩ : ∃ A r, B = A ++ [r] := ⟨B.dropLast, B.getLast (by intro e; subst e; cases hl), (List.dropLast_concat_getLast _).symm⟩
  have hA : Bas A := ⟨fun x hx => hB.nz x (by simp [hx]), (List.pairwise_append.1 hB.pw).1⟩
  have hcross := (List.pairwise_append.1 hB.pw).2.2
  obtain ⟨i1, i2⟩ := min_spec b n A (by simpa using hl) hA
  have hr := top_bit (hB.nz r (by simp))
  have e : minB (A ++ [r]) b = min (minB A b) (minB A b ^^^ r) := by unfold minB; rw [List.foldl_append]; rfl
  rw [e]
  have up : ∀ v, spB A v = true → spB (A ++ [r]) v = true := sp_sub A _ fun a ha => sp_mem _ _ (by simp [ha])
  refine ⟨fun x hx => ?_, ?_⟩
  ·rcases List.mem_append.1 hx with h | h
   ·have c1 := i1 x h
    have c2 : (minB A b ^^^ r).testBit (Nat.log2 x) = false := by rw [Nat.testBit_xor, c1, hcross x h r (by simp)]; rfl
    rcases Nat.le_total (minB A b) (minB A b ^^^ r) with q | q
    ·rw [Nat.min_eq_left q]; exact c1
    ·rw [Nat.min_eq_right q]; exact c2
   ·rw [List.mem_singleton.1 h]; exact min_bit hr.1 hr.2
  ·rcases Nat.le_total (minB A b) (minB A b ^^^ r) with q | q
   ·rw [Nat.min_eq_left q]; exact up _ i2
   ·rw [Nat.min_eq_right q]
    have e2 : minB A b ^^^ r ^^^ b = minB A b ^^^ b ^^^ r := by rw [Nat.xor_assoc, Nat.xor_comm r, ← Nat.xor_assoc]
    rw [e2]
    exact sp_xor _ _ _ (up _ i2) (sp_mem _ _ (by simp))
theorem rk_spec (l : List Rn) : ∀ i, i ≤ l.length → Bas (rkSt l i).2 ∧ (∀ v, spB (rkSt l i).2 v = spB ((l.take i).map fun p => p.1 + 4096 * p.2) v) ∧ ∀ p, p ∈ (rkSt l i).1 → p ∈ l.take i
 | 0, _ => ⟨⟨fun _ h => (by cases h), .nil⟩, fun _ => rfl, fun _ h => (by cases h)⟩
 | i + 1, hi => by
  obtain ⟨h1, h2, h3⟩ := rk_spec l i (by omega)
  rw [rkSt_snoc (by omega), take_snoc (show i < l.length by omega)]
  generalize rkSt l i = s at h1 h2 h3
  generalize l[i] = p
  have hsub : ∀ v, spB s.2 v = true → spB ((l.take i ++ [p]).map fun p => p.1 + 4096 * p.2) v = true := fun v hv => by
   rw [h2] at hv
   exact sp_sub _ _ (fun a ha => by
    obtain ⟨q, hq, rfl⟩ := List.mem_map.1 ha
    exact sp_mem _ _ (List.mem_map.2 ⟨q, by simp [hq], rfl⟩)) v hv
  have hp : spB ((l.take i ++ [p]).map fun p => p.1 + 4096 * p.2) (p.1 + 4096 * p.2) = true := sp_mem _ _ (List.mem_map.2 ⟨p, by simp, rfl⟩)
  have back : ∀ B : List Nat, (∀ v, spB s.2 v = true → spB B v = true) → spB B (p.1 + 4096 * p.2) = true → ∀ a, a ∈ (l.take i ++ [p]).map (fun p => p.1 + 4096 * p.2) → spB B a = true := fun B hB hv a ha => by
   obtain ⟨q, hq, rfl⟩ := List.mem_map.1 ha
   rcases List.mem_append.1 hq with e | e
   ·exact hB _ (by rw [h2]; exact sp_mem _ _ (List.mem_map.2 ⟨q, e, rfl⟩))
   ·rw [List.mem_singleton.1 e]; exact hv
  unfold rkStep
  by_cases c : p ∈ s.1
  ·rw [if_pos c]
   have hv : spB s.2 (p.1 + 4096 * p.2) = true := by rw [h2]; exact sp_mem _ _ (List.mem_map.2 ⟨p, h3 p c, rfl⟩)
   exact ⟨h1, sp_ext (fun a ha => hsub a (sp_mem _ _ ha)) (back _ (fun _ h => h) hv), fun q hq => by simp [h3 q hq]⟩
  ·rw [if_neg c]
   obtain ⟨m1, m2⟩ := min_spec (p.1 + 4096 * p.2) _ s.2 rfl h1
   have hm3 : ∀ q, q ∈ s.1 ++ [p] → q ∈ l.take i ++ [p] := fun q hq => by
    rcases List.mem_append.1 hq with e | e
    ·simp [h3 q e]
    ·rw [List.mem_singleton.1 e]; simp
   dsimp only
   generalize minB s.2 (p.1 + 4096 * p.2) = m at m1 m2 ⊢
   by_cases z : m = 0
   ·rw [if_pos z]
    rw [z, Nat.zero_xor] at m2
    exact ⟨h1, sp_ext (fun a ha => hsub a (sp_mem _ _ ha)) (back _ (fun _ h => h) m2), hm3⟩
   ·rw [if_neg z]
    refine ⟨⟨fun r hr => ?_, List.pairwise_append.2 ⟨h1.pw, List.pairwise_singleton _ _, fun a ha b hb => ?_⟩⟩, sp_ext (fun a ha => ?_) (back _ (fun v hv => sp_sub _ _ (fun a ha => sp_mem _ _ (by simp [ha])) v hv) ?_), hm3⟩
    ·rcases List.mem_append.1 hr with e | e
     ·exact h1.nz r e
     ·rw [List.mem_singleton.1 e]; exact z
    ·rw [List.mem_singleton.1 hb]; exact m1 a ha
    ·rcases List.mem_append.1 ha with e | e
     ·exact hsub a (sp_mem _ _ e)
     ·rw [List.mem_singleton.1 e]
      have := sp_xor _ _ _ (hsub _ m2) hp
      rwa [xor_cancel] at this
    ·have a1 : spB (s.2 ++ [m]) (m ^^^ (p.1 + 4096 * p.2)) = true := sp_sub _ _ (fun a ha => sp_mem _ _ (by simp [ha])) _ m2
     have a2 : spB (s.2 ++ [m]) m = true := sp_mem _ _ (by simp)
     have := sp_xor _ _ _ a1 a2
     have e : m ^^^ (p.1 + 4096 * p.2) ^^^ m = p.1 + 4096 * p.2 := by rw [Nat.xor_comm m, xor_cancel]
     rwa [e] at this
theorem rk_len {l : List Rn} (h : ∀ r, r ∈ l → r.1 < 4096 ∧ r.2 < 4096) : (rkSt l l.length).2.length = rk (l.map fun p => p.1 + 4096 * p.2) := by
 obtain ⟨h1, h2, _⟩ := rk_spec l l.length (Nat.le_refl _)
 rw [List.take_length] at h2
 have := bas_ind h1
 unfold Ind at this
 rw [← this]
 refine rk_eq (k := 24) (fun a ha => (rk_inv h (Nat.le_refl _)).2 a ha) (fun a ha => ?_) h2
 obtain ⟨q, hq, rfl⟩ := List.mem_map.1 ha
 have := h q hq
 omega
end Go.Tz
namespace Go.Tz
open Go Go.AL Go.Ma
theorem pop_x (N a : Nat) : ∀ k, pop k (N ^^^ 2 ^ a) + (if a < k then (N.testBit a).toNat else 0) = pop k N + (if a < k then (!N.testBit a).toNat else 0)
 | 0 => by simp [pop]
 | k + 1 => by
  have ih := pop_x N a k
  simp only [pop, Nat.testBit_xor, Nat.testBit_two_pow]
  by_cases h : a = k
  ·subst h
   rw [if_neg (by omega), if_neg (by omega)] at ih
   rw [if_pos (by omega), if_pos (by omega)]
   cases N.testBit a <;> simp <;> omega
  ·rw [decide_eq_false h, Bool.xor_false]
   by_cases h2 : a < k
   ·rw [if_pos h2, if_pos h2] at ih
    rw [if_pos (by omega), if_pos (by omega)]; omega
   ·rw [if_neg h2, if_neg h2] at ih
    rw [if_neg (by omega), if_neg (by omega)]; omega
theorem and_set {X Z a : Nat} (x' z' : Bool) : (X ^^^ cd (X.testBit a != x') (2 ^ a)) &&& (Z ^^^ cd (Z.testBit a != z') (2 ^ a)) = (X &&& Z) ^^^ cd ((X.testBit a && Z.testBit a) != (x' && z')) (2 ^ a) := by
 refine Nat.eq_of_testBit_eq fun j => ?_
 simp only [Nat.testBit_and, Nat.testBit_xor, tb_cd, Nat.testBit_two_pow]
 by_cases e : a = j
 ·subst e
  rw [decide_eq_true (show a = a from rfl)]
  cases X.testBit a <;> cases Z.testBit a <;> cases x' <;> cases z' <;> rfl
 ·rw [decide_eq_false e]; simp
theorem pop_cd {N a : Nat} (ha : a < 12) (t : Bool) : pop 12 (N ^^^ cd (N.testBit a != t) (2 ^ a)) + (N.testBit a).toNat = pop 12 N + t.toNat := by
 have := pop_x N a 12
 rw [if_pos ha, if_pos ha] at this
 cases e : N.testBit a <;> cases t <;> simp [cd, e] at this ⊢ <;> omega
theorem vec_split {A B : Nat} (hA : A < 4096) : A + 4096 * B = A ^^^ 4096 * B := by
 have := vec_xor (X := A) (Z := 0) (X' := 0) (Z' := B) hA (by decide)
 simp at this
 exact this.symm
theorem vecb_x {X Z a : Nat} (hX : X < 4096) (ha : a < 12) : (X + 4096 * Z).testBit a = X.testBit a := by rw [vec_bit hX, if_pos ha]
theorem vecb_z {X Z a : Nat} (hX : X < 4096) : (X + 4096 * Z).testBit (12 + a) = Z.testBit a := by
 rw [vec_bit hX, if_neg (by omega)]
 congr 1; omega
theorem nf_set {w X Z P a : Nat} (hX : X < 4096) (_hZ : Z < 4096) (ha : a < 12) (x' z' : Bool) :
  nf (mk w (X ^^^ cd (X.testBit a != x') (2 ^ a)) (Z ^^^ cd (Z.testBit a != z') (2 ^ a)) P) = emul (eclr a (nf (mk w X Z P))) (eL a x' z') := by
 have hp : ∀ t, cd t (2 ^ a) < 4096 := fun t => by
  cases t
  ·show 0 < 4096; decide
  ·exact (Nat.pow_lt_pow_right (by decide) ha : (2 : Nat) ^ a < 2 ^ 12)
 rw [nf_mk, nf_mk]
 refine e_ext ?_ ?_
 ·simp only [emul, eclr, eL]
  rw [vecb_x hX ha, vecb_z hX, and_set]
  have q := pop_cd (N := X &&& Z) ha (x' && z')
  rw [Nat.testBit_and] at q
  have hb : bt ((X + 4096 * Z) ^^^ (cd (X.testBit a) (2 ^ a) ^^^ cd (Z.testBit a) (2 ^ (12 + a)))) (cd x' (2 ^ a) ^^^ cd z' (2 ^ (12 + a))) = false := by
   have q2 : decide (a = 12 + a) = false := decide_eq_false (by omega)
   simp only [bt_xorr, bt_cdr, bt_rlo ha, bt_rhi, Nat.testBit_xor, tb_cd, Nat.testBit_two_pow, q2, vecb_z hX]
   simp
  rw [hb]
  generalize pop 12 ((X &&& Z) ^^^ cd ((X.testBit a && Z.testBit a) != (x' && z')) (2 ^ a)) = u at *
  generalize pop 12 (X &&& Z) = v at *
  generalize (X.testBit a && Z.testBit a).toNat = s at *
  generalize (x' && z').toNat = t at *
  show (P + u) % 4 = _
  simp only [Bool.toNat_false]
  omega
 ·simp only [emul, eclr, eL]
  rw [vecb_x hX ha, vecb_z hX, ← vec_xor hX (hp _), cd_xor, cd_xor, vec_split (A := cd (X.testBit a) (2 ^ a) ^^^ cd x' (2 ^ a)) (Nat.xor_lt_two_pow (n := 12) (hp _) (hp _))]
  have d : 4096 * (cd (Z.testBit a) (2 ^ a) ^^^ cd z' (2 ^ a)) = cd (Z.testBit a) (2 ^ (12 + a)) ^^^ cd z' (2 ^ (12 + a)) := by
   cases Z.testBit a <;> cases z' <;> simp [cd, Nat.pow_add]
  rw [d]; ac_rfl
theorem nf_letter {w n l : Nat} (hn : n < 12) (_hl : l ≤ 3) : nf (oneS w n l) = eL n (decide (l = 1) || decide (l = 2)) (decide (l = 2) || decide (l = 3)) := by
 have hs : oneS w n l = mk w (0 ^^^ cd ((0 : Nat).testBit n != (decide (l = 1) || decide (l = 2))) (2 ^ n)) (0 ^^^ cd ((0 : Nat).testBit n != (decide (l = 2) || decide (l = 3))) (2 ^ n)) 0 := by
  unfold oneS mk
  rw [pow_nat (by omega)]
  have c1 : ((l : Int) = 1 ∨ (l : Int) = 2) ↔ ((decide (l = 1) || decide (l = 2)) = true) := by simp; omega
  have c2 : ((l : Int) = 3 ∨ (l : Int) = 2) ↔ ((decide (l = 2) || decide (l = 3)) = true) := by simp; omega
  simp only [c1, c2, Nat.zero_testBit]
  cases (decide (l = 1) || decide (l = 2)) <;> cases (decide (l = 2) || decide (l = 3)) <;> simp [cd]
 rw [hs, nf_set (by decide) (by decide) hn]
 have h0 : eclr n (nf (mk w 0 0 0)) = e1 := by
  rw [nf_mk]
  simp [eclr, pop_zero, cd, e1]
 rw [h0, one_emul _ (eL_lt _ _ _)]
theorem one_vl {w n l : Nat} (hn : n < w) (hw : w ≤ 12) : Vl w (oneS w n l) := by
 have hp : (2 : Nat) ^ n < 2 ^ w := Nat.pow_lt_pow_right (by decide) hn
 refine ⟨if (l : Int) = 1 ∨ (l : Int) = 2 then 2 ^ n else 0, if (l : Int) = 3 ∨ (l : Int) = 2 then 2 ^ n else 0, 0, ?_, ?_, ?_, by decide⟩
 ·unfold oneS mk
  rw [pow_nat (by omega)]
  simp only [Ps.mk.injEq, true_and]
  refine ⟨?_, ?_, rfl⟩ <;> split <;> rfl
 ·split
  ·exact hp
  ·exact Nat.two_pow_pos w
 ·split
  ·exact hp
  ·exact Nat.two_pow_pos w
def dec (w : Nat) (e : E) : Ps := mk w (e.2 % 4096) (e.2 / 4096) ((e.1 + 3 * pop 12 ((e.2 % 4096) &&& (e.2 / 4096))) % 4)
theorem nf_dec (w : Nat) {e : E} (h : e.1 < 4) : nf (dec w e) = e := by
 unfold dec
 rw [nf_mk]
 refine e_ext ?_ ?_
 ·dsimp only; omega
 ·dsimp only; omega
theorem dec_vl {w : Nat} {e : E} (hw : w ≤ 12) (h : ∀ j, (w ≤ j ∧ j < 12) ∨ 12 + w ≤ j → e.2.testBit j = false) : Vl w (dec w e) := by
 refine ⟨_, _, _, rfl, ?_, ?_, Nat.mod_lt _ (by decide)⟩
 ·refine Nat.lt_pow_two_of_testBit _ fun j hj => ?_
  rw [show (4096 : Nat) = 2 ^ 12 from rfl, Nat.testBit_mod_two_pow]
  by_cases h12 : j < 12
  ·rw [h j (by omega)]; simp
  ·simp [h12]
 ·refine Nat.lt_pow_two_of_testBit _ fun j hj => ?_
  rw [show (4096 : Nat) = 2 ^ 12 from rfl, ← Nat.shiftRight_eq_div_pow, Nat.testBit_shiftRight]
  exact h _ (by omega)
theorem vl_bits {w : Nat} {q : Ps} (hw : w ≤ 12) (h : Vl w q) {j : Nat} (hj : (w ≤ j ∧ j < 12) ∨ 12 + w ≤ j) : (nf q).2.testBit j = false := by
 obtain ⟨X, Z, P, rfl, h1, h2, h3⟩ := h
 have hp : (2 : Nat) ^ w ≤ 2 ^ 12 := Nat.pow_le_pow_right (by decide) hw
 rw [nf_mk]
 dsimp only
 rw [vec_bit (by omega)]
 split
 ·exact Nat.testBit_lt_two_pow (Nat.lt_of_lt_of_le h1 (Nat.pow_le_pow_right (by decide) (by omega)))
 ·exact Nat.testBit_lt_two_pow (Nat.lt_of_lt_of_le h2 (Nat.pow_le_pow_right (by decide) (by omega)))
def thrS (w k a b : Nat) (q : Ps) : Ps := dec w (gE k a b (nf q))
def gR (w k a b : Nat) : Prop := (1 ≤ k ∧ k ≤ 6 ∧ a < w) ∨ (9 ≤ k ∧ k ≤ 11 ∧ a < w ∧ b < w ∧ a ≠ b)
theorem gR_ok {w k a b : Nat} (hw : w ≤ 12) (h : gR w k a b) : gOk k a b := by unfold gR at h; unfold gOk; omega
theorem thr_vl {w k a b : Nat} (hw : w ≤ 12) (h : gR w k a b) {q : Ps} (hq : Vl w q) : Vl w (thrS w k a b q) :=
 dec_vl hw fun j hj => gL_bits (gR_ok hw h) (w := w) (by unfold gR at h; omega) (by unfold gR at h; omega) hj (vl_bits hw hq hj)
theorem nf_thr (w k a b : Nat) (q : Ps) : nf (thrS w k a b q) = gE k a b (nf q) := nf_dec w (gE_lt _ _ _ _)
def ptS (w X Z P n : Nat) : Ps := mk w (X % 2 ^ n) (Z % 2 ^ n) P
theorem nf_pt {w X Z P n : Nat} (hn : n < 12) : nf (ptS w X Z P (n + 1)) = emul (nf (ptS w X Z P n)) (eL n (X.testBit n) (Z.testBit n)) := by
 have hp : (2 : Nat) ^ (n + 1) ≤ 2 ^ 12 := Nat.pow_le_pow_right (by decide) hn
 have hX : X % 2 ^ (n + 1) < 4096 := Nat.lt_of_lt_of_le (Nat.mod_lt _ (Nat.two_pow_pos _)) hp
 have hZ : Z % 2 ^ (n + 1) < 4096 := Nat.lt_of_lt_of_le (Nat.mod_lt _ (Nat.two_pow_pos _)) hp
 have hb : ∀ Y : Nat, (Y % 2 ^ (n + 1)).testBit n = Y.testBit n := fun Y => by rw [Nat.testBit_mod_two_pow]; simp
 have hc : ∀ Y : Nat, Y % 2 ^ (n + 1) ^^^ cd ((Y % 2 ^ (n + 1)).testBit n != false) (2 ^ n) = Y % 2 ^ n := fun Y => by
  refine Nat.eq_of_testBit_eq fun j => ?_
  rw [hb, Nat.testBit_xor, tb_cd, Nat.testBit_two_pow, Nat.testBit_mod_two_pow, Nat.testBit_mod_two_pow]
  by_cases e : n = j
  ·subst e; simp
  ·rw [decide_eq_false e]
   have : decide (j < n + 1) = decide (j < n) := decide_eq_decide.2 (by omega)
   rw [this]; simp
 have h1 := nf_set (w := w) (P := P) hX hZ hn false false
 rw [hc, hc] at h1
 have h2 : eL n false false = e1 := by simp [eL, cd, e1]
 rw [h2, emul_one _ (eclr_lt _ _)] at h1
 unfold ptS
 rw [h1]
 have h3 := eclr_mul hn (nf_lt (mk w (X % 2 ^ (n + 1)) (Z % 2 ^ (n + 1)) P))
 have hx : (nf (mk w (X % 2 ^ (n + 1)) (Z % 2 ^ (n + 1)) P)).2.testBit n = X.testBit n := by rw [nf_mk]; dsimp only; rw [vecb_x hX hn, hb]
 have hz : (nf (mk w (X % 2 ^ (n + 1)) (Z % 2 ^ (n + 1)) P)).2.testBit (12 + n) = Z.testBit n := by rw [nf_mk]; dsimp only; rw [vecb_z hX, hb]
 rw [hx, hz] at h3
 exact h3.symm
theorem pt_0 {w X Z P k a b : Nat} (h : gOk k a b) : nf (ptS w X Z P 0) = gE k a b (nf (ptS w X Z P 0)) := by
 refine (gE_fix h (nf_lt _) ?_ ?_ fun _ => ⟨?_, ?_⟩).symm <;> (unfold ptS; rw [nf_mk, Nat.pow_zero, Nat.mod_one, Nat.mod_one]; simp)
theorem pt_all {w X Z P n : Nat} (hX : X < 2 ^ n) (hZ : Z < 2 ^ n) : ptS w X Z P n = mk w X Z P := by
 unfold ptS; rw [Nat.mod_eq_of_lt hX, Nat.mod_eq_of_lt hZ]
theorem pt_step {w X Z P k a b n : Nat} (h : gOk k a b) (hn : n < 12) {e : E} (he : e = gE k a b (nf (ptS w X Z P n))) : emul e (gE k a b (eL n (X.testBit n) (Z.testBit n))) = gE k a b (nf (ptS w X Z P (n + 1))) := by
 rw [he, ← gE_mul h, ← nf_pt hn]
theorem pt_skip {w X Z P k a b n : Nat} (h : gOk k a b) (hn : n < 12) (hx : X.testBit n = false) (hz : Z.testBit n = false) {e : E} (he : e = gE k a b (nf (ptS w X Z P n))) : e = gE k a b (nf (ptS w X Z P (n + 1))) := by
 have h0 : eL n false false = e1 := by simp [eL, cd, e1]
 have := pt_step h hn he
 rw [hx, hz, h0, gE_one h, emul_one _ (by rw [he]; exact gE_lt _ _ _ _)] at this
 exact this
end Go.Tz
namespace Go.Tz
open Go Go.AL Go.Ma
def appS (w k a b : Nat) (l : List Ps) : List Ps := redRows (l.map (thrS w k a b)) (2 * w)
theorem map_thr_nf (w k a b : Nat) (l : List Ps) : (l.map (thrS w k a b)).map nf = (l.map nf).map (gE k a b) := by
 rw [List.map_map, List.map_map]
 exact List.map_congr_left fun q _ => nf_thr w k a b q
theorem thr_all_vl {w k a b : Nat} (hw : w ≤ 12) (hg : gR w k a b) {l : List Ps} (hv : ∀ q, q ∈ l → Vl w q) : ∀ q, q ∈ l.map (thrS w k a b) → Vl w q := fun q hq => by
 obtain ⟨r, hr, rfl⟩ := List.mem_map.1 hq
 exact thr_vl hw hg (hv r hr)
theorem map_thr_sok {w k a b : Nat} (hg : gR w k a b) {l : List Ps} (h : SOk w l) : SOk w (l.map (thrS w k a b)) := by
 refine sta_sok ⟨h.lo, h.hi⟩ (thr_all_vl h.hi hg h.vl) ?_
 rw [map_thr_nf]
 exact gE_sta h.hi (gR_ok h.hi hg) (by unfold gR at hg; omega) (by unfold gR at hg; omega) (sok_sta h)
theorem app_sok {w k a b : Nat} (hg : gR w k a b) {l : List Ps} (h : SOk w l) : SOk w (appS w k a b l) := (redRows_ok (map_thr_sok hg h)).1
theorem red_all_vl {w : Nat} (hw : w ≤ 12) {l : List Ps} (hv : ∀ q, q ∈ l → Vl w q) (c : Nat) : ∀ q, q ∈ redRows l c → Vl w q := fun q hq => by
 obtain ⟨j, hj, rfl⟩ := List.mem_map.1 hq
 exact (red_vl hw hv c).1 j (List.mem_range.1 hj)
end Go.Tz
namespace Go.Tz
open Go Go.AL Go.Ma
def zP (w n o : Nat) : Ps := mk w 0 (2 ^ n) (2 * o)
end Go.Tz
namespace Go.Tz
open Go Go.AL Go.Proofs
variable {G : Nat → Option (List D)}
structure Gt where
 (k : Int)
 (ws : List Int)
 (u : Bool)
 (b i : Int)
def Gt.l (g : Gt) : List D := [iD g.k, intsD g.ws g.u, iD g.b, iD g.i]
abbrev Gt.d (g : Gt) : D := .agg g.l
abbrev gatesD (l : List Gt) (t : Bool) : D := .sl (l.map Gt.l) t
abbrev circD (w b : Int) (l : List Gt) (t : Bool) : D := .agg [iD w, iD b, gatesD l t]
theorem get_g {l : List Gt} {k : Nat} (h : k < l.length) : (l.map Gt.l)[(k : Int).toNat]? = some (l[k]).l := by simp [h]
theorem chk201 : chkFn Tryz.f201 = true := by kernel_rfl
theorem idx201 (l : List Gt) (t : Bool) (f : FuncId) (first cap : List D) (p : Gt → Bool) (hn : l.length ≤ 1000) (hf : ∀ q, q ∈ l → PC Pr G f (first ++ [q.d] ++ cap) (.bool (p q))) : PC Pr G 201 [gatesD l t, .fn f first cap] (iD (idxI p l)) := by
 refine pc_walk pok Tryz.func201 chk201 ?_
 conv => whnf
 skip
 refine for_use pok (fun i => ⟨[(0, .d (gatesD l t)), (1, .d (.fn f first cap)), (7, .d (iD (l.map Gt.l).length)), (8, .d (iD i))], [], 0⟩) (l.length) (fun i => ∀ q, q ∈ l.take i → p q = false) (by simp) ?_ (by kernel_rfl) ?_ ?_
 ·refine keep_env (by first | exact Nat.zero_le _ | exact Nat.le_of_ble_eq_true rfl) ?_ ?_ trivial
  ·repeat' first | exact trivial | refine ⟨⟨by first | rfl | assumption, rfl⟩, ?_⟩
  ·repeat' first | exact trivial | refine ⟨⟨ltB rfl, _, rfl, by first | rfl | assumption, by first | exact below1 rfl | exact below_dblk _ _ _ | exact below_arr rfl⟩, ?_⟩
 ·intro i A_i h_i I_i N_i
  have e_i : iadd .i64 (i : Int) 1 = ((i + 1 : Nat) : Int) := iadd_nat (by first | omega | (simp at *; omega))
  have hq := hf l[i] (List.getElem_mem h_i)
  conv => whnf
  repeat' first | ((first | refine LookP.mk _ (by first | rfl | exact get_g h_i) ?_ | refine And.intro (by first | assumption | exact ⟨by kernel_rfl, rfl⟩ | decide | omega) ?_ | rw [forceL_eq] | refine pc_use3B hq rfl ?_); conv => whnf) | (intro t ht; cases t <;> conv => whnf)
  ·exfalso; simp at ht; omega
  ·refine N_i _ ?_ ?_
   ·exact take_none h_i ht I_i
   ·refine keep_env (by first | exact Nat.zero_le _ | exact Nat.le_of_ble_eq_true rfl) ?_ ?_ trivial
    ·repeat' first | exact trivial | refine ⟨⟨by first | rfl | assumption | exact congrArg (fun n => AV.d (iD n)) e_i, rfl⟩, ?_⟩
    ·repeat' first | exact trivial | refine ⟨⟨ltB rfl, _, rfl, by first | rfl | assumption, by first | exact below1 rfl | exact below_dblk _ _ _ | exact below_arr rfl⟩, ?_⟩
  ·refine fin ?_
   rw [idxI_some h_i ht I_i]
 ·intro A_last I_last
  conv => whnf
  repeat' first | ((first | refine And.intro (by first | assumption | exact ⟨by kernel_rfl, rfl⟩ | decide | omega) ?_ | fail); conv => whnf) | (intro t ht; cases t <;> conv => whnf)
  ·rw [List.take_length] at I_last
   rw [idxI_none I_last]; exact fin rfl
  ·exfalso; simp at ht
theorem chk116 : chkFn Tryz.f116 = true := by kernel_rfl
theorem has116 (l : List Gt) (t : Bool) (f : FuncId) (first cap : List D) (p : Gt → Bool) (hn : l.length ≤ 1000) (hf : ∀ q, q ∈ l → PC Pr G f (first ++ [q.d] ++ cap) (.bool (p q))) : PC Pr G 116 [gatesD l t, .fn f first cap] (.bool (l.any p)) := by
 have hi := idx201 l t f first cap p hn hf
 rw [← idxI_ge]
 generalize idxI p l = i at hi ⊢
 refine pc_walk pok Tryz.func116 chk116 ?_
 conv => whnf
 repeat' first | (refine pc_use hi ?_; conv => whnf) | (intro t ht; cases t <;> conv => whnf)
 all_goals rw [ht]; exact fin rfl
theorem chk253 : chkFn Tryz.f253 = true := by kernel_rfl
theorem ev253 (q : Gt) (f : FuncId) (first cap : List D) (b : Bool) (hf : PC Pr G f (first ++ [q.d] ++ cap) (.bool b)) : PC Pr G 253 [q.d, .rop [.fn f first cap] 0] (.bool (!b)) := by
 refine pc_walk pok Tryz.func253 chk253 ?_
 conv => whnf
 repeat' first | ((first | refine LookP.mk _ rfl ?_ | rw [forceL_eq] | refine pc_use3B hf rfl ?_); conv => whnf) | (intro t ht; cases t <;> conv => whnf)
 all_goals rw [ht]; exact fin rfl
theorem chk206 : chkFn Tryz.f206 = true := by kernel_rfl
theorem every206 (l : List Gt) (t : Bool) (f : FuncId) (first cap : List D) (p : Gt → Bool) (hn : l.length ≤ 1000) (hf : ∀ q, q ∈ l → PC Pr G f (first ++ [q.d] ++ cap) (.bool (p q))) : PC Pr G 206 [gatesD l t, .fn f first cap] (.bool (l.all p)) := by
 have hi := has116 (G := G) l t 253 [] [.rop [.fn f first cap] 0] (fun q => !p q) hn fun q hq => ev253 q f first cap (p q) (hf q hq)
 refine pc_walk pok Tryz.func206 chk206 ?_
 conv => whnf
 have e : l.all p = !l.any (fun q => !p q) := by
  rw [List.all_eq_not_any_not]
 rw [e]
 repeat' first | (refine pc_lendcB hi rfl ?_) | (intro t ht; cases t <;> conv => whnf)
 all_goals rw [ht]; exact fin rfl
theorem chk256 : chkFn Tryz.f256 = true := by kernel_rfl
theorem idx256 (l : List Int) (t : Bool) (f : FuncId) (first cap : List D) (p : Int → Bool) (hn : l.length ≤ 1000) (hf : ∀ q, q ∈ l → PC Pr G f (first ++ [iD q] ++ cap) (.bool (p q))) : PC Pr G 256 [intsD l t, .fn f first cap] (iD (idxI p l)) := by
 refine pc_walk pok Tryz.func256 chk256 ?_
 conv => whnf
 skip
 refine for_use pok (fun i => ⟨[(0, .d (intsD l t)), (1, .d (.fn f first cap)), (7, .d (iD (l.map fun k => [iD k]).length)), (8, .d (iD i))], [], 0⟩) (l.length) (fun i => ∀ q, q ∈ l.take i → p q = false) (by simp) ?_ (by kernel_rfl) ?_ ?_
 ·refine keep_env (by first | exact Nat.zero_le _ | exact Nat.le_of_ble_eq_true rfl) ?_ ?_ trivial
  ·repeat' first | exact trivial | refine ⟨⟨by first | rfl | assumption, rfl⟩, ?_⟩
  ·repeat' first | exact trivial | refine ⟨⟨ltB rfl, _, rfl, by first | rfl | assumption, by first | exact below1 rfl | exact below_dblk _ _ _ | exact below_arr rfl⟩, ?_⟩
 ·intro i A_i h_i I_i N_i
  have e_i : iadd .i64 (i : Int) 1 = ((i + 1 : Nat) : Int) := iadd_nat (by first | omega | (simp at *; omega))
  have hq := hf l[i] (List.getElem_mem h_i)
  conv => whnf
  repeat' first | ((first | refine LookP.mk _ (by first | rfl | exact get_i h_i) ?_ | refine And.intro (by first | assumption | exact ⟨by kernel_rfl, rfl⟩ | decide | omega) ?_ | rw [forceL_eq] | refine pc_use3B hq rfl ?_); conv => whnf) | (intro t ht; cases t <;> conv => whnf)
  ·exfalso; simp at ht; omega
  ·refine N_i _ ?_ ?_
   ·exact take_none h_i ht I_i
   ·refine keep_env (by first | exact Nat.zero_le _ | exact Nat.le_of_ble_eq_true rfl) ?_ ?_ trivial
    ·repeat' first | exact trivial | refine ⟨⟨by first | rfl | assumption | exact congrArg (fun n => AV.d (iD n)) e_i, rfl⟩, ?_⟩
    ·repeat' first | exact trivial | refine ⟨⟨ltB rfl, _, rfl, by first | rfl | assumption, by first | exact below1 rfl | exact below_dblk _ _ _ | exact below_arr rfl⟩, ?_⟩
  ·refine fin ?_
   rw [idxI_some h_i ht I_i]
 ·intro A_last I_last
  conv => whnf
  repeat' first | ((first | refine And.intro (by first | assumption | exact ⟨by kernel_rfl, rfl⟩ | decide | omega) ?_ | fail); conv => whnf) | (intro t ht; cases t <;> conv => whnf)
  ·rw [List.take_length] at I_last
   rw [idxI_none I_last]; exact fin rfl
  ·exfalso; simp at ht
theorem chk209 : chkFn Tryz.f209 = true := by kernel_rfl
theorem has209 (l : List Int) (t : Bool) (f : FuncId) (first cap : List D) (p : Int → Bool) (hn : l.length ≤ 1000) (hf : ∀ q, q ∈ l → PC Pr G f (first ++ [iD q] ++ cap) (.bool (p q))) : PC Pr G 209 [intsD l t, .fn f first cap] (.bool (l.any p)) := by
 have hi := idx256 l t f first cap p hn hf
 rw [← idxI_ge]
 generalize idxI p l = i at hi ⊢
 refine pc_walk pok Tryz.func209 chk209 ?_
 conv => whnf
 repeat' first | (refine pc_use hi ?_; conv => whnf) | (intro t ht; cases t <;> conv => whnf)
 all_goals rw [ht]; exact fin rfl
theorem chk272 : chkFn Tryz.f272 = true := by kernel_rfl
theorem ev272 (q : Int) (f : FuncId) (first cap : List D) (b : Bool) (hf : PC Pr G f (first ++ [iD q] ++ cap) (.bool b)) : PC Pr G 272 [iD q, .rop [.fn f first cap] 0] (.bool (!b)) := by
 refine pc_walk pok Tryz.func272 chk272 ?_
 conv => whnf
 repeat' first | ((first | rw [forceL_eq] | refine pc_use3B hf rfl ?_); conv => whnf) | (intro t ht; cases t <;> conv => whnf)
 all_goals rw [ht]; exact fin rfl
theorem chk255 : chkFn Tryz.f255 = true := by kernel_rfl
theorem every255 (l : List Int) (t : Bool) (f : FuncId) (first cap : List D) (p : Int → Bool) (hn : l.length ≤ 1000) (hf : ∀ q, q ∈ l → PC Pr G f (first ++ [iD q] ++ cap) (.bool (p q))) : PC Pr G 255 [intsD l t, .fn f first cap] (.bool (l.all p)) := by
 have hi := has209 (G := G) l t 272 [] [.rop [.fn f first cap] 0] (fun q => !p q) hn fun q hq => ev272 q f first cap (p q) (hf q hq)
 refine pc_walk pok Tryz.func255 chk255 ?_
 conv => whnf
 have e : l.all p = !l.any (fun q => !p q) := by
  rw [List.all_eq_not_any_not]
 rw [e]
 repeat' first | (refine pc_lendcB hi rfl ?_) | (intro t ht; cases t <;> conv => whnf)
 all_goals rw [ht]; exact fin rfl
end Go.Tz
namespace Go.Tz
open Go Go.AL Go.Proofs
variable {G : Nat → Option (List D)}
theorem fiI {a b : Int} (h : a = b) : AV.d (.int .i64 a) = AV.d (iD b) := by rw [h]
theorem fiB {a b : Bool} (h : a = b) : AV.d (.bool a) = AV.d (.bool b) := by rw [h]
def arI (k : Int) : Int := if (1 ≤ k ∧ k ≤ 8) ∨ k = 13 ∨ k = 14 then 1 else if 9 ≤ k ∧ k ≤ 11 then 2 else if k = 12 then 3 else 0
theorem ari1 {k : Int} (h : (1 ≤ k ∧ k ≤ 8) ∨ k = 13 ∨ k = 14) : arI k = 1 := by unfold arI; rw [if_pos h]
theorem ari2 {k : Int} (h : 9 ≤ k ∧ k ≤ 11) : arI k = 2 := by unfold arI; rw [if_neg (by omega), if_pos h]
theorem ari3 {k : Int} (h : k = 12) : arI k = 3 := by unfold arI; rw [if_neg (by omega), if_neg (by omega), if_pos h]
theorem ari0 {k : Int} (h : k < 1 ∨ k > 14) : arI k = 0 := by unfold arI; rw [if_neg (by omega), if_neg (by omega), if_neg (by omega)]
theorem chk159 : chkFn Tryz.f159 = true := by kernel_rfl
theorem ar159 (k : Int) : PC Pr G 159 [iD k] (iD (arI k)) := by
 refine pc_walk pok Tryz.func159 chk159 ?_
 conv => whnf
 repeat' first | (intro t ht; cases t <;> conv => whnf)
 all_goals refine fin ?_
 all_goals refine fiI ?_
 all_goals simp at *
 all_goals first | exact (ari1 (by omega)).symm | exact (ari2 (by omega)).symm | exact (ari3 (by omega)).symm | exact (ari0 (by omega)).symm
def dupAt (ws : List Int) (i : Nat) : Bool := match ws[i]? with
 | some n => decide (n ∈ ws.take i)
 | none => false
def dupB (ws : List Int) : Bool := (List.range ws.length).any (dupAt ws)
theorem dupAt_lt {ws : List Int} {i : Nat} (h : i < ws.length) : dupAt ws i = decide (ws[i] ∈ ws.take i) := by
 unfold dupAt; rw [List.getElem?_eq_getElem h]
theorem dupB_of {ws : List Int} {i : Nat} (h : i < ws.length) (h1 : dupAt ws i = true) : dupB ws = true := List.any_eq_true.2 ⟨i, List.mem_range.2 h, h1⟩
theorem dupB_no {ws : List Int} (h : ∀ j, j < ws.length → dupAt ws j = false) : dupB ws = false := List.any_eq_false.2 fun j hj => by rw [h j (List.mem_range.1 hj)]; simp
def outB (w : Int) (ws : List Int) : Bool := ws.any fun n => decide (n < 0 ∨ n ≥ w)
def bitE (g : Gt) (bits : Int) : Int := if g.i < 0 ∨ g.i > bits ∨ (g.k = 13 ∧ (g.b < 0 ∨ g.b ≥ bits)) then 1 else if ((g.k = 13 ∨ g.k = 14) ∧ g.i ≠ 0) ∨ (g.k ≠ 13 ∧ g.b ≠ 0) then 7 else 0
def gchk (g : Gt) (w bits : Int) : Int := if arI g.k = 0 then 3 else if (g.ws.length : Int) ≠ arI g.k then 2 else if outB w g.ws = true then 1 else if dupB g.ws = true then 5 else bitE g bits
theorem chk254 : chkFn Tryz.f254 = true := by kernel_rfl
theorem wire254 (n w b : Int) (gd : D) : PC Pr G 254 [iD n, .rop [iD w, iD b, gd, .nilf] 0] (.bool (!decide (n < 0 ∨ n ≥ w))) := by
 refine pc_walk pok Tryz.func254 chk254 ?_
 conv => whnf
 repeat' first | (intro t ht; cases t <;> conv => whnf)
 all_goals refine fin ?_
 all_goals refine fiB ?_
 all_goals simp at *
 all_goals omega
theorem bitE1 {g : Gt} {bits : Int} (h : g.i < 0 ∨ g.i > bits ∨ (g.k = 13 ∧ (g.b < 0 ∨ g.b ≥ bits))) : bitE g bits = 1 := by unfold bitE; rw [if_pos h]
theorem bitE7 {g : Gt} {bits : Int} (h : ¬ (g.i < 0 ∨ g.i > bits ∨ (g.k = 13 ∧ (g.b < 0 ∨ g.b ≥ bits)))) (h2 : ((g.k = 13 ∨ g.k = 14) ∧ g.i ≠ 0) ∨ (g.k ≠ 13 ∧ g.b ≠ 0)) : bitE g bits = 7 := by unfold bitE; rw [if_neg h, if_pos h2]
theorem bitE0 {g : Gt} {bits : Int} (h : ¬ (g.i < 0 ∨ g.i > bits ∨ (g.k = 13 ∧ (g.b < 0 ∨ g.b ≥ bits)))) (h2 : ¬ (((g.k = 13 ∨ g.k = 14) ∧ g.i ≠ 0) ∨ (g.k ≠ 13 ∧ g.b ≠ 0))) : bitE g bits = 0 := by unfold bitE; rw [if_neg h, if_neg h2]
theorem ar_le {k : Int} (h : arI k ≠ 0) : k ≤ 14 := by
 refine Classical.byContradiction fun hn => h (ari0 (by omega))
end Go.Tz
namespace Go.Tz
open Go Go.AL Go.Proofs
variable {G : Nat → Option (List D)}
theorem all_out (w : Int) (ws : List Int) : (ws.all fun n => !decide (n < 0 ∨ n ≥ w)) = !outB w ws := by
 unfold outB; rw [List.not_any_eq_all_not]
theorem chk207 : chkFn Tryz.f207 = true := by kernel_rfl
theorem gate207 (g : Gt) (w bits : Int) (gd : D) (hn : g.ws.length ≤ 1000) : PC Pr G 207 [.agg [iD w, iD bits, gd, .nilf], g.d] (iD (gchk g w bits)) := by
 obtain ⟨k, ws, u, b, f⟩ := g
 have hn : ws.length ≤ 1000 := hn
 have h159 := ar159 (G := G) k
 have hev := every255 (G := G) ws u 254 [] [.rop [iD w, iD bits, gd, .nilf] 0] (fun n => !decide (n < 0 ∨ n ≥ w)) hn fun n _ => wire254 n w bits gd
 rw [all_out] at hev
 refine pc_walk pok Tryz.func207 chk207 ?_
 conv => whnf
 repeat' first | ((first | refine LookP.mk _ rfl ?_ | refine pc_use h159 ?_ | refine pc_head h159 ?_); conv => whnf) | (refine pc_lendcB hev rfl ?_) | (refine HpP.force ?_; conv => whnf) | (intro t ht; cases t <;> conv => whnf)
 ·refine fin ?_
  rename_i hA hL
  have hA : arI k ≠ 0 := by simpa using hA
  have hL : (ws.length : Int) = arI k := by simpa using hL
  have : gchk ⟨k, ws, u, b, f⟩ w bits = 1 := by unfold gchk; rw [if_neg hA, if_neg (by simpa using hL), if_pos (by simpa using ht)]
  rw [this]
 ·rename_i hA hL
  have hA : arI k ≠ 0 := by simpa using hA
  have hL : (ws.length : Int) = arI k := by simpa using hL
  have hO : outB w ws = false := by simpa using ht
  refine for_use pok (fun i => ⟨[(2, .ptr 0 4 0 0), (3, .ptr 1 4 0 0), (30, .d (intsD ws u)), (31, .d (iD (ws.map fun k => [iD k]).length)), (32, .d (iD i))], [(0, some (.arr 4 [[.d (iD w), .d (iD bits), .d gd, .d .nilf]])), (1, some (.arr 4 [[.d (iD k), .d (intsD ws u), .d (iD b), .d (iD f)]]))], 2⟩) (ws.length) (fun i => ∀ j, j < i → dupAt ws j = false) (by omega) ?_ (by kernel_rfl) ?_ ?_
  ·refine keep_env (by first | exact Nat.zero_le _ | exact Nat.le_of_ble_eq_true rfl) ?_ ?_ trivial
   ·repeat' first | exact trivial | refine ⟨⟨by first | rfl | assumption, rfl⟩, ?_⟩
   ·repeat' first | exact trivial | refine ⟨⟨ltB rfl, _, rfl, by first | rfl | assumption, by first | exact below1 rfl | exact below_dblk _ _ _ | exact below_arr rfl⟩, ?_⟩
  ·intro i A_i h_i I_i N_i
   have e_i : iadd .i64 (i : Int) 1 = ((i + 1 : Nat) : Int) := iadd_nat (by first | omega | (simp at *; omega))
   have hm : ∀ t, PC Pr G 25 [.sl (List.take ((i : Int).toNat - 0) (List.drop 0 (ws.map fun k => [iD k]))) t, iD ws[i]] (.bool (dupAt ws i)) := by
    intro t
    rw [Nat.sub_zero, List.drop_zero, Int.toNat_natCast, ← List.map_take, dupAt_lt h_i]
    exact has25 (G := G) (ws.take i) t ws[i] (by simp; omega)
   conv => whnf
   repeat (refine LookP.mk _ rfl ?_; conv => whnf)
   intro t ht
   cases t
   ·exfalso; first | (simp at ht; done) | (simp at ht; omega)
   conv => whnf
   repeat' first | ((first | refine LookP.mk _ (by first | rfl | exact get_i h_i) ?_ | refine And.intro (by first | exact ⟨Nat.zero_le _, by simp; omega, by simp⟩ | assumption | exact ⟨by kernel_rfl, rfl⟩ | decide | omega) ?_ | fail); conv => whnf) | (refine pc_useB ((hm _)) ?_) | (intro t ht; cases t <;> conv => whnf)
   ·refine N_i _ ?_ ?_
    ·(intro j hj; rcases Nat.lt_or_ge j i with q | q; exact I_i j q; rw [show j = i by omega]; exact ht)
    ·refine keep_env (by first | exact Nat.zero_le _ | exact Nat.le_of_ble_eq_true rfl) ?_ ?_ trivial
     ·repeat' first | exact trivial | refine ⟨⟨by first | rfl | assumption | exact congrArg (fun n => AV.d (iD n)) e_i, rfl⟩, ?_⟩
     ·repeat' first | exact trivial | refine ⟨⟨ltB rfl, _, rfl, by first | rfl | assumption, by first | exact below1 rfl | exact below_dblk _ _ _ | exact below_arr rfl⟩, ?_⟩
   ·refine fin ?_
    have : gchk ⟨k, ws, u, b, f⟩ w bits = 5 := by unfold gchk; rw [if_neg hA, if_neg (by simpa using hL), if_neg (by rw [hO]; simp), if_pos (dupB_of h_i ht)]
    rw [this]
  ·intro A_last I_last
   have hD := dupB_no I_last
   have hg : gchk ⟨k, ws, u, b, f⟩ w bits = bitE ⟨k, ws, u, b, f⟩ bits := by unfold gchk; rw [if_neg hA, if_neg (by simpa using hL), if_neg (by rw [hO]; simp), if_neg (by rw [hD]; simp)]
   rw [hg]
   have hk := ar_le hA
   conv => whnf
   repeat (refine LookP.mk _ rfl ?_; conv => whnf)
   intro t ht
   cases t
   rotate_left
   ·exfalso; first | (simp at ht; done) | (simp at ht; omega)
   conv => whnf
   repeat' first | (refine LookP.mk _ rfl ?_; conv => whnf) | (intro t ht; cases t <;> conv => whnf)
   all_goals refine fin ?_
   all_goals refine fiI ?_
   all_goals simp at *
   all_goals first | exact (bitE1 (by dsimp only; omega)).symm | exact (bitE7 (by dsimp only; omega) (by dsimp only; omega)).symm | exact (bitE0 (by dsimp only; omega) (by dsimp only; omega)).symm
 ·refine fin ?_
  rename_i hA
  have hA : arI k ≠ 0 := by simpa using hA
  have : gchk ⟨k, ws, u, b, f⟩ w bits = 2 := by unfold gchk; rw [if_neg hA, if_pos (by simpa using ht)]
  rw [this]
 ·refine fin ?_
  have : gchk ⟨k, ws, u, b, f⟩ w bits = 3 := by unfold gchk; rw [if_pos (by simpa using ht)]
  rw [this]
theorem find_atG {α : Type} {l : List α} {p : α → Bool} {i : Nat} (h : i < l.length) (hz : ∀ q, q ∈ l.take i → p q = false) (hp : p l[i] = true) : l.find? p = some l[i] := by
 rw [List.find?_eq_some_iff_getElem]
 refine ⟨hp, i, h, rfl, fun j hj => ?_⟩
 rw [hz _ (List.mem_take_iff_getElem.2 ⟨j, by omega, rfl⟩)]; rfl
def cchk (w bits : Int) (l : List Gt) : Int := if w < 1 ∨ w > 12 ∨ bits < 0 ∨ bits > 8 then 3 else if l.length > 120 then 2 else match l.find? (fun g => decide (gchk g w bits ≠ 0)) with
 | some g => gchk g w bits
 | none => 0
theorem cchk3 {w bits : Int} {l : List Gt} (h : w < 1 ∨ w > 12 ∨ bits < 0 ∨ bits > 8) : cchk w bits l = 3 := by unfold cchk; rw [if_pos h]
theorem cchk2 {w bits : Int} {l : List Gt} (h : ¬ (w < 1 ∨ w > 12 ∨ bits < 0 ∨ bits > 8)) (h2 : l.length > 120) : cchk w bits l = 2 := by unfold cchk; rw [if_neg h, if_pos h2]
theorem cchk_at {w bits : Int} {l : List Gt} (h : ¬ (w < 1 ∨ w > 12 ∨ bits < 0 ∨ bits > 8)) (h2 : ¬ l.length > 120) {i : Nat} (hi : i < l.length) (h3 : ∀ g, g ∈ l.take i → gchk g w bits = 0) (h4 : gchk l[i] w bits ≠ 0) : cchk w bits l = gchk l[i] w bits := by
 unfold cchk
 rw [if_neg h, if_neg h2, find_atG (p := fun g => decide (gchk g w bits ≠ 0)) hi (fun q hq => by simp [h3 q hq]) (by simpa using h4)]
theorem cchk0 {w bits : Int} {l : List Gt} (h : ¬ (w < 1 ∨ w > 12 ∨ bits < 0 ∨ bits > 8)) (h2 : ¬ l.length > 120) (h3 : ∀ g, g ∈ l → gchk g w bits = 0) : cchk w bits l = 0 := by
 unfold cchk
 rw [if_neg h, if_neg h2, List.find?_eq_none.2 (by intro q hq; simp [h3 q hq])]
theorem cchk_ok {w bits : Int} {l : List Gt} (h : cchk w bits l = 0) : (1 ≤ w ∧ w ≤ 12) ∧ (0 ≤ bits ∧ bits ≤ 8) ∧ l.length ≤ 120 ∧ ∀ g, g ∈ l → gchk g w bits = 0 := by
 by_cases h1 : w < 1 ∨ w > 12 ∨ bits < 0 ∨ bits > 8
 ·rw [cchk3 h1] at h; cases h
 ·by_cases h2 : l.length > 120
  ·rw [cchk2 h1 h2] at h; cases h
  ·refine ⟨by omega, by omega, by omega, fun g hg => ?_⟩
   unfold cchk at h
   rw [if_neg h1, if_neg h2] at h
   cases e : l.find? (fun g => decide (gchk g w bits ≠ 0)) with
   | none =>
    have := List.find?_eq_none.1 e g hg
    simpa using this
   | some x =>
    have h5 := List.find?_some e
    rw [e] at h
    simp only [ne_eq, decide_not, Bool.not_eq_eq_eq_not, Bool.not_true, decide_eq_false_iff_not] at h5
    exact absurd h h5
theorem chk129 : chkFn Tryz.f129 = true := by kernel_rfl
theorem check129 (w bits : Int) (l : List Gt) (t : Bool) (hn : l.length ≤ 1000) (hws : ∀ g, g ∈ l → g.ws.length ≤ 1000) : PC Pr G 129 [circD w bits l t] (iD (cchk w bits l)) := by
 refine pc_walk pok Tryz.func129 chk129 ?_
 conv => whnf
 repeat' first | (refine LookP.mk _ rfl ?_; conv => whnf) | (intro t ht; cases t <;> conv => whnf)
 ·have hR : ¬ (w < 1 ∨ w > 12 ∨ bits < 0 ∨ bits > 8) := by simp at *; omega
  have hL : ¬ l.length > 120 := by simp at ht; omega
  refine for_use pok (fun i => ⟨[(3, .d (.fn 207 [.agg [iD w, iD bits, gatesD l t, .nilf]] [])), (35, .d (gatesD l t)), (36, .d (iD (l.map Gt.l).length)), (37, .d (iD i))], [], 0⟩) (l.length) (fun i => ∀ g, g ∈ l.take i → gchk g w bits = 0) (by simp) ?_ (by kernel_rfl) ?_ ?_
  ·refine keep_env (by first | exact Nat.zero_le _ | exact Nat.le_of_ble_eq_true rfl) ?_ ?_ trivial
   ·repeat' first | exact trivial | refine ⟨⟨by first | rfl | assumption, rfl⟩, ?_⟩
   ·repeat' first | exact trivial | refine ⟨⟨ltB rfl, _, rfl, by first | rfl | assumption, by first | exact below1 rfl | exact below_dblk _ _ _ | exact below_arr rfl⟩, ?_⟩
  ·intro i A_i h_i I_i N_i
   have e_i : iadd .i64 (i : Int) 1 = ((i + 1 : Nat) : Int) := iadd_nat (by first | omega | (simp at *; omega))
   have hc := gate207 (G := G) l[i] w bits (gatesD l t) (hws _ (List.getElem_mem h_i))
   have hst : gchk l[i] w bits = 0 → ∀ g, g ∈ l.take (i + 1) → gchk g w bits = 0 := fun h g hg => by
    rw [take_snoc h_i, List.mem_append, List.mem_singleton] at hg
    rcases hg with q | q
    ·exact I_i g q
    ·rw [q]; exact h
   have hat := cchk_at hR hL h_i I_i
   generalize gchk l[i] w bits = e at hc hst hat
   conv => whnf
   repeat (refine LookP.mk _ rfl ?_; conv => whnf)
   intro t ht
   cases t
   ·exfalso; first | (simp at ht; done) | (simp at ht; omega)
   conv => whnf
   repeat' first | ((first | refine LookP.mk _ (by first | rfl | exact get_g h_i) ?_ | refine ShlP.mk _ (by first | (simp only [List.set, over, List.take, List.drop, List.append_eq, List.nil_append, List.cons_append, List.length]; rfl) | rfl) ?_ | refine And.intro (by first | assumption | exact ⟨by kernel_rfl, rfl⟩ | decide | omega) ?_ | refine pc_use hc ?_ | refine HpP.force ?_); conv => whnf) | (intro t ht; cases t <;> conv => whnf)
   ·refine N_i _ ?_ ?_
    ·exact hst (by simpa using ht)
    ·refine keep_env (by first | exact Nat.zero_le _ | exact Nat.le_of_ble_eq_true rfl) ?_ ?_ trivial
     ·repeat' first | exact trivial | refine ⟨⟨by first | rfl | assumption | exact congrArg (fun n => AV.d (iD n)) e_i, rfl⟩, ?_⟩
     ·repeat' first | exact trivial | refine ⟨⟨ltB rfl, _, rfl, by first | rfl | assumption, by first | exact below1 rfl | exact below_dblk _ _ _ | exact below_arr rfl⟩, ?_⟩
   ·refine fin ?_
    rw [hat (by simpa using ht)]
  ·intro A_last I_last
   rw [List.take_length] at I_last
   conv => whnf
   repeat (refine LookP.mk _ rfl ?_; conv => whnf)
   intro t ht
   cases t
   rotate_left
   ·exfalso; first | (simp at ht; done) | (simp at ht; omega)
   conv => whnf
   skip
   refine fin ?_
   rw [cchk0 hR hL I_last]
 all_goals refine fin ?_
 all_goals refine fiI ?_
 all_goals simp at *
 all_goals first | exact (cchk3 (by omega)).symm | exact (cchk2 (by omega) (by omega)).symm
end Go.Tz
namespace Go.Tz
open Go Go.AL Go.Proofs Go.Ma
variable {G : Nat → Option (List D)}
def Gt.own (g : Gt) : Gt := { g with u := false }
theorem asD_agg3 {H : AHeap} {v1 v2 v3 : AV} {d1 d2 d3 : D} (h1 : AsD H v1 d1) (h2 : AsD H v2 d2) (h3 : AsD H v3 d3) : AsD H (.agg [v1, v2, v3]) (.agg [d1, d2, d3]) := by
 refine .agg _ _ rfl fun j v d hv hd => ?_
 match j, hv, hd with
 | 0, hv, hd => simp at hv hd; subst hv hd; exact h1
 | 1, hv, hd => simp at hv hd; subst hv hd; exact h2
 | 2, hv, hd => simp at hv hd; subst hv hd; exact h3
 | j + 3, hv, _ => simp at hv
end Go.Tz
namespace Go.Tz
open Go Go.AL Go.Proofs Go.Ma
variable {G : Nat → Option (List D)}
def minS (q : Ps) : Ps := ⟨q.w, q.x, q.z, (iadd .i64 q.p 2).tmod 4⟩
theorem chk258 : chkFn Tryz.f258 = true := by kernel_rfl
theorem minus258 (q : Ps) : PC Pr G 258 [q.d] (minS q).d := by
 refine pc_walk pok Tryz.func258 chk258 ?_
 conv => whnf
 repeat' first | ((first | refine LookP.mk _ rfl ?_ | refine ShlP.mk _ (by first | (simp only [List.set, over, List.take, List.drop, List.append_eq, List.nil_append, List.cons_append, List.length]; rfl) | rfl) ?_ | refine And.intro (by first | assumption | exact ⟨by kernel_rfl, rfl⟩ | decide | omega) ?_ | refine HpP.force ?_); conv => whnf)
 exact fin rfl
theorem chk214 : chkFn Tryz.f214 = true := by kernel_rfl
def im1 (w a k : Nat) : Ps × Ps := match k with
 | 1 => (oneS w a 1, minS (oneS w a 3))
 | 2 => (minS (oneS w a 1), minS (oneS w a 3))
 | 3 => (minS (oneS w a 1), oneS w a 3)
 | 4 => (oneS w a 3, oneS w a 1)
 | 5 => (oneS w a 2, oneS w a 3)
 | _ => (minS (oneS w a 2), oneS w a 3)
def im2 (w n c k : Nat) (z : Bool) : Ps × Ps := match k with
 | 9 => match z with
  | true => (timS (oneS w n 1) (oneS w c 1), oneS w n 3)
  | false => (oneS w n 1, timS (oneS w c 3) (oneS w n 3))
 | 10 => (timS (oneS w n 1) (oneS w c 3), oneS w n 3)
 | _ => (oneS w c 1, oneS w c 3)
theorem one_w (w n l : Int) : (oneS w n l).w = w := rfl
theorem beqT1 {α : Type} [BEq α] [ReflBEq α] {a : α} {k : Bool → Prop} (h : k true) : ∀ t, (a == a) = t → k t := fun t e => by
 have e2 : true = t := (beq_self_eq_true a).symm.trans e
 exact e2 ▸ h
theorem beqF1 {a b : Int} {k : Bool → Prop} (hne : decide (a = b) = false) (h : k false) : ∀ t, (a == b) = t → k t := fun t e => by
 have hne : a ≠ b := of_decide_eq_false hne
 have e2 : false = t := (beq_false_of_ne hne).symm.trans e
 exact e2 ▸ h
theorem images1 {w a k : Nat} {K : Int} (hK : K = k) (h1 : 1 ≤ k) (h2 : k ≤ 6) (u : Bool) (b i : Int) : PC Pr G 214 [iD w, (Gt.mk K [(a : Int)] u b i).d, iD 0] (.tup [(im1 w a k).1.d, (im1 w a k).2.d]) := by
 have g1 := one212 (G := G) w a 1 (Int.natCast_nonneg _)
 have g2 := one212 (G := G) w a 2 (Int.natCast_nonneg _)
 have g3 := one212 (G := G) w a 3 (Int.natCast_nonneg _)
 have hk : k = 1 ∨ k = 2 ∨ k = 3 ∨ k = 4 ∨ k = 5 ∨ k = 6 := by omega
 rcases hk with rfl | rfl | rfl | rfl | rfl | rfl
 all_goals first | obtain rfl : K = 1 := hK | obtain rfl : K = 2 := hK | obtain rfl : K = 3 := hK | obtain rfl : K = 4 := hK | obtain rfl : K = 5 := hK | obtain rfl : K = 6 := hK
 all_goals
  simp only [im1]
  generalize oneS w a 1 = q1 at g1 ⊢
  generalize oneS w a 2 = q2 at g2 ⊢
  generalize oneS w a 3 = q3 at g3 ⊢
  have m1 := minus258 (G := G) q1
  have m2 := minus258 (G := G) q2
  have m3 := minus258 (G := G) q3
  refine pc_walk pok Tryz.func214 chk214 ?_
  conv => whnf
  repeat' first | ((first | refine LookP.mk _ rfl ?_ | refine ShlP.mk _ (by first | (simp only [List.set, over, List.take, List.drop, List.append_eq, List.nil_append, List.cons_append, List.length]; rfl) | rfl) ?_ | refine And.intro (by first | exact of_decide_eq_true (by kernel_rfl) | assumption | exact ⟨by kernel_rfl, rfl⟩ | decide | omega) ?_ | refine beqT1 ?_ | refine beqF1 rfl ?_ | refine pc_use g1 ?_ | refine pc_use g2 ?_ | refine pc_use g3 ?_ | refine pc_head m1 ?_ | refine pc_head m2 ?_ | refine pc_head m3 ?_ | refine HpP.force ?_); conv => whnf)
  all_goals first | (exfalso; simp at ht; done) | exact fin rfl
theorem images2 {w n c k : Nat} (hw : 1 ≤ w ∧ w ≤ 12) {K : Int} (hK : K = k) (h1 : 9 ≤ k) (h2 : k ≤ 11) (z : Bool) (u : Bool) (b i : Int) : PC Pr G 214 [iD w, (Gt.mk K [if z then (n : Int) else c, if z then (c : Int) else n] u b i).d, iD (if z then 0 else 1)] (.tup [(im2 w n c k z).1.d, (im2 w n c k z).2.d]) := by
 have g1 := one212 (G := G) w n 1 (Int.natCast_nonneg _)
 have g2 := one212 (G := G) w n 2 (Int.natCast_nonneg _)
 have g3 := one212 (G := G) w n 3 (Int.natCast_nonneg _)
 have c1 := one212 (G := G) w c 1 (Int.natCast_nonneg _)
 have c3 := one212 (G := G) w c 3 (Int.natCast_nonneg _)
 have w1 := one_w w n 1
 have w2 := one_w w c 3
 have hk : k = 9 ∨ k = 10 ∨ k = 11 := by omega
 rcases hk with rfl | rfl | rfl
 all_goals first | obtain rfl : K = 9 := hK | obtain rfl : K = 10 := hK | obtain rfl : K = 11 := hK
 all_goals cases z
 all_goals
  simp only [im2]
  generalize oneS w n 1 = q1 at g1 w1 ⊢
  generalize oneS w n 2 = q2 at g2 ⊢
  generalize oneS w n 3 = q3 at g3 ⊢
  generalize oneS w c 1 = r1 at c1 ⊢
  generalize oneS w c 3 = r3 at c3 w2 ⊢
  refine pc_walk pok Tryz.func214 chk214 ?_
  conv => whnf
  repeat' first | ((first | refine LookP.mk _ rfl ?_ | refine ShlP.mk _ (by first | (simp only [List.set, over, List.take, List.drop, List.append_eq, List.nil_append, List.cons_append, List.length]; rfl) | rfl) ?_ | refine And.intro (by first | exact of_decide_eq_true (by kernel_rfl) | assumption | exact ⟨by kernel_rfl, rfl⟩ | decide | omega) ?_ | refine beqT1 ?_ | refine beqF1 rfl ?_ | refine pc_use g1 ?_ | refine pc_use g2 ?_ | refine pc_use g3 ?_ | refine pc_use c1 ?_ | refine pc_head c1 ?_ | refine pc_use c3 ?_ | refine pc_head c3 ?_ | refine pc_head (tim142 q1 [r1] true ⟨by omega, by omega⟩ (by simp)) ?_ | refine pc_head (tim142 q1 [r3] true ⟨by omega, by omega⟩ (by simp)) ?_ | refine pc_head (tim142 r3 [q3] true ⟨by omega, by omega⟩ (by simp)) ?_ | refine HpP.force ?_); conv => whnf)
  all_goals first | (exfalso; simp at ht; done) | exact fin rfl | skip
end Go.Tz
