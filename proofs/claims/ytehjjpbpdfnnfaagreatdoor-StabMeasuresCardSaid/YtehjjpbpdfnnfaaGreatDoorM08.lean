import Derived.Test.YtehjjpbpdfnnfaaGreatDoorM07
namespace Go.Tz
open Go Go.AL Go.Proofs Go.Ma
def findReg (k : Nat) : Code → Option (Array Oper)
 | .region id ops _ => if id = k then some ops else none
 | .seq c d => (findReg k c).orElse fun _ => findReg k d
 | .cond _ c d => (findReg k c).orElse fun _ => findReg k d
 | .block _ c => findReg k c
 | .loop c => findReg k c
 | .scope c => findReg k c
 | _ => none
def dst35 : Nat → Nat
 | 9 => 139
 | 10 => 129
 | 11 => 140
 | 12 => 141
 | 13 => 22
 | 14 => 23
 | j => 130 + j
def val35 (f : FuncId) (n o : Nat) (ug : Bool) (ch x : Int) : Nat → AV
 | 0 => .ptr 2 3 0 0
 | 1 => .ptr 2 3 0 0
 | 2 => .ptr 2 3 0 (0 + 2)
 | 3 => .fn f [.ptr 2 3 0 0] []
 | 4 => .ptr 5 4 0 (0 + 1)
 | 5 => .d (intsD [(n : Int)] ug)
 | 6 => .d (.rop [iD n] 0)
 | 7 => .d (iD n)
 | 8 => .d (iD o)
 | 9 => rV ch x
 | 10 => rV ch x
 | 11 => .d (iD ch)
 | 12 => .d (iD x)
 | 13 => .d (iD ch)
 | _ => .d (iD x)
theorem dst_inj {i j : Nat} (hi : i < 15) (hj : j < 15) (h : dst35 i = dst35 j) : i = j := by
 have key : ∀ i, i < 15 → ∀ j, j < 15 → dst35 i = dst35 j → i = j := by decide
 exact key i hi j hj h
theorem dst_rng {i : Nat} (hi : i < 15) : (22 ≤ dst35 i ∧ dst35 i ≤ 23) ∨ 129 ≤ dst35 i := by
 have key : ∀ i, i < 15 → (22 ≤ dst35 i ∧ dst35 i ≤ 23) ∨ 129 ≤ dst35 i := by decide
 exact key i hi
structure S35 (ks : List (Nat × AV)) (hs : List (Nat × Blk)) (w nm : Nat) (f : FuncId) (A R : List Ps) (n o : Nat) (ug : Bool) (ch x : Int) (L : Nat → Bool) (s : St) : Prop where
 kp : ∀ t v, (t, v) ∈ ks → lk s.env t = v
 ho : ∀ m bl, (m, bl) ∈ hs → s.heap.get m = some bl
 h0 : L 9 = false → s.heap.get 2 = some (wkF w 3 f) ∧ s.heap.get 3 = some (dblk 4 (A.map Ps.l)) ∧ s.nx = 6
 h1 : L 9 = true → s.heap.get 2 = some (wkF w nm f) ∧ s.heap.get nm = some (dblk 4 (R.map Ps.l)) ∧ s.nx = 13
 v : ∀ j, j < 15 → L j = true → lk s.env (dst35 j) = val35 f n o ug ch x j
variable {ks : List (Nat × AV)} {hs : List (Nat × Blk)} {w nm : Nat} {f : FuncId} {A R : List Ps} {n o : Nat} {ug : Bool} {ch x : Int}
theorem s35_put (hks : ∀ p, p ∈ ks → p.1 < 22 ∨ (80 ≤ p.1 ∧ p.1 < 90)) {L : Nat → Bool} {s : St} {i : Nat} {v : AV} (h : S35 ks hs w nm f A R n o ug ch x L s) (hi : i < 15) (h9 : i ≠ 9) (hv : val35 f n o ug ch x i = v) : S35 ks hs w nm f A R n o ug ch x (fun j => if j = i then true else L j) (s.put (some (dst35 i)) v) := by
 subst hv
 refine ⟨fun t v hm => ?_, h.ho, fun hl => h.h0 ?_, fun hl => h.h1 ?_, fun j hj hl => ?_⟩
 ·have := hks _ hm
  have := dst_rng hi
  rw [lk_put_ne (by dsimp only at *; omega)]
  exact h.kp t v hm
 ·simpa [Ne.symm h9] using hl
 ·simpa [Ne.symm h9] using hl
 ·by_cases e : j = i
  ·subst e; exact lk_cons_same _ _ _
  ·rw [lk_put_ne (fun q => e (dst_inj hj hi q))]
   simp only [if_neg e] at hl
   exact h.v j hj hl
noncomputable def ops35 : Array Oper := (Tryz.f58.body.bind (findReg 35)).getD #[]
theorem reg35 (hks : ∀ p, p ∈ ks → p.1 < 22 ∨ (80 ≤ p.1 ∧ p.1 < 90)) (k16 : (16, AV.ptr 2 3 0 0) ∈ ks) (k20 : (20, AV.ptr 5 4 0 0) ∈ ks) (k21 : (21, AV.d (iD o)) ∈ ks) {c0 c2 c3 : AV} (h5 : (5, Blk.arr 4 [[c0, .d (intsD [(n : Int)] ug), c2, c3]]) ∈ hs)
  (hhs : ∀ p, p ∈ hs → p.1 ≠ 2 ∧ p.1 ≠ 3 ∧ p.1 < 6) (hW : WC f (wA n o) w f A (rV ch x) nm R) (hnm : nm = 3 ∨ nm = 12) {st : St} (S0 : S35 ks hs w nm f A R n o ug ch x (fun _ => false) st) {k : Exit → St → Prop}
  (hk : ∀ L s', S35 ks hs w nm f A R n o ug ch x L s' → (∀ i, i < 15 → L i = true) → ∃ st'', Sub GG 0 [] s' st'' ∧ k .normal st'') : RegVC Pr GG Tryz.f58.ntmps 0 [] 35 ops35 st k := by
 refine ⟨fun r => awp_any pok.mixed (edgeB_ok (by kernel_rfl)) (S35 ks hs w nm f A R n o ug ch x) S0 ?_ ?_⟩
 ·intro L s i op hS hL ho hall
  have hi : i < 15 := (Array.getElem?_eq_some_iff.1 ho).1
  have v := hS.v
  have T162 := pok.tab.get (t := 162) rfl
  have T67 := pok.tab.get (t := 67) rfl
  have T160 := pok.tab.get (t := 160) rfl
  have T42 := pok.tab.get (t := 42) rfl
  have T3 := pok.tab.get (t := 3) rfl
  have cases15 : i = 0 ∨ i = 1 ∨ i = 2 ∨ i = 3 ∨ i = 4 ∨ i = 5 ∨ i = 6 ∨ i = 7 ∨ i = 8 ∨ i = 9 ∨ i = 10 ∨ i = 11 ∨ i = 12 ∨ i = 13 ∨ i = 14 := by omega
  rcases cases15 with rfl | rfl | rfl | rfl | rfl | rfl | rfl | rfl | rfl | rfl | rfl | rfl | rfl | rfl | rfl
  all_goals
   have ho := Option.some.inj (show some _ = some op from ho)
   subst ho
   refine ⟨rfl, ?_⟩
  ·exact opwp_pure (fun c h => by cases h) (pure_move rfl (hS.kp _ _ k16)) rfl (s35_put hks hS (i := 0) (by decide) (by decide) rfl)
  ·have q := v 0 (by decide) (hall ⟨0, .data⟩ (Array.mem_of_getElem? (i := 0) rfl) rfl)
   exact opwp_pure (fun c h => by cases h) (pure_nilCheck_ptr rfl q) rfl (s35_put hks hS (i := 1) (by decide) (by decide) rfl)
  ·have q := v 1 (by decide) (hall ⟨1, .data⟩ (Array.mem_of_getElem? (i := 0) rfl) rfl)
   exact opwp_pure (fun c h => by cases h) (pure_fieldAddr rfl (T162.fld rfl rfl) q) rfl (s35_put hks hS (i := 2) (by decide) (by decide) rfl)
  ·have q := v 2 (by decide) (hall ⟨2, .data⟩ (Array.mem_of_getElem? (i := 0) rfl) rfl)
   cases h9 : L 9 with
   | false => exact opwp_pure (fun c h => by cases h) (pure_load rfl T160.tok (fun _ => rfl) q (hS.h0 h9).1 rfl rfl rfl) rfl (s35_put hks hS (i := 3) (by decide) (by decide) rfl)
   | true => exact opwp_pure (fun c h => by cases h) (pure_load rfl T160.tok (fun _ => rfl) q (hS.h1 h9).1 rfl rfl rfl) rfl (s35_put hks hS (i := 3) (by decide) (by decide) rfl)
  ·exact opwp_pure (fun c h => by cases h) (pure_fieldAddr rfl (T67.fld rfl rfl) (hS.kp _ _ k20)) rfl (s35_put hks hS (i := 4) (by decide) (by decide) rfl)
  ·have q := v 4 (by decide) (hall ⟨4, .data⟩ (Array.mem_of_getElem? (i := 0) rfl) rfl)
   exact opwp_pure (fun c h => by cases h) (pure_load rfl T42.tok (fun _ => rfl) q (hS.ho _ _ h5) rfl rfl rfl) rfl (s35_put hks hS (i := 5) (by decide) (by decide) rfl)
  ·have q := v 5 (by decide) (hall ⟨5, .data⟩ (Array.mem_of_getElem? (i := 0) rfl) rfl)
   exact opwp_pure (fun c h => by cases h) (pure_indexAddr_ro (ki := .i64) (i := 0) rfl ⟨T42.2, T3.1⟩ q rfl (by decide) rfl rfl) rfl (s35_put hks hS (i := 6) (by decide) (by decide) rfl)
  ·have q := v 6 (by decide) (hall ⟨6, .data⟩ (Array.mem_of_getElem? (i := 0) rfl) rfl)
   exact opwp_pure (fun c h => by cases h) (pure_load_ro rfl T3.tok (fun _ => rfl) q rfl rfl) rfl (s35_put hks hS (i := 7) (by decide) (by decide) rfl)
  ·exact opwp_pure (fun c h => by cases h) (pure_move rfl (hS.kp _ _ k21)) rfl (s35_put hks hS (i := 8) (by decide) (by decide) rfl)
  ·have q3 := v 3 (by decide) (hall ⟨3, .data⟩ (Array.mem_of_getElem? (i := 0) rfl) rfl)
   have q7 := v 7 (by decide) (hall ⟨7, .data⟩ (Array.mem_of_getElem? (i := 1) rfl) rfl)
   have q8 := v 8 (by decide) (hall ⟨8, .data⟩ (Array.mem_of_getElem? (i := 2) rfl) rfl)
   obtain ⟨e2, e3, enx⟩ := hS.h0 hL
   have hc := work_call hW (nx := s.nx) (H := s.heap) (by omega) e2 e3 (k := fun v H' nx' => S35 ks hs w nm f A R n o ug ch x (fun j => if j = 9 then true else L j) (({ env := s.env, heap := H', nx := nx' } : St).put (some 139) v)) ?_
   ·obtain ⟨hf, hc⟩ := hc
    refine opwp_call (f := f) (fi := [.ptr 2 3 0 0]) (ca := []) (l := wA n o) rfl ?_ hf ?_ rfl hc
    ·show fnOf (lk s.env 133) = _
     rw [show lk s.env 133 = _ from q3]; rfl
    ·show [AV.ptr 2 3 0 0] ++ [lk s.env 137, lk s.env 138] ++ [] = _
     rw [show lk s.env 137 = _ from q7, show lk s.env 138 = _ from q8]; rfl
   ·refine ⟨fun t v hm => ?_, fun m bl hm => ?_, fun hl => (by simp at hl), fun _ => ⟨rfl, ?_, rfl⟩, fun j hj hl => ?_⟩
    ·have := hks _ hm
     exact (lk_cons_ne _ _ (by dsimp only at *; omega)).trans (hS.kp t v hm)
    ·obtain ⟨a1, a2, a3⟩ := hhs _ hm
     have := hS.ho m bl hm
     dsimp only at a1 a2 a3
     show AHeap.get ((2, _) :: (nm, _) :: AHeap.del s.heap 3) m = _
     rw [get_cons_ne _ _ a1, get_cons_ne _ _ (by rcases hnm with e | e <;> omega), get_del, if_neg a2]
     exact this
    ·show AHeap.get ((2, _) :: (nm, _) :: AHeap.del s.heap 3) nm = _
     rw [get_cons_ne _ _ (by rcases hnm with e | e <;> omega), get_cons_same]
    ·by_cases e : j = 9
     ·subst e; exact lk_cons_same _ _ _
     ·simp only [if_neg e] at hl
      exact (lk_cons_ne _ _ (fun q => e (dst_inj hj (by decide) (show dst35 j = dst35 9 from q)))).trans (hS.v j hj hl)
  ·have q := v 9 (by decide) (hall ⟨9, .data⟩ (Array.mem_of_getElem? (i := 0) rfl) rfl)
   exact opwp_pure (fun c h => by cases h) (pure_move rfl q) rfl (s35_put hks hS (i := 10) (by decide) (by decide) rfl)
  ·have q := v 10 (by decide) (hall ⟨10, .data⟩ (Array.mem_of_getElem? (i := 0) rfl) rfl)
   exact opwp_pure (fun c h => by cases h) (pure_extract_d rfl q rfl) rfl (s35_put hks hS (i := 11) (by decide) (by decide) rfl)
  ·have q := v 10 (by decide) (hall ⟨10, .data⟩ (Array.mem_of_getElem? (i := 0) rfl) rfl)
   exact opwp_pure (fun c h => by cases h) (pure_extract_d rfl q rfl) rfl (s35_put hks hS (i := 12) (by decide) (by decide) rfl)
  ·have q := v 11 (by decide) (hall ⟨11, .data⟩ (Array.mem_of_getElem? (i := 0) rfl) rfl)
   exact opwp_pure (fun c h => by cases h) (pure_assign rfl q) rfl (s35_put hks hS (i := 13) (by decide) (by decide) rfl)
  ·have q := v 12 (by decide) (hall ⟨12, .data⟩ (Array.mem_of_getElem? (i := 0) rfl) rfl)
   exact opwp_pure (fun c h => by cases h) (pure_assign rfl q) rfl (s35_put hks hS (i := 14) (by decide) (by decide) rfl)
 ·intro L s hS hall
  exact ⟨rfl, hk L s hS fun i hi => hall i hi⟩
end Go.Tz
namespace Go.Tz
open Go Go.AL Go.Proofs Go.Ma
theorem allP_of {α : Type} {f : α → Prop} : ∀ {l : List α}, (∀ a, a ∈ l → f a) → AllP f l
 | [], _ => trivial
 | _ :: _, h => ⟨h _ (by simp), allP_of fun a ha => h a (by simp [ha])⟩
variable {w nm : Nat} {f : FuncId} {A R : List Ps} {n o : Nat} {ug : Bool} {ch x : Int}
theorem reg35c {ops : Array Oper} (hops : ops = ops35) (ks : List (Nat × AV)) (hs : List (Nat × Blk)) (hks : AllP (fun p => (p.1 < 22 ∨ (80 ≤ p.1 ∧ p.1 < 90)) ∧ p.2.bel 13 = true) ks) (k16 : (16, AV.ptr 2 3 0 0) ∈ ks) (k20 : (20, AV.ptr 5 4 0 0) ∈ ks) (k21 : (21, AV.d (iD o)) ∈ ks) {c0 c2 c3 : AV} (h5 : (5, Blk.arr 4 [[c0, .d (intsD [(n : Int)] ug), c2, c3]]) ∈ hs)
  (hhs : AllP (fun p => (p.1 ≠ 2 ∧ p.1 ≠ 3 ∧ p.1 < 6) ∧ p.2.Below 13) hs) (hW : WC f (wA n o) w f A (rV ch x) nm R) (hnm : nm = 3 ∨ nm = 12) {e : List (Nat × AV)} {H : AHeap} {nx : Nat} (he : AllP (fun p => lk e p.1 = p.2) ks) (hH : AllP (fun p => H.get p.1 = some p.2) hs)
  (h2 : H.get 2 = some (wkF w 3 f)) (h3 : H.get 3 = some (dblk 4 (A.map Ps.l))) (hnx : nx = 6) {k : Exit → St → Prop}
  (hk : k .normal ⟨(22, .d (iD ch)) :: (23, .d (iD x)) :: ks, (2, some (wkF w nm f)) :: (nm, some (dblk 4 (R.map Ps.l))) :: hs.map (fun p => (p.1, some p.2)), 13⟩) : RegVC Pr GG Tryz.f58.ntmps 0 [] 35 ops ⟨e, H, nx⟩ k := by
 subst hops
 refine reg35 (ks := ks) (hs := hs) (fun p hp => (AllP.mem hks p hp).1) k16 k20 k21 h5 (fun p hp => (AllP.mem hhs p hp).1) hW hnm ⟨fun t v hm => AllP.mem he _ hm, fun m bl hm => AllP.mem hH _ hm, fun _ => ⟨h2, h3, hnx⟩, fun h => (by cases h), fun j _ h => (by cases h)⟩ ?_
 intro L s' hS hL
 obtain ⟨g2, g3, _⟩ := hS.h1 (hL 9 (by decide))
 refine ⟨_, keep_env (Nat.zero_le _) ?_ ?_ trivial, hk⟩
 ·refine ⟨⟨hS.v 13 (by decide) (hL 13 (by decide)), rfl⟩, ⟨hS.v 14 (by decide) (hL 14 (by decide)), rfl⟩, allP_of fun p hp => ⟨hS.kp _ _ hp, (AllP.mem hks p hp).2⟩⟩
 ·refine ⟨⟨by show 2 < 13; omega, _, rfl, g2, ?_⟩, ⟨by show nm < 13; omega, _, rfl, g3, below_dblk _ _ _⟩, allP_of fun p hp => ?_⟩
  ·rcases hnm with rfl | rfl <;> exact below1 rfl
  ·obtain ⟨q, hq, rfl⟩ := List.mem_map.1 hp
   have := (AllP.mem hhs q hq)
   exact ⟨by show q.1 < 13; omega, _, rfl, hS.ho _ _ hq, this.2⟩
end Go.Tz
namespace Go.Tz
open Go Go.AL Go.Proofs Go.Ma
theorem chk58 : chkFn Tryz.f58 = true := by kernel_rfl
abbrev alX (e : Int) : D := .tup [stD 0 [] true, .sl [] true, iD 0, iD e]
def alK (w b : Nat) (l : List Ps) (cw : Int) (gs : List Gt) (wa : List Int) (v : AV) (H : AHeap) : Prop :=
 (alE w l cw b gs wa = 0 ∧ v = .tup [.agg [.d (iD w), .sl 3 4 0 w w true], .sl 4 1 0 b b true, .d (iD (runA w wa b l gs).c), .d (iD 0)] ∧ H.get 3 = some (dblk 4 ((runA w wa b l gs).r.map Ps.l)) ∧ H.get 4 = some (dblk 1 (nums (runA w wa b l gs).bs))) ∨
 (alE w l cw b gs wa ≠ 0 ∧ v = .d (alX (alE w l cw b gs wa)))
theorem alK_e {w b : Nat} {l : List Ps} {cw : Int} {gs : List Gt} {wa : List Int} {H : AHeap} {e : Int} (he : e ≠ 0) (h : alE w l cw b gs wa = e) : alK w b l cw gs wa (.d (alX e)) H := by
 unfold alK; rw [h]; exact .inr ⟨he, rfl⟩
theorem meaW {w b n k : Nat} {s : As} (hI : Inv w b n k s) {g : Gt} (hg : gchk g w b = 0) (hm : mB g = true) {wa : List Int} (hb : ∀ x, x ∈ wa → x = 0 ∨ x = 1) (F : FuncId) :
  (expR w s.r (pA w wa s g) = -1 ∧ WC (if g.k = 13 then 136 else 137) (wA (gA g) (wa.getD s.k 0).toNat) w F s.r (rV 0 6) 3 s.r) ∨
  (expR w s.r (pA w wa s g) ≠ -1 ∧ ∃ ch nm : Nat, ch ≤ 1 ∧ (nm = 3 ∨ nm = 12) ∧ (if expR w s.r (pA w wa s g) = 1 then s.c else s.c + 1) = s.c + ch ∧
   WC (if g.k = 13 then 136 else 137) (wA (gA g) (wa.getD s.k 0).toNat) w F s.r (rV ch 0) nm (stepA w wa s g).r) := by
 obtain ⟨h1, h2, h3⟩ := mB_wire hg hm
 have ho := (want_at hb s.k).2.1
 have hpa : pA w wa s g = zP w (gA g) (wa.getD s.k 0).toNat := rfl
 rcases (of_decide_eq_true hm : g.k = 13 ∨ g.k = 14) with hk | hk
 ·rw [if_pos hk, step_13 hk]
  dsimp only
  unfold rA
  rw [hpa]
  rcases meas hI.ok hI.ok (fun _ => Iff.rfl) h2 ho F with ⟨a, c⟩ | ⟨a, c⟩ | ⟨a, _, c⟩
  ·rw [a, if_pos rfl, if_pos rfl]
   exact .inr ⟨by decide, 0, 3, by omega, .inl rfl, rfl, c⟩
  ·exact .inl ⟨a, c⟩
  ·rw [a, if_neg (by decide), if_neg (by decide)]
   exact .inr ⟨by decide, 1, 12, by omega, .inr rfl, rfl, c⟩
 ·rw [if_neg (show ¬ g.k = 13 by rw [hk]; decide), step_14 hk]
  dsimp only
  unfold rA
  rw [hpa]
  rcases rese hI.ok hI.ok (fun _ => Iff.rfl) h2 ho F with ⟨a, nm, hnm, c⟩ | ⟨a, c⟩ | ⟨a, _, c⟩
  ·rw [a, if_pos rfl, if_pos rfl]
   exact .inr ⟨by decide, 0, nm, by omega, hnm, rfl, c⟩
  ·exact .inl ⟨a, c⟩
  ·rw [a, if_neg (show ¬ (0 : Int) = 1 by decide), if_neg (show ¬ (0 : Int) = 1 by decide)]
   exact .inr ⟨by decide, 1, 12, by omega, .inr rfl, rfl, c⟩
theorem drop_get {wa : List Int} {k : Nat} (h : k < wa.length) : ((wa.drop k).map fun k => [iD k])[(0 : Int).toNat]? = some [iD (wa.getD k 0)] := by
 rw [List.getD_eq_getElem?_getD, List.getElem?_eq_getElem h]
 simp [h]
theorem drop_step {wa : List Int} {k n : Nat} {u : Bool} (hn : n = ((wa.drop k).map fun k => [iD k]).length) : AV.d (.sl ((((wa.drop k).map fun k => [iD k]).drop 1).take (n - 1)) (u && decide (n = ((wa.drop k).map fun k => [iD k]).length))) = AV.d (intsD (wa.drop (k + 1)) u) := by
 rw [decide_eq_true hn, Bool.and_true, hn]
 have e : (((wa.drop k).map fun k => [iD k]).drop 1).take (((wa.drop k).map fun k => [iD k]).length - 1) = (wa.drop (k + 1)).map fun k => [iD k] := by
  rw [List.take_of_length_le (by simp; omega), ← List.map_drop, List.drop_drop]
 rw [e]
theorem lendA2 {V : AHeap} {nm sz N : Nat} {t : Bool} {es : List (List D)} {a e : D} (hg : V.get nm = some (dblk sz es)) (hN : N = es.length) : mapO (asDX V 9 []) [.agg [.d a, .sl nm sz 0 N N t], .d e] = some [.agg [a, .sl es t], e] := by
 have h := asDX_sl (q := 6) (vis := []) (t := t) hg hN
 have e1 : asDX V 8 [] (.d a) = some a := rfl
 have e2 : asDX V 9 [] (.d e) = some e := rfl
 have e3 : asDX V 9 [] (.agg [.d a, .sl nm sz 0 N N t]) = some (.agg [a, .sl es t]) := by
  unfold asDX
  simp only [mapO, e1, h]
 simp only [mapO, e2, e3]
set_option maxHeartbeats 8000000 in
theorem along58k {w b : Nat} {l : List Ps} (hs : SOk w l) (cw : Int) (gs : List Gt) (wa : List Int) (ct t u : Bool) (hC : cchk cw b gs = 0) (hws : ∀ g, g ∈ gs → g.ws.length ≤ 1000) (hwn : wa.length ≤ 1000) :
  ACall Pr GG 58 ([circD cw b gs ct, stD w l t, intsD wa u].map .d) [] 0 (fun v H _ => alK w b l cw gs wa v H) := by
 obtain ⟨hcw, hb, hgl, hgc⟩ := cchk_ok hC
 have hw : 1 ≤ w ∧ w ≤ 12 := ⟨hs.lo, hs.hi⟩
 have c1 := check129 (G := GG) cw b gs ct (by omega) hws
 rw [hC] at c1
 have c2 := check36 w l t (sok_len hs)
 rw [ok_chk hs] at c2
 have c3 := opened95 (G := GG) hw l t (sok_len hs) hs.vl
 rw [hs.len] at c3
 have c4 := every131 (G := GG) gs ct 132 [] [.rop [.fn 130 [] []] 0] okB (by omega) fun g _ => ok132 g
 have c5 := every134 (G := GG) wa u 135 [] [] (fun x => !offB x 0 1) hwn fun x _ => bit135 x
 refine fn_walk pok Tryz.func58 chk58 ?_
 conv => whnf
 repeat' first | ((first | refine LookP.mk _ rfl ?_ | refine ShlP.mk _ (by first | (simp only [List.set, over, List.take, List.drop, List.append_eq, List.nil_append, List.cons_append, List.length]; rfl) | rfl) ?_ | refine bneT ?_ | refine pc_use c1 ?_ | refine pc_use c2 ?_ | refine HpP.force ?_); conv => whnf)
 refine for_use pok (fun i => ⟨[(2, .d (intsD wa u)), (3, .ptr 0 3 0 0), (4, .ptr 1 2 0 0), (6, .ptr 2 2 0 0), (12, .ptr 3 1 0 0), (13, .d (iD ((gs.take i).countP mB : Nat))), (37, .d (gatesD gs ct)), (38, .d (iD (gs.map Gt.l).length)), (39, .d (iD i))], [(0, some (.arr 3 [[.d (iD cw), .d (iD b), .d (gatesD gs ct)]])), (1, some (.arr 2 [[.d (iD w), .d (rowsD l t)]])), (2, some (.arr 2 [[.d (iD 0), .d (.sl [] true)]])), (3, some (.arr 1 [[.d (.fn 130 [] [])]]))], 4⟩) (gs.length) (fun _ => True) (trivial) ?_ (by kernel_rfl) ?_ ?_
 ·refine keep_env (by first | exact Nat.zero_le _ | exact Nat.le_of_ble_eq_true rfl) ?_ ?_ trivial
  ·repeat' first | exact trivial | refine ⟨⟨by first | rfl | assumption, rfl⟩, ?_⟩
  ·repeat' first | exact trivial | refine ⟨⟨ltB rfl, _, rfl, by first | rfl | assumption, by first | exact below1 rfl | exact below_dblk _ _ _ | exact below_arr rfl⟩, ?_⟩
 ·intro i A_i h_i I_i N_i
  have e_i : iadd .i64 (i : Int) 1 = ((i + 1 : Nat) : Int) := iadd_nat (by first | omega | (simp at *; omega))
  have hgg : (gs.map Gt.l)[(i : Int).toNat]? = some (gs[i]).l := get_g h_i
  have hcs : (gs.take (i + 1)).countP mB = (gs.take i).countP mB + if mB gs[i] = true then 1 else 0 := by
   rw [take_snoc h_i, List.countP_append]
   simp [List.countP_cons]
  have hkn := meas130 gs[i]
  have hcb : (gs.take i).countP mB ≤ i := by
   have := List.countP_le_length (p := mB) (l := gs.take i)
   rw [List.length_take] at this; omega
  generalize gs[i] = g at hgg hcs hkn
  generalize mB g = m at hcs hkn
  generalize (gs.take i).countP mB = n at hcs hcb ⊢
  have hia : iadd .i64 (n : Int) 1 = ((n + 1 : Nat) : Int) := iadd_nat (b := 1) (by omega)
  conv => whnf
  repeat (refine LookP.mk _ rfl ?_; conv => whnf)
  intro t ht
  cases t
  ·exfalso; first | (simp at ht; done) | (simp at ht; omega)
  conv => whnf
  repeat' first | ((first | refine LookP.mk _ (by first | rfl | exact hgg) ?_ | refine ShlP.mk _ (by first | (simp only [List.set, over, List.take, List.drop, List.append_eq, List.nil_append, List.cons_append, List.length]; rfl) | rfl) ?_ | refine And.intro (by first | assumption | exact ⟨by kernel_rfl, rfl⟩ | decide | omega) ?_ | refine pc_use3B hkn rfl ?_ | refine HpP.force ?_); conv => whnf) | (intro t ht; cases t <;> conv => whnf)
  ·subst ht
   refine N_i _ ?_ ?_
   ·first | trivial | assumption | omega
   ·refine keep_env (by first | exact Nat.zero_le _ | exact Nat.le_of_ble_eq_true rfl) ?_ ?_ trivial
    ·repeat' first | exact trivial | refine ⟨⟨by first | rfl | assumption | exact congrArg (fun n => AV.d (iD n)) e_i | (rw [hcs]; rfl), rfl⟩, ?_⟩
    ·repeat' first | exact trivial | refine ⟨⟨ltB rfl, _, rfl, by first | rfl | assumption, by first | exact below1 rfl | exact below_dblk _ _ _ | exact below_arr rfl⟩, ?_⟩
  ·subst ht
   refine N_i _ ?_ ?_
   ·first | trivial | assumption | omega
   ·refine keep_env (by first | exact Nat.zero_le _ | exact Nat.le_of_ble_eq_true rfl) ?_ ?_ trivial
    ·repeat' first | exact trivial | refine ⟨⟨by first | rfl | assumption | exact congrArg (fun n => AV.d (iD n)) e_i | (rw [hcs, hia]; rfl), rfl⟩, ?_⟩
    ·repeat' first | exact trivial | refine ⟨⟨ltB rfl, _, rfl, by first | rfl | assumption, by first | exact below1 rfl | exact below_dblk _ _ _ | exact below_arr rfl⟩, ?_⟩
 ·intro A_last I_last
  rw [List.take_length]
  conv => whnf
  repeat (refine LookP.mk _ rfl ?_; conv => whnf)
  intro t ht
  cases t
  rotate_left
  ·exfalso; first | (simp at ht; done) | (simp at ht; omega)
  conv => whnf
  by_cases hcww : cw = w
  ·subst hcww
   repeat' first | ((first | refine LookP.mk _ rfl ?_ | refine ShlP.mk _ (by first | (simp only [List.set, over, List.take, List.drop, List.append_eq, List.nil_append, List.cons_append, List.length]; rfl) | rfl) ?_ | refine And.intro (by first | exact ⟨hb.1, rfl, by show 8 * b ≤ _; omega, by decide, by decide⟩ | assumption | exact ⟨by kernel_rfl, rfl⟩ | decide | omega) ?_ | refine bneT ?_); conv => whnf) | (refine pc_lendcB c4 rfl ?_) | (refine pc_useB c5 ?_) | ((first | refine po_use c3 ?_ | refine HpP.force ?_); conv => whnf) | (intro t ht; cases t <;> conv => whnf)
   ·exact fin (alK_e (by decide) (al7 (.inr ht)))
   ·exact fin (alK_e (by decide) (al3 (by assumption) (by rename_i q1 q2 q3; simp at q1 q2 q3; omega) ht))
   ·have hkb : gs.all okB = true := by assumption
    have hcn : wa.length = gs.countP mB := by rename_i q1 q2 q3; simp at q1 q2 q3; omega
    have hbt := ht
    clear c4 c5 c1 c2
    have hA := okW_a hC hkb hcn hbt
    refine for_useR pok 35 (fun i => ⟨[(2, .d (intsD (wa.drop (runA w wa b l (gs.take i)).k) u)), (6, .ptr 0 2 0 0), (12, .ptr 1 1 0 0), (16, .ptr 2 3 0 0), (17, .sl 4 1 0 b b true), (18, .d (iD (runA w wa b l (gs.take i)).c)), (80, .d (gatesD gs ct)), (81, .d (iD (gs.map Gt.l).length)), (82, .d (iD i))], [(0, some (.arr 2 [[.d (iD 0), .d (.sl [] true)]])), (1, some (.arr 1 [[.d (.fn 130 [] [])]])), (2, some (wkF w 3 (runA w wa b l (gs.take i)).f)), (3, some (dblk 4 ((runA w wa b l (gs.take i)).r.map Ps.l))), (4, some (dblk 1 (nums (runA w wa b l (gs.take i)).bs)))], 5⟩) (gs.length) (fun i => ∀ j (h : j < gs.length), j < i → badA w wa b l gs j gs[j] = false) (fun j _ h => absurd h (Nat.not_lt_zero j)) ?_ (by kernel_rfl) ?_ ?_
    ·first | refine ren_env [(0, 2), (1, 3), (2, 4), (3, 5), (4, 6)] ?_ ?_ ?_ trivial | refine ren_envB [(0, 2), (1, 3), (2, 4), (3, 5), (4, 6)] rfl rfl ?_ ?_ ?_ trivial
     ·repeat' first | exact trivial | refine ⟨⟨by first | rfl | assumption, rfl⟩, ?_⟩
     ·repeat' first | exact trivial | refine ⟨⟨ltB rfl, _, rfl, by first | rfl | assumption | exact get_ren rfl (by first | rfl | assumption | exact get_ren rfl (show some (Blk.ren _ (dblk 4 ((redRows l (2 * w)).map Ps.l))) = some (dblk 4 ((redRows l (2 * w)).map Ps.l)) from by rw [ren_dblk]) | exact get_ren (l := nums (List.replicate b 0)) rfl (congrArg some (show Blk.arr 1 (List.replicate b [AV.d (iD 0)]) = dblk 1 (nums (List.replicate b 0)) from by unfold dblk nums; simp))) | exact get_ren rfl (show some (Blk.ren _ (dblk 4 ((redRows l (2 * w)).map Ps.l))) = some (dblk 4 ((redRows l (2 * w)).map Ps.l)) from by rw [ren_dblk]) | exact get_ren (l := nums (List.replicate b 0)) rfl (congrArg some (show Blk.arr 1 (List.replicate b [AV.d (iD 0)]) = dblk 1 (nums (List.replicate b 0)) from by unfold dblk nums; simp)), by first | exact below1 rfl | exact below_dblk _ _ _ | exact below_arr rfl⟩, ?_⟩
     ·repeat' first | exact trivial | (refine And.intro ?_ ?_) | (exact fun _ => rfl) | (exact fun h => absurd h (Nat.ne_of_beq_eq_false rfl))
    ·intro i A_i h_i I_i N_i
     have e_i : iadd .i64 (i : Int) 1 = ((i + 1 : Nat) : Int) := iadd_nat (by first | omega | (simp at *; omega))
     have hI := runA_inv hA hs i (by omega) I_i
     have hgi := hgc _ (List.getElem_mem h_i)
     have hkd := hA.kd _ (List.getElem_mem h_i)
     have hgg : (gs.map Gt.l)[(i : Int).toNat]? = some (gs[i]).l := get_g h_i
     have hsn := runA_snoc (w := w) (wa := wa) (b := b) (l := l) h_i
     have hbd : badA w wa b l gs i gs[i] = (mB gs[i] && decide (expR w (runA w wa b l (gs.take i)).r (pA w wa (runA w wa b l (gs.take i)) gs[i]) = -1)) := rfl
     have hNx : badA w wa b l gs i gs[i] = false → ∀ j (h : j < gs.length), j < i + 1 → badA w wa b l gs j gs[j] = false := fun q j h hj => by
      rcases Nat.lt_or_ge j i with c | c
      ·exact I_i j h c
      ·obtain rfl : j = i := by omega
       exact q
     have hE6 : badA w wa b l gs i gs[i] = true → alE w l w b gs wa = 6 := fun q => al6 hkb hcn hbt h_i q
     have hkl : mB gs[i] = true → (runA w wa b l (gs.take i)).k < wa.length := fun hm => by rw [hI.k, hcn]; exact cnt_le h_i hm
     have hkn := meas130 gs[i]
     rw [hbd] at hNx hE6
     clear hbd
     generalize runA w wa b l (gs.take i) = s at hI hsn hNx hE6 hkl ⊢
     generalize runA w wa b l (gs.take (i + 1)) = s' at hsn N_i
     generalize gs[i] = g at hgi hkd hgg hsn hNx hE6 hkl hkn
     have hlen := hI.ok.len
     have hvl := hI.ok.vl
     cases hm : mB g with
     | false =>
      rw [hm] at hNx hkn
      have hk : kindB g.k = true := hkd.resolve_left (by simp [hm])
      have hst := step_off (w := w) (wa := wa) (s := s) hm
      obtain ⟨b1, b2, b3, b4⟩ := bitE_ok (gchk_ok hgi).2.2.2.2
      obtain ⟨k, ws, ug, gb, gi⟩ := g
      have ha := applied125 (G := GG) hw (i := gi) (gchk_bits hk hgi) hk s.r true (sok_len hI.ok) hvl
      have hga : appG w ⟨k, ws, ug, gb, 0⟩ s.r = appG w ⟨k, ws, ug, gb, gi⟩ s.r := rfl
      rw [hga, hlen] at ha
      dsimp only at b1
      have hbl := hI.bl
      have hml : w = (s.r.map Ps.l).length := by rw [List.length_map, hlen]
      obtain ⟨r, bs, c, kk, f⟩ := s
      rw [hst] at hsn
      dsimp only at ha hsn hbl hml ⊢
      generalize appG w ⟨k, ws, ug, gb, gi⟩ r = r' at ha hsn
      by_cases hi0 : gi = 0
      ·subst hi0
       rw [show onB ⟨r, bs, c, kk, f⟩ ⟨k, ws, ug, gb, 0⟩ = true from rfl, if_pos rfl] at hsn
       subst hsn
       conv => whnf
       repeat (refine LookP.mk _ rfl ?_; conv => whnf)
       intro t ht
       cases t
       ·exfalso; first | (simp at ht; done) | (simp at ht; omega)
       conv => whnf
       repeat' first | ((first | refine LookP.mk _ (by first | rfl | exact hgg | exact lendA2 rfl hml) ?_ | refine ShlP.mk _ (by first | (simp only [List.set, over, List.take, List.drop, List.append_eq, List.nil_append, List.cons_append, List.length]; rfl) | rfl) ?_ | refine And.intro (by first | assumption | exact ⟨by kernel_rfl, rfl⟩ | decide | omega) ?_ | refine pc_use3B hkn rfl ?_ | refine beqT1 ?_ | refine spine_rd (l := [3]) (rd_call rfl rfl (show _ = some (dblk 4 (r.map Ps.l)) from rfl)) ?_ | refine po_head ha ?_ | rw [flOf_rows] | refine ShhP.mk _ rfl ?_ | refine HpP.force ?_); conv => whnf) | (intro t ht; cases t <;> conv => whnf)
       ·refine N_i _ ?_ ?_
        ·exact hNx rfl
        ·first | refine ren_env [(3, 6)] ?_ ?_ ?_ trivial | refine ren_envB [(3, 6)] rfl rfl ?_ ?_ ?_ trivial
         ·repeat' first | exact trivial | refine ⟨⟨by first | rfl | assumption | exact congrArg (fun n => AV.d (iD n)) e_i, rfl⟩, ?_⟩
         ·repeat' first | exact trivial | refine ⟨⟨ltB rfl, _, rfl, by first | rfl | assumption | exact get_ren rfl (by first | rfl | assumption | exact get_ren rfl (show some (Blk.ren _ (dblk 4 _)) = _ from by rw [ren_dblk])) | exact get_ren rfl (show some (Blk.ren _ (dblk 4 _)) = _ from by rw [ren_dblk]), by first | exact below1 rfl | exact below_dblk _ _ _ | exact below_arr rfl⟩, ?_⟩
         ·repeat' first | exact trivial | (refine And.intro ?_ ?_) | (exact fun _ => rfl) | (exact fun h => absurd h (Nat.ne_of_beq_eq_false rfl))
       ·cases ht
      ·obtain ⟨m, rfl⟩ : ∃ m : Nat, gi = ((m + 1 : Nat) : Int) := ⟨(gi - 1).toNat, by omega⟩
       have hsb : isub .i64 ((m + 1 : Nat) : Int) 1 = ((m : Nat) : Int) := isub_nat (b := 1) (by omega) (by omega)
       have hmb : m < bs.length := by omega
       have hgb := get_is hmb
       have hon : onB ⟨r, bs, c, kk, f⟩ ⟨k, ws, ug, gb, ((m + 1 : Nat) : Int)⟩ = decide (bs.getD m 0 = 1) := by
        unfold onB
        rw [decide_eq_false (show ¬ ((m + 1 : Nat) : Int) = 0 by omega), show (((m + 1 : Nat) : Int) - 1).toNat = m by omega]; rfl
       rw [hon] at hsn
       generalize bs.getD m 0 = x at hgb hsn
       conv => whnf
       repeat (refine LookP.mk _ rfl ?_; conv => whnf)
       intro t ht
       cases t
       ·exfalso; first | (simp at ht; done) | (simp at ht; omega)
       conv => whnf
       repeat' first | ((first | refine LookP.mk _ (by first | rfl | exact hgg | exact hgb | exact lendA2 rfl hml) ?_ | refine ShlP.mk _ (by first | (simp only [List.set, over, List.take, List.drop, List.append_eq, List.nil_append, List.cons_append, List.length]; rfl) | rfl) ?_ | refine And.intro (by first | assumption | exact ⟨by kernel_rfl, rfl⟩ | decide | omega) ?_ | refine pc_use3B hkn rfl ?_ | rw [hsb] | refine spine_rd (l := [3]) (rd_call rfl rfl (show _ = some (dblk 4 (r.map Ps.l)) from rfl)) ?_ | refine po_head ha ?_ | rw [flOf_rows] | refine ShhP.mk _ rfl ?_ | refine HpP.force ?_); conv => whnf) | (intro t ht; cases t <;> conv => whnf)
       all_goals first | (exfalso; simp at ht; omega) | (cases ht; done) | skip
       ·rw [decide_eq_false (show ¬ x = 1 from fun e => by subst e; cases ht), if_neg (by decide)] at hsn
        subst hsn
        refine N_i _ ?_ ?_
        ·exact hNx rfl
        ·refine keep_env (by first | exact Nat.zero_le _ | exact Nat.le_of_ble_eq_true rfl) ?_ ?_ trivial
         ·repeat' first | exact trivial | refine ⟨⟨by first | rfl | assumption | exact congrArg (fun n => AV.d (iD n)) e_i, rfl⟩, ?_⟩
         ·repeat' first | exact trivial | refine ⟨⟨ltB rfl, _, rfl, by first | rfl | assumption, by first | exact below1 rfl | exact below_dblk _ _ _ | exact below_arr rfl⟩, ?_⟩
       ·rw [decide_eq_true (show x = 1 from eq_of_beq ht), if_pos rfl] at hsn
        subst hsn
        refine N_i _ ?_ ?_
        ·exact hNx rfl
        ·first | refine ren_env [(3, 6)] ?_ ?_ ?_ trivial | refine ren_envB [(3, 6)] rfl rfl ?_ ?_ ?_ trivial
         ·repeat' first | exact trivial | refine ⟨⟨by first | rfl | assumption | exact congrArg (fun n => AV.d (iD n)) e_i, rfl⟩, ?_⟩
         ·repeat' first | exact trivial | refine ⟨⟨ltB rfl, _, rfl, by first | rfl | assumption | exact get_ren rfl (by first | rfl | assumption | exact get_ren rfl (show some (Blk.ren _ (dblk 4 _)) = _ from by rw [ren_dblk])) | exact get_ren rfl (show some (Blk.ren _ (dblk 4 _)) = _ from by rw [ren_dblk]), by first | exact below1 rfl | exact below_dblk _ _ _ | exact below_arr rfl⟩, ?_⟩
         ·repeat' first | exact trivial | (refine And.intro ?_ ?_) | (exact fun _ => rfl) | (exact fun h => absurd h (Nat.ne_of_beq_eq_false rfl))
     | true =>
      rw [hm] at hNx hE6 hkn
      have hkl := hkl hm
      obtain ⟨hws, hn, hi0⟩ := mB_wire hgi hm
      obtain ⟨w1, w2, w3⟩ := want_at hA.bit s.k
      have hwg := drop_get hkl
      rw [← w3] at hwg
      have hrc := hI.c
      have hbl := hI.bl
      have hs1 : 1 ≤ ((wa.drop s.k).map fun k => [iD k]).length := by simp; omega
      have hs2 : ∀ el, el ∈ ((wa.drop s.k).map fun k => [iD k]) → el.length = 1 := fun el h => by
       obtain ⟨x, _, rfl⟩ := List.mem_map.1 h; rfl
      rcases meaW hI hgi hm hA.bit (if g.k = 13 then 136 else 137) with ⟨hx, hc⟩ | ⟨hx, ch, nm, hch, hnm, hcc, hc⟩
      ·have h6 := hE6 (by rw [hx]; rfl)
       have hk := (of_decide_eq_true hm : g.k = 13 ∨ g.k = 14)
       clear hE6 hNx hx hI w1 w3 hkd hgi hm hsn N_i hbl
       generalize (wa.getD s.k 0).toNat = o at *
       generalize gA g = n at *
       obtain ⟨k, ws, ug, gb, gi⟩ := g
       obtain ⟨r, bs, c, kk, f⟩ := s
       dsimp only at hk hws hi0 hc hwg hs1 hs2 ⊢
       subst hws hi0
       rcases hk with rfl | rfl
       ·rw [if_pos rfl] at hc
        conv => whnf
        repeat (refine LookP.mk _ rfl ?_; conv => whnf)
        intro t ht
        cases t
        ·exfalso; first | (simp at ht; done) | (simp at ht; omega)
        conv => whnf
        repeat' first | ((first | refine LookP.mk _ (by first | rfl | exact hgg | exact hwg) ?_ | refine ShlP.mk _ (by first | (simp only [List.set, over, List.take, List.drop, List.append_eq, List.nil_append, List.cons_append, List.length]; rfl) | rfl) ?_ | refine And.intro (by first | exact ⟨hs1, Nat.le_refl _, hs2⟩ | assumption | exact ⟨by kernel_rfl, rfl⟩ | decide | omega) ?_ | refine pc_use3B hkn rfl ?_ | refine beqT1 ?_ | refine beqF1 (a := 13) (b := 14) rfl ?_ | refine HpP.force ?_); conv => whnf) | (intro t ht; cases t <;> conv => whnf)
        ·cases ht
        refine reg35c (by kernel_rfl) [(16, .ptr 2 3 0 0), (20, .ptr 5 4 0 0), (21, .d (iD o)), (2, .d (intsD (wa.drop (kk + 1)) u)), (6, .ptr 0 2 0 0), (12, .ptr 1 1 0 0), (17, .sl 4 1 0 b b true), (18, .d (iD c)), (80, .d (gatesD gs ct)), (81, .d (iD (gs.map Gt.l).length)), (82, .d (iD i))] [(5, .arr 4 [[.d (iD 13), .d (intsD [(n : Int)] ug), .d (iD gb), .d (iD 0)]]), (0, .arr 2 [[.d (iD 0), .d (.sl [] true)]]), (1, .arr 1 [[.d (.fn 130 [] [])]]), (4, dblk 1 (nums bs))] (by repeat' first | exact trivial | (refine ⟨⟨by first | exact .inl (Nat.le_of_ble_eq_true rfl) | exact .inr ⟨Nat.le_of_ble_eq_true rfl, Nat.le_of_ble_eq_true rfl⟩, rfl⟩, ?_⟩)) List.mem_cons_self (List.mem_cons_of_mem _ List.mem_cons_self) (List.mem_cons_of_mem _ (List.mem_cons_of_mem _ List.mem_cons_self)) List.mem_cons_self (by repeat' first | exact trivial | (refine ⟨⟨⟨Nat.ne_of_beq_eq_false rfl, Nat.ne_of_beq_eq_false rfl, Nat.le_of_ble_eq_true rfl⟩, by first | exact below_dblk _ _ _ | exact below1 rfl⟩, ?_⟩)) hc (.inl rfl) (by repeat' first | exact trivial | (refine ⟨by first | rfl | exact drop_step rfl, ?_⟩)) (by repeat' first | exact trivial | (refine ⟨rfl, ?_⟩)) rfl rfl rfl ?_
        conv => whnf
        repeat' first | ((first | refine LookP.mk _ rfl ?_ | refine ShlP.mk _ (by first | (simp only [List.set, over, List.take, List.drop, List.append_eq, List.nil_append, List.cons_append, List.length]; rfl) | rfl) ?_ | refine bneF (a := 6) (b := 0) (by decide) ?_ | refine HpP.force ?_); conv => whnf)
        exact fin (alK_e (by decide) h6)
       ·rw [if_neg (show ¬ (14 : Int) = 13 by decide)] at hc
        conv => whnf
        repeat (refine LookP.mk _ rfl ?_; conv => whnf)
        intro t ht
        cases t
        ·exfalso; first | (simp at ht; done) | (simp at ht; omega)
        conv => whnf
        repeat' first | ((first | refine LookP.mk _ (by first | rfl | exact hgg | exact hwg) ?_ | refine ShlP.mk _ (by first | (simp only [List.set, over, List.take, List.drop, List.append_eq, List.nil_append, List.cons_append, List.length]; rfl) | rfl) ?_ | refine And.intro (by first | exact ⟨hs1, Nat.le_refl _, hs2⟩ | assumption | exact ⟨by kernel_rfl, rfl⟩ | decide | omega) ?_ | refine pc_use3B hkn rfl ?_ | refine beqT1 ?_ | refine HpP.force ?_); conv => whnf) | (intro t ht; cases t <;> conv => whnf)
        ·cases ht
        refine reg35c (by kernel_rfl) [(16, .ptr 2 3 0 0), (20, .ptr 5 4 0 0), (21, .d (iD o)), (2, .d (intsD (wa.drop (kk + 1)) u)), (6, .ptr 0 2 0 0), (12, .ptr 1 1 0 0), (17, .sl 4 1 0 b b true), (18, .d (iD c)), (80, .d (gatesD gs ct)), (81, .d (iD (gs.map Gt.l).length)), (82, .d (iD i))] [(5, .arr 4 [[.d (iD 14), .d (intsD [(n : Int)] ug), .d (iD gb), .d (iD 0)]]), (0, .arr 2 [[.d (iD 0), .d (.sl [] true)]]), (1, .arr 1 [[.d (.fn 130 [] [])]]), (4, dblk 1 (nums bs))] (by repeat' first | exact trivial | (refine ⟨⟨by first | exact .inl (Nat.le_of_ble_eq_true rfl) | exact .inr ⟨Nat.le_of_ble_eq_true rfl, Nat.le_of_ble_eq_true rfl⟩, rfl⟩, ?_⟩)) List.mem_cons_self (List.mem_cons_of_mem _ List.mem_cons_self) (List.mem_cons_of_mem _ (List.mem_cons_of_mem _ List.mem_cons_self)) List.mem_cons_self (by repeat' first | exact trivial | (refine ⟨⟨⟨Nat.ne_of_beq_eq_false rfl, Nat.ne_of_beq_eq_false rfl, Nat.le_of_ble_eq_true rfl⟩, by first | exact below_dblk _ _ _ | exact below1 rfl⟩, ?_⟩)) hc (.inl rfl) (by repeat' first | exact trivial | (refine ⟨by first | rfl | exact drop_step rfl, ?_⟩)) (by repeat' first | exact trivial | (refine ⟨rfl, ?_⟩)) rfl rfl rfl ?_
        conv => whnf
        repeat' first | ((first | refine LookP.mk _ rfl ?_ | refine ShlP.mk _ (by first | (simp only [List.set, over, List.take, List.drop, List.append_eq, List.nil_append, List.cons_append, List.length]; rfl) | rfl) ?_ | refine bneF (a := 6) (b := 0) (by decide) ?_ | refine HpP.force ?_); conv => whnf)
        exact fin (alK_e (by decide) h6)
      ·have hNx2 := hNx (by rw [decide_eq_false hx]; rfl)
       have hia : iadd .i64 (s.c : Int) (ch : Int) = ((s.c + ch : Nat) : Int) := iadd_nat (by omega)
       rw [← hsn] at hc
       rcases (of_decide_eq_true hm : g.k = 13 ∨ g.k = 14) with hk | hk
       ·rw [if_pos hk] at hc
        rw [step_13 hk, hcc, ← w3] at hsn
        have hbb := mB_bit hgi hk
        clear hE6 hNx hx hI w1 hkd hgi hcc hm
        generalize rA w wa s g = R at hsn
        subst hsn
        dsimp only at hc ⊢
        generalize (wa.getD s.k 0).toNat = o at *
        generalize gA g = n at *
        obtain ⟨k, ws, ug, gb, gi⟩ := g
        obtain ⟨r, bs, c, kk, f⟩ := s
        dsimp only at hk hws hi0 hbb hc hwg hia hs1 hs2 hbl ⊢
        subst hk hws hi0
        obtain ⟨m, rfl⟩ : ∃ m : Nat, gb = m := ⟨gb.toNat, by omega⟩
        have hmb : m < bs.length := by omega
        have hgb := get_is hmb
        rcases hnm with rfl | rfl
        ·conv => whnf
         repeat (refine LookP.mk _ rfl ?_; conv => whnf)
         intro t ht
         cases t
         ·exfalso; first | (simp at ht; done) | (simp at ht; omega)
         conv => whnf
         repeat' first | ((first | refine LookP.mk _ (by first | rfl | exact hgg | exact hwg) ?_ | refine ShlP.mk _ (by first | (simp only [List.set, over, List.take, List.drop, List.append_eq, List.nil_append, List.cons_append, List.length]; rfl) | rfl) ?_ | refine And.intro (by first | exact ⟨hs1, Nat.le_refl _, hs2⟩ | assumption | exact ⟨by kernel_rfl, rfl⟩ | decide | omega) ?_ | refine pc_use3B hkn rfl ?_ | refine beqT1 ?_ | refine beqF1 (a := 13) (b := 14) rfl ?_ | refine HpP.force ?_); conv => whnf) | (intro t ht; cases t <;> conv => whnf)
         ·cases ht
         refine reg35c (by kernel_rfl) [(16, .ptr 2 3 0 0), (20, .ptr 5 4 0 0), (21, .d (iD o)), (2, .d (intsD (wa.drop (kk + 1)) u)), (6, .ptr 0 2 0 0), (12, .ptr 1 1 0 0), (17, .sl 4 1 0 b b true), (18, .d (iD c)), (80, .d (gatesD gs ct)), (81, .d (iD (gs.map Gt.l).length)), (82, .d (iD i))] [(5, .arr 4 [[.d (iD 13), .d (intsD [(n : Int)] ug), .d (iD m), .d (iD 0)]]), (0, .arr 2 [[.d (iD 0), .d (.sl [] true)]]), (1, .arr 1 [[.d (.fn 130 [] [])]]), (4, dblk 1 (nums bs))] (by repeat' first | exact trivial | (refine ⟨⟨by first | exact .inl (Nat.le_of_ble_eq_true rfl) | exact .inr ⟨Nat.le_of_ble_eq_true rfl, Nat.le_of_ble_eq_true rfl⟩, rfl⟩, ?_⟩)) List.mem_cons_self (List.mem_cons_of_mem _ List.mem_cons_self) (List.mem_cons_of_mem _ (List.mem_cons_of_mem _ List.mem_cons_self)) List.mem_cons_self (by repeat' first | exact trivial | (refine ⟨⟨⟨Nat.ne_of_beq_eq_false rfl, Nat.ne_of_beq_eq_false rfl, Nat.le_of_ble_eq_true rfl⟩, by first | exact below_dblk _ _ _ | exact below1 rfl⟩, ?_⟩)) hc (.inl rfl) (by repeat' first | exact trivial | (refine ⟨by first | rfl | exact drop_step rfl, ?_⟩)) (by repeat' first | exact trivial | (refine ⟨rfl, ?_⟩)) rfl rfl rfl ?_
         conv => whnf
         repeat' first | ((first | refine LookP.mk _ (by first | rfl | exact hgb) ?_ | refine ShlP.mk _ (by first | exact set_is (x := o) | rfl) ?_ | refine And.intro (by first | assumption | exact ⟨by kernel_rfl, rfl⟩ | decide | omega) ?_ | refine bneT ?_ | refine beqT1 ?_ | refine HpP.force ?_); conv => whnf)
         refine N_i _ ?_ ?_
         ·exact hNx2
         ·first | refine ren_env [(3, 3)] ?_ ?_ ?_ trivial | refine ren_envB [(3, 3)] rfl rfl ?_ ?_ ?_ trivial
          ·repeat' first | exact trivial | refine ⟨⟨by first | rfl | assumption | exact congrArg (fun n => AV.d (iD n)) e_i | exact congrArg (fun n => AV.d (iD n)) hia, rfl⟩, ?_⟩
          ·repeat' first | exact trivial | refine ⟨⟨ltB rfl, _, rfl, by first | rfl | assumption | exact get_ren rfl (by first | rfl | assumption), by first | exact below1 rfl | exact below_dblk _ _ _ | exact below_arr rfl⟩, ?_⟩
          ·repeat' first | exact trivial | (refine And.intro ?_ ?_) | (exact fun _ => rfl) | (exact fun h => absurd h (Nat.ne_of_beq_eq_false rfl))
        ·conv => whnf
         repeat (refine LookP.mk _ rfl ?_; conv => whnf)
         intro t ht
         cases t
         ·exfalso; first | (simp at ht; done) | (simp at ht; omega)
         conv => whnf
         repeat' first | ((first | refine LookP.mk _ (by first | rfl | exact hgg | exact hwg) ?_ | refine ShlP.mk _ (by first | (simp only [List.set, over, List.take, List.drop, List.append_eq, List.nil_append, List.cons_append, List.length]; rfl) | rfl) ?_ | refine And.intro (by first | exact ⟨hs1, Nat.le_refl _, hs2⟩ | assumption | exact ⟨by kernel_rfl, rfl⟩ | decide | omega) ?_ | refine pc_use3B hkn rfl ?_ | refine beqT1 ?_ | refine beqF1 (a := 13) (b := 14) rfl ?_ | refine HpP.force ?_); conv => whnf) | (intro t ht; cases t <;> conv => whnf)
         ·cases ht
         refine reg35c (by kernel_rfl) [(16, .ptr 2 3 0 0), (20, .ptr 5 4 0 0), (21, .d (iD o)), (2, .d (intsD (wa.drop (kk + 1)) u)), (6, .ptr 0 2 0 0), (12, .ptr 1 1 0 0), (17, .sl 4 1 0 b b true), (18, .d (iD c)), (80, .d (gatesD gs ct)), (81, .d (iD (gs.map Gt.l).length)), (82, .d (iD i))] [(5, .arr 4 [[.d (iD 13), .d (intsD [(n : Int)] ug), .d (iD m), .d (iD 0)]]), (0, .arr 2 [[.d (iD 0), .d (.sl [] true)]]), (1, .arr 1 [[.d (.fn 130 [] [])]]), (4, dblk 1 (nums bs))] (by repeat' first | exact trivial | (refine ⟨⟨by first | exact .inl (Nat.le_of_ble_eq_true rfl) | exact .inr ⟨Nat.le_of_ble_eq_true rfl, Nat.le_of_ble_eq_true rfl⟩, rfl⟩, ?_⟩)) List.mem_cons_self (List.mem_cons_of_mem _ List.mem_cons_self) (List.mem_cons_of_mem _ (List.mem_cons_of_mem _ List.mem_cons_self)) List.mem_cons_self (by repeat' first | exact trivial | (refine ⟨⟨⟨Nat.ne_of_beq_eq_false rfl, Nat.ne_of_beq_eq_false rfl, Nat.le_of_ble_eq_true rfl⟩, by first | exact below_dblk _ _ _ | exact below1 rfl⟩, ?_⟩)) hc (.inr rfl) (by repeat' first | exact trivial | (refine ⟨by first | rfl | exact drop_step rfl, ?_⟩)) (by repeat' first | exact trivial | (refine ⟨rfl, ?_⟩)) rfl rfl rfl ?_
         conv => whnf
         repeat' first | ((first | refine LookP.mk _ (by first | rfl | exact hgb) ?_ | refine ShlP.mk _ (by first | exact set_is (x := o) | rfl) ?_ | refine And.intro (by first | assumption | exact ⟨by kernel_rfl, rfl⟩ | decide | omega) ?_ | refine bneT ?_ | refine beqT1 ?_ | refine HpP.force ?_); conv => whnf)
         refine N_i _ ?_ ?_
         ·exact hNx2
         ·first | refine ren_env [(3, 12)] ?_ ?_ ?_ trivial | refine ren_envB [(3, 12)] rfl rfl ?_ ?_ ?_ trivial
          ·repeat' first | exact trivial | refine ⟨⟨by first | rfl | assumption | exact congrArg (fun n => AV.d (iD n)) e_i | exact congrArg (fun n => AV.d (iD n)) hia, rfl⟩, ?_⟩
          ·repeat' first | exact trivial | refine ⟨⟨ltB rfl, _, rfl, by first | rfl | assumption | exact get_ren rfl (by first | rfl | assumption), by first | exact below1 rfl | exact below_dblk _ _ _ | exact below_arr rfl⟩, ?_⟩
          ·repeat' first | exact trivial | (refine And.intro ?_ ?_) | (exact fun _ => rfl) | (exact fun h => absurd h (Nat.ne_of_beq_eq_false rfl))
       ·rw [if_neg (show ¬ g.k = 13 by rw [hk]; decide)] at hc
        rw [step_14 hk, hcc] at hsn
        clear hE6 hNx hx hI w1 hkd hgi hcc hm
        generalize (if (wa.getD s.k 0).toNat = 1 then appG w (xG (gA g)) (rA w wa s g) else rA w wa s g) = R at hsn
        subst hsn
        dsimp only at hc ⊢
        generalize (wa.getD s.k 0).toNat = o at *
        generalize gA g = n at *
        obtain ⟨k, ws, ug, gb, gi⟩ := g
        obtain ⟨r, bs, c, kk, f⟩ := s
        dsimp only at hk hws hi0 hc hwg hia hs1 hs2 hbl ⊢
        subst hk hws hi0
        rcases hnm with rfl | rfl
        ·conv => whnf
         repeat (refine LookP.mk _ rfl ?_; conv => whnf)
         intro t ht
         cases t
         ·exfalso; first | (simp at ht; done) | (simp at ht; omega)
         conv => whnf
         repeat' first | ((first | refine LookP.mk _ (by first | rfl | exact hgg | exact hwg) ?_ | refine ShlP.mk _ (by first | (simp only [List.set, over, List.take, List.drop, List.append_eq, List.nil_append, List.cons_append, List.length]; rfl) | rfl) ?_ | refine And.intro (by first | exact ⟨hs1, Nat.le_refl _, hs2⟩ | assumption | exact ⟨by kernel_rfl, rfl⟩ | decide | omega) ?_ | refine pc_use3B hkn rfl ?_ | refine beqT1 ?_ | refine HpP.force ?_); conv => whnf) | (intro t ht; cases t <;> conv => whnf)
         ·cases ht
         refine reg35c (by kernel_rfl) [(16, .ptr 2 3 0 0), (20, .ptr 5 4 0 0), (21, .d (iD o)), (2, .d (intsD (wa.drop (kk + 1)) u)), (6, .ptr 0 2 0 0), (12, .ptr 1 1 0 0), (17, .sl 4 1 0 b b true), (18, .d (iD c)), (80, .d (gatesD gs ct)), (81, .d (iD (gs.map Gt.l).length)), (82, .d (iD i))] [(5, .arr 4 [[.d (iD 14), .d (intsD [(n : Int)] ug), .d (iD gb), .d (iD 0)]]), (0, .arr 2 [[.d (iD 0), .d (.sl [] true)]]), (1, .arr 1 [[.d (.fn 130 [] [])]]), (4, dblk 1 (nums bs))] (by repeat' first | exact trivial | (refine ⟨⟨by first | exact .inl (Nat.le_of_ble_eq_true rfl) | exact .inr ⟨Nat.le_of_ble_eq_true rfl, Nat.le_of_ble_eq_true rfl⟩, rfl⟩, ?_⟩)) List.mem_cons_self (List.mem_cons_of_mem _ List.mem_cons_self) (List.mem_cons_of_mem _ (List.mem_cons_of_mem _ List.mem_cons_self)) List.mem_cons_self (by repeat' first | exact trivial | (refine ⟨⟨⟨Nat.ne_of_beq_eq_false rfl, Nat.ne_of_beq_eq_false rfl, Nat.le_of_ble_eq_true rfl⟩, by first | exact below_dblk _ _ _ | exact below1 rfl⟩, ?_⟩)) hc (.inl rfl) (by repeat' first | exact trivial | (refine ⟨by first | rfl | exact drop_step rfl, ?_⟩)) (by repeat' first | exact trivial | (refine ⟨rfl, ?_⟩)) rfl rfl rfl ?_
         conv => whnf
         repeat' first | ((first | refine LookP.mk _ rfl ?_ | refine bneT ?_ | refine beqF1 (a := 14) (b := 13) rfl ?_); conv => whnf)
         refine N_i _ ?_ ?_
         ·exact hNx2
         ·first | refine ren_env [(3, 3)] ?_ ?_ ?_ trivial | refine ren_envB [(3, 3)] rfl rfl ?_ ?_ ?_ trivial
          ·repeat' first | exact trivial | refine ⟨⟨by first | rfl | assumption | exact congrArg (fun n => AV.d (iD n)) e_i | exact congrArg (fun n => AV.d (iD n)) hia, rfl⟩, ?_⟩
          ·repeat' first | exact trivial | refine ⟨⟨ltB rfl, _, rfl, by first | rfl | assumption | exact get_ren rfl (by first | rfl | assumption), by first | exact below1 rfl | exact below_dblk _ _ _ | exact below_arr rfl⟩, ?_⟩
          ·repeat' first | exact trivial | (refine And.intro ?_ ?_) | (exact fun _ => rfl) | (exact fun h => absurd h (Nat.ne_of_beq_eq_false rfl))
        ·conv => whnf
         repeat (refine LookP.mk _ rfl ?_; conv => whnf)
         intro t ht
         cases t
         ·exfalso; first | (simp at ht; done) | (simp at ht; omega)
         conv => whnf
         repeat' first | ((first | refine LookP.mk _ (by first | rfl | exact hgg | exact hwg) ?_ | refine ShlP.mk _ (by first | (simp only [List.set, over, List.take, List.drop, List.append_eq, List.nil_append, List.cons_append, List.length]; rfl) | rfl) ?_ | refine And.intro (by first | exact ⟨hs1, Nat.le_refl _, hs2⟩ | assumption | exact ⟨by kernel_rfl, rfl⟩ | decide | omega) ?_ | refine pc_use3B hkn rfl ?_ | refine beqT1 ?_ | refine HpP.force ?_); conv => whnf) | (intro t ht; cases t <;> conv => whnf)
         ·cases ht
         refine reg35c (by kernel_rfl) [(16, .ptr 2 3 0 0), (20, .ptr 5 4 0 0), (21, .d (iD o)), (2, .d (intsD (wa.drop (kk + 1)) u)), (6, .ptr 0 2 0 0), (12, .ptr 1 1 0 0), (17, .sl 4 1 0 b b true), (18, .d (iD c)), (80, .d (gatesD gs ct)), (81, .d (iD (gs.map Gt.l).length)), (82, .d (iD i))] [(5, .arr 4 [[.d (iD 14), .d (intsD [(n : Int)] ug), .d (iD gb), .d (iD 0)]]), (0, .arr 2 [[.d (iD 0), .d (.sl [] true)]]), (1, .arr 1 [[.d (.fn 130 [] [])]]), (4, dblk 1 (nums bs))] (by repeat' first | exact trivial | (refine ⟨⟨by first | exact .inl (Nat.le_of_ble_eq_true rfl) | exact .inr ⟨Nat.le_of_ble_eq_true rfl, Nat.le_of_ble_eq_true rfl⟩, rfl⟩, ?_⟩)) List.mem_cons_self (List.mem_cons_of_mem _ List.mem_cons_self) (List.mem_cons_of_mem _ (List.mem_cons_of_mem _ List.mem_cons_self)) List.mem_cons_self (by repeat' first | exact trivial | (refine ⟨⟨⟨Nat.ne_of_beq_eq_false rfl, Nat.ne_of_beq_eq_false rfl, Nat.le_of_ble_eq_true rfl⟩, by first | exact below_dblk _ _ _ | exact below1 rfl⟩, ?_⟩)) hc (.inr rfl) (by repeat' first | exact trivial | (refine ⟨by first | rfl | exact drop_step rfl, ?_⟩)) (by repeat' first | exact trivial | (refine ⟨rfl, ?_⟩)) rfl rfl rfl ?_
         conv => whnf
         repeat' first | ((first | refine LookP.mk _ rfl ?_ | refine bneT ?_ | refine beqF1 (a := 14) (b := 13) rfl ?_); conv => whnf)
         refine N_i _ ?_ ?_
         ·exact hNx2
         ·first | refine ren_env [(3, 12)] ?_ ?_ ?_ trivial | refine ren_envB [(3, 12)] rfl rfl ?_ ?_ ?_ trivial
          ·repeat' first | exact trivial | refine ⟨⟨by first | rfl | assumption | exact congrArg (fun n => AV.d (iD n)) e_i | exact congrArg (fun n => AV.d (iD n)) hia, rfl⟩, ?_⟩
          ·repeat' first | exact trivial | refine ⟨⟨ltB rfl, _, rfl, by first | rfl | assumption | exact get_ren rfl (by first | rfl | assumption), by first | exact below1 rfl | exact below_dblk _ _ _ | exact below_arr rfl⟩, ?_⟩
          ·repeat' first | exact trivial | (refine And.intro ?_ ?_) | (exact fun _ => rfl) | (exact fun h => absurd h (Nat.ne_of_beq_eq_false rfl))
    ·intro A_last3 I_last3
     have hE0 := al0 hkb hcn hbt I_last3
     rw [List.take_length]
     conv => whnf
     repeat (refine LookP.mk _ rfl ?_; conv => whnf)
     intro t ht
     cases t
     rotate_left
     ·exfalso; first | (simp at ht; done) | (simp at ht; omega)
     conv => whnf
     repeat' first | ((first | refine LookP.mk _ rfl ?_ | refine ShlP.mk _ (by first | (simp only [List.set, over, List.take, List.drop, List.append_eq, List.nil_append, List.cons_append, List.length]; rfl) | rfl) ?_ | refine HpP.force ?_); conv => whnf)
     exact fin (.inl ⟨hE0, rfl, rfl, rfl⟩)
   ·exact fin (alK_e (by decide) (al2 (by assumption) (by simp at ht; omega)))
  ·repeat' first | ((first | refine LookP.mk _ rfl ?_ | refine ShlP.mk _ (by first | (simp only [List.set, over, List.take, List.drop, List.append_eq, List.nil_append, List.cons_append, List.length]; rfl) | rfl) ?_ | refine bneF hcww ?_ | refine HpP.force ?_); conv => whnf)
   exact fin (alK_e (by decide) (al7 (.inl hcww)))
end Go.Tz
namespace Go.Tz
open Go Go.AL Go.Proofs Go.Ma
abbrev own4 (w b : Nat) (c : Int) : AV := .tup [.agg [.d (iD w), .sl 0 4 0 w w true], .sl 1 1 0 b b true, .d (iD c), .d (iD 0)]
theorem along58 {w b : Nat} {l : List Ps} (hs : SOk w l) (cw : Int) (gs : List Gt) (wa : List Int) (ct t u : Bool) (hC : cchk cw b gs = 0) (hws : ∀ g, g ∈ gs → g.ws.length ≤ 1000) (hwn : wa.length ≤ 1000) (h : alE w l cw b gs wa = 0) :
  PO Pr GG 58 [circD cw b gs ct, stD w l t, intsD wa u] (own4 w b (runA w wa b l gs).c) [(0, some (dblk 4 ((runA w wa b l gs).r.map Ps.l))), (1, some (dblk 1 (nums (runA w wa b l gs).bs)))] 2 := by
 refine ⟨isFn_of Tryz.func58 chk58, acall_sub (along58k hs cw gs wa ct t u hC hws hwn) ?_⟩
 rintro v H n (⟨_, rfl, h3, h4⟩ | ⟨q, _⟩)
 ·refine ⟨_, _, 2, ?_, rfl, rfl, rfl⟩
  first | refine ren_env [(0, 3), (1, 4)] ?_ ?_ ?_ trivial | refine ren_envB [(0, 3), (1, 4)] rfl rfl ?_ ?_ ?_ trivial
  ·repeat' first | exact trivial | refine ⟨⟨by first | rfl | assumption, rfl⟩, ?_⟩
  ·repeat' first | exact trivial | refine ⟨⟨ltB rfl, _, rfl, by first | rfl | assumption | exact get_ren rfl (by first | rfl | assumption | exact get_ren rfl h3 | exact get_ren rfl h4) | exact get_ren rfl h3 | exact get_ren rfl h4, by first | exact below1 rfl | exact below_dblk _ _ _ | exact below_arr rfl⟩, ?_⟩
  ·repeat' first | exact trivial | (refine And.intro ?_ ?_) | (exact fun _ => rfl) | (exact fun h => absurd h (Nat.ne_of_beq_eq_false rfl))
 ·exact absurd h q
theorem along58e {w b : Nat} {l : List Ps} (hs : SOk w l) (cw : Int) (gs : List Gt) (wa : List Int) (ct t u : Bool) (hC : cchk cw b gs = 0) (hws : ∀ g, g ∈ gs → g.ws.length ≤ 1000) (hwn : wa.length ≤ 1000) (h : alE w l cw b gs wa ≠ 0) :
  PC Pr GG 58 [circD cw b gs ct, stD w l t, intsD wa u] (alX (alE w l cw b gs wa)) := by
 refine pc_freeze (isFn_of Tryz.func58 chk58) (acall_mono (along58k hs cw gs wa ct t u hC hws hwn) ?_)
 rintro v H n (⟨q, _⟩ | ⟨_, rfl⟩)
 ·exact absurd q h
 ·exact .d _
theorem along58c (cw b : Int) (gs : List Gt) (w : Int) (l : List Ps) (wa : List Int) (ct t u : Bool) (hn : gs.length ≤ 1000) (hws : ∀ g, g ∈ gs → g.ws.length ≤ 1000) (h : cchk cw b gs ≠ 0) :
  PC Pr GG 58 [circD cw b gs ct, stD w l t, intsD wa u] (alX (cchk cw b gs)) := by
 have c1 := check129 (G := GG) cw b gs ct hn hws
 generalize cchk cw b gs = e at c1 h ⊢
 refine pc_walk pok Tryz.func58 chk58 ?_
 conv => whnf
 repeat' first | ((first | refine LookP.mk _ rfl ?_ | refine ShlP.mk _ (by first | (simp only [List.set, over, List.take, List.drop, List.append_eq, List.nil_append, List.cons_append, List.length]; rfl) | rfl) ?_ | refine bneF h ?_ | refine pc_use c1 ?_ | refine HpP.force ?_); conv => whnf)
 exact fin rfl
theorem along58s (cw b : Int) (gs : List Gt) (w : Int) (l : List Ps) (wa : List Int) (ct t u : Bool) (hn : gs.length ≤ 1000) (hws : ∀ g, g ∈ gs → g.ws.length ≤ 1000) (h : cchk cw b gs = 0) (hl : l.length ≤ 1000) (h2 : chkS w l ≠ 0) :
  PC Pr GG 58 [circD cw b gs ct, stD w l t, intsD wa u] (alX (chkS w l)) := by
 have c1 := check129 (G := GG) cw b gs ct hn hws
 have c2 := check36 w l t hl
 rw [h] at c1
 generalize chkS w l = e at c2 h2 ⊢
 refine pc_walk pok Tryz.func58 chk58 ?_
 conv => whnf
 repeat' first | ((first | refine LookP.mk _ rfl ?_ | refine ShlP.mk _ (by first | (simp only [List.set, over, List.take, List.drop, List.append_eq, List.nil_append, List.cons_append, List.length]; rfl) | rfl) ?_ | refine bneT ?_ | refine bneF h2 ?_ | refine pc_use c1 ?_ | refine pc_use c2 ?_ | refine HpP.force ?_); conv => whnf)
 exact fin rfl
def mR (w n o : Nat) (l : List Ps) : List Ps := if expR w l (zP w n o) = 1 then redRows l (2 * w) else redRows (prjL (zP w n o) l) (2 * w)
def mN (w n o : Nat) (l : List Ps) : Int := if expR w l (zP w n o) = 1 then 0 else 1
theorem mR_ok {w n o : Nat} {l : List Ps} (hs : SOk w l) (hn : n < w) (ho : o ≤ 1) (h : expR w l (zP w n o) ≠ -1) (t : Bool) :
  SOk w (mR w n o l) ∧ PO Pr GG 56 [stD w l t, iD n, iD o] (own3 w (mN w n o l)) [(0, some (dblk 4 ((mR w n o l).map Ps.l)))] 1 ∧
  PO Pr GG 57 [stD w l t, iD n, iD o] (own3 w (mN w n o l)) [(0, some (dblk 4 ((if o = 1 then appG w (xG n) (mR w n o l) else mR w n o l).map Ps.l)))] 1 ∧
  PC Pr GG 53 [stD w l t, iD n, iD o] (mD w (mR w n o l) false (mN w n o l) 0) := by
 have hr := (redRows_ok hs).1
 have hg : SameG ((redRows l (2 * w)).map nf) (l.map nf) := fun g => ((redRows_ok hs).2 g).symm
 unfold mR mN
 rcases meas hs hr hg hn ho 136 with ⟨a, c⟩ | ⟨a, _⟩ | ⟨a, hP, c⟩
 ·rw [a, if_pos rfl, if_pos rfl]
  refine ⟨hr, measure56 (found_ok t hs hn ho (.inl ⟨rfl, rfl⟩) (.inl rfl) c), ?_, measure53a hs hn ho t a⟩
  rcases rese hs hr hg hn ho 137 with ⟨_, nm, hnm, c⟩ | ⟨a', _⟩ | ⟨a', _⟩
  ·exact reset57 (found_ok t hs hn ho (.inr ⟨rfl, rfl⟩) hnm c)
  ·rw [a] at a'; cases a'
  ·rw [a] at a'; cases a'
 ·exact absurd a h
 ·rw [a, if_neg (show ¬ (0 : Int) = 1 by decide), if_neg (show ¬ (0 : Int) = 1 by decide)]
  refine ⟨(redRows_ok hP).1, measure56 (found_ok t hs hn ho (.inl ⟨rfl, rfl⟩) (.inr rfl) c), ?_, measure53c hs hn ho t a hP⟩
  rcases rese hs hr hg hn ho 137 with ⟨a', _⟩ | ⟨a', _⟩ | ⟨_, _, c⟩
  ·rw [a] at a'; cases a'
  ·rw [a] at a'; cases a'
  ·exact reset57 (found_ok t hs hn ho (.inr ⟨rfl, rfl⟩) (.inr rfl) c)
theorem mR_no {w n o : Nat} {l : List Ps} (hs : SOk w l) (hn : n < w) (ho : o ≤ 1) (h : expR w l (zP w n o) = -1) (t : Bool) :
  PC Pr GG 56 [stD w l t, iD n, iD o] (no3 6) ∧ PC Pr GG 57 [stD w l t, iD n, iD o] (no3 6) ∧ PC Pr GG 53 [stD w l t, iD n, iD o] (mD 0 [] true 0 6) := by
 have hr := (redRows_ok hs).1
 have hg : SameG ((redRows l (2 * w)).map nf) (l.map nf) := fun g => ((redRows_ok hs).2 g).symm
 refine ⟨?_, ?_, measure53b hs hn ho t h⟩
 ·rcases meas hs hr hg hn ho 136 with ⟨a, _⟩ | ⟨_, c⟩ | ⟨a, _⟩
  ·rw [h] at a; cases a
  ·exact measure56e (found_none t hs hn ho (.inl ⟨rfl, rfl⟩) c)
  ·rw [h] at a; cases a
 ·rcases rese hs hr hg hn ho 137 with ⟨a, _⟩ | ⟨_, c⟩ | ⟨a, _⟩
  ·rw [h] at a; cases a
  ·exact reset57e (found_none t hs hn ho (.inr ⟨rfl, rfl⟩) c)
  ·rw [h] at a; cases a
end Go.Tz
namespace Go.Tz
open Go Go.AL Go.Proofs Go.Ma
noncomputable def ops15 : Array Oper := (Tryz.f6.body.bind (findReg 15)).getD #[]
structure S15 (ks : List (Nat × AV)) (hs : List (Nat × Blk)) (base a17 : Nat) (old : Blk) (w n : Nat) (R Q : List Ps) (L : Nat → Bool) (s : St) : Prop where
 kp : ∀ t v, (t, v) ∈ ks → lk s.env t = v
 ho : ∀ m bl, (m, bl) ∈ hs → s.heap.get m = some bl
 nx : base ≤ s.nx
 v0 : L 0 = true → lk s.env 74 = .d (stD w R false)
 v1 : L 1 = true → lk s.env 75 = .d (iD n)
 v2 : L 2 = true → L 3 = false → ∃ X, base ≤ X ∧ X < s.nx ∧ lk s.env 76 = .sl X 1 0 1 1 true ∧ s.heap.get X = some (dblk 1 [[iD n]])
 v3 : L 3 = true → lk s.env 77 = .d (xG n).d
 v4 : L 4 = true → lk s.env 78 = .d (stD w Q false)
 g0 : L 5 = false → s.heap.get a17 = some old
 g1 : L 5 = true → s.heap.get a17 = some (.arr 2 [[.d (iD w), .d (rowsD Q false)]])
theorem chk54 : chkFn Tryz.f54 = true := by kernel_rfl
theorem gate54 (n : Nat) : PC Pr GG 54 [iD 1, .sl [[iD n]] true] (xG n).d := by
 refine pc_walk pok Tryz.func54 chk54 ?_
 conv => whnf
 repeat' first | ((first | refine LookP.mk _ rfl ?_ | refine ShlP.mk _ (by first | (simp only [List.set, over, List.take, List.drop, List.append_eq, List.nil_append, List.cons_append, List.length]; rfl) | rfl) ?_ | refine HpP.force ?_); conv => whnf)
 exact fin rfl
theorem asD_2 {H : AHeap} {X : Nat} {es : List (List D)} (hg : H.get X = some (dblk 1 es)) (h1 : es.length = 1) : ∀ (i : Nat) (v : AV) (d : D), [AV.d (iD 1), .sl X 1 0 1 1 true][i]? = some v → [iD 1, D.sl es true][i]? = some d → AsD H v d := fun i v d a1 a2 => by
 match i, a1, a2 with
 | 0, a1, a2 => simp at a1 a2; subst a1 a2; exact .d _
 | 1, a1, a2 => simp at a1 a2; subst a1 a2; exact asD_own hg h1.symm
 | i + 2, a1, _ => simp at a1
theorem reg15 (ks : List (Nat × AV)) (hs : List (Nat × Blk)) {base a16 a17 : Nat} {old : Blk} {o0 o1 : AV} {w n : Nat} {R Q : List Ps} (hold : old = .arr 2 [[o0, o1]]) (hks : ∀ p, p ∈ ks → p.1 < 74 ∨ 78 < p.1) (k16 : (16, AV.ptr a16 2 0 0) ∈ ks) (k17 : (17, AV.ptr a17 2 0 0) ∈ ks) (k1 : (1, AV.d (iD n)) ∈ ks)
  (h16 : (a16, Blk.arr 2 [[.d (iD w), .d (rowsD R false)]]) ∈ hs) (hhs : ∀ p, p ∈ hs → p.1 ≠ a17 ∧ p.1 < base) (h17 : a17 < base) (hf : PC Pr GG 44 [stD w R false, (xG n).d] (stD w Q false)) {st : St} (S0 : S15 ks hs base a17 old w n R Q (fun _ => false) st) {k : Exit → St → Prop}
  (hk : ∀ L s', S15 ks hs base a17 old w n R Q L s' → L 5 = true → ∃ st'', Sub GG 0 [] s' st'' ∧ k .normal st'') : RegVC Pr GG Tryz.f6.ntmps 0 [] 15 ops15 st k := by
 have put : ∀ {L : Nat → Bool} {s : St} {i d : Nat} {v : AV}, S15 ks hs base a17 old w n R Q L s → 74 ≤ d ∧ d ≤ 78 → i ≠ 5 → L i = false → (i = 0 → d = 74 ∧ v = .d (stD w R false)) → (i ≠ 0 → d ≠ 74) → (i = 1 → d = 75 ∧ v = .d (iD n)) → (i ≠ 1 → d ≠ 75) → i ≠ 2 → d ≠ 76 → i ≠ 3 → d ≠ 77 → (i = 4 → d = 78 ∧ v = .d (stD w Q false)) → (i ≠ 4 → d ≠ 78) →
   S15 ks hs base a17 old w n R Q (fun j => if j = i then true else L j) (s.put (some d) v) := by
  intro L s i d v h hd h5 hLi e0 n0 e1 n1 n2 m2 n3 m3 e4 n4
  refine ⟨fun t x hm => ?_, h.ho, h.nx, fun hl => ?_, fun hl => ?_, fun hl h3 => ?_, fun hl => ?_, fun hl => ?_, fun hl => h.g0 (by simpa [Ne.symm h5] using hl), fun hl => h.g1 (by simpa [Ne.symm h5] using hl)⟩
  ·have := hks _ hm
   rw [lk_put_ne (by dsimp only at *; omega)]; exact h.kp t x hm
  ·by_cases e : 0 = i
   ·obtain ⟨rfl, rfl⟩ := e0 e.symm; exact lk_cons_same _ _ _
   ·simp only [if_neg e] at hl
    rw [lk_put_ne (Ne.symm (n0 (Ne.symm e)))]; exact h.v0 hl
  ·by_cases e : 1 = i
   ·obtain ⟨rfl, rfl⟩ := e1 e.symm; exact lk_cons_same _ _ _
   ·simp only [if_neg e] at hl
    rw [lk_put_ne (Ne.symm (n1 (Ne.symm e)))]; exact h.v1 hl
  ·simp only [if_neg (Ne.symm n2)] at hl
   simp only [if_neg (Ne.symm n3)] at h3
   obtain ⟨X, x1, x2, x3, x4⟩ := h.v2 hl h3
   exact ⟨X, x1, x2, by rw [lk_put_ne (Ne.symm m2)]; exact x3, x4⟩
  ·simp only [if_neg (Ne.symm n3)] at hl
   rw [lk_put_ne (Ne.symm m3)]; exact h.v3 hl
  ·by_cases e : 4 = i
   ·obtain ⟨rfl, rfl⟩ := e4 e.symm; exact lk_cons_same _ _ _
   ·simp only [if_neg e] at hl
    rw [lk_put_ne (Ne.symm (n4 (Ne.symm e)))]; exact h.v4 hl
 refine ⟨fun r => awp_any pok.mixed (edgeB_ok (by kernel_rfl)) (S15 ks hs base a17 old w n R Q) S0 ?_ ?_⟩
 ·intro L s i op hS hL ho hall
  have hi : i < 6 := (Array.getElem?_eq_some_iff.1 ho).1
  have T29 := pok.tab.get (t := 29) rfl
  have T42 := pok.tab.get (t := 42) rfl
  have T3 := pok.tab.get (t := 3) rfl
  have cases6 : i = 0 ∨ i = 1 ∨ i = 2 ∨ i = 3 ∨ i = 4 ∨ i = 5 := by omega
  rcases cases6 with rfl | rfl | rfl | rfl | rfl | rfl
  all_goals
   have ho := Option.some.inj (show some _ = some op from ho)
   subst ho
   refine ⟨rfl, ?_⟩
  ·exact opwp_pure (fun c h => by cases h) (pure_load rfl T29.tok (fun h => by cases h) (hS.kp _ _ k16) (hS.ho _ _ h16) rfl rfl rfl) rfl (put hS (i := 0) (d := 74) (by decide) (by decide) hL (fun _ => ⟨rfl, rfl⟩) (by decide) (fun h => absurd h (by decide)) (by decide) (by decide) (by decide) (by decide) (by decide) (fun h => absurd h (by decide)) (by decide))
  ·exact opwp_pure (fun c h => by cases h) (pure_move rfl (hS.kp _ _ k1)) rfl (put hS (i := 1) (d := 75) (by decide) (by decide) hL (fun h => absurd h (by decide)) (by decide) (fun _ => ⟨rfl, rfl⟩) (by decide) (by decide) (by decide) (by decide) (by decide) (fun h => absurd h (by decide)) (by decide))
  ·have q := hS.v1 (hall ⟨1, .data⟩ (Array.mem_of_getElem? (i := 0) rfl) rfl)
   refine opwp_step (k := 1) (fun c hc => by cases hc) ((step_buildSlice (len := 1) (ps := #[(0, .tmp 75)]) (nm := s.nx) (zs := [.d (iD 0)]) (els := [[.d (iD n)]]) rfl ⟨T42.2, T3.1⟩ rfl rfl (by show fillA [(0 * 1, 1)] [AV.d (iD 0)] [(0, lk s.env 75)] = _; rw [show lk s.env 75 = _ from q]; rfl) (fun el h => by simp at h; subst h; rfl) rfl (Nat.le_of_ble_eq_true rfl)).names fun m hm => by subst hm; omega) rfl ?_
   have hnx := hS.nx
   have old' : ∀ m, m < base → AHeap.get ((s.nx, some (Blk.arr 1 [[AV.d (iD n)]])) :: s.heap) m = s.heap.get m := fun m hm => get_cons_ne _ _ (by omega)
   refine ⟨fun t x hm => ?_, fun m bl hm => (old' m (hhs _ hm).2).trans (hS.ho m bl hm), by show base ≤ s.nx + 1; omega, fun hl => ?_, fun hl => ?_, fun _ _ => ⟨s.nx, hnx, by show s.nx < s.nx + 1; omega, lk_cons_same _ _ _, get_cons_same _ _ _⟩, fun hl => ?_, fun hl => ?_, fun hl => ?_, fun hl => ?_⟩
   ·have := hks _ hm
    exact (lk_cons_ne _ _ (by dsimp only at *; omega)).trans (hS.kp t x hm)
   ·exact (lk_cons_ne _ _ (by decide)).trans (hS.v0 (by simpa using hl))
   ·exact (lk_cons_ne _ _ (by decide)).trans (hS.v1 (by simpa using hl))
   ·exact (lk_cons_ne _ _ (by decide)).trans (hS.v3 (by simpa using hl))
   ·exact (lk_cons_ne _ _ (by decide)).trans (hS.v4 (by simpa using hl))
   ·exact (old' a17 h17).trans (hS.g0 (by simpa using hl))
   ·exact (old' a17 h17).trans (hS.g1 (by simpa using hl))
  ·obtain ⟨X, x1, x2, x3, x4⟩ := hS.v2 (hall ⟨2, .data⟩ (Array.mem_of_getElem? (i := 0) rfl) rfl) hL
   have dl : ∀ m, m < base → AHeap.get (dels [X] s.heap) m = s.heap.get m := fun m hm => by
    show AHeap.get (AHeap.del s.heap X) m = _
    rw [get_del, if_neg (by omega)]
   have hc := pc_give (L := [X]) (HL := [(X, some (dblk 1 [[iD (n : Int)]]))]) (H := s.heap) (nx := s.nx) (k := fun v H' nx' => S15 ks hs base a17 old w n R Q (fun j => if j = 3 then true else L j) (({ env := s.env, heap := H', nx := nx' } : St).put (some 77) v)) (gate54 n) rfl (give_get x4) (asD_2 (get_cons_same X _ []) rfl) ?_
   ·obtain ⟨hf, hc⟩ := hc
    refine opwp_call (f := 54) (fi := []) (ca := []) (l := [.d (iD 1), .sl X 1 0 1 1 true]) rfl rfl hf ?_ rfl hc
    show [] ++ [AV.d (iD 1), lk s.env 76] ++ [] = _
    rw [show lk s.env 76 = _ from x3]; rfl
   ·refine ⟨fun t x hm => ?_, fun m bl hm => (dl m (hhs _ hm).2).trans (hS.ho m bl hm), hS.nx, fun hl => ?_, fun hl => ?_, fun _ h => (by simp at h), fun _ => lk_cons_same _ _ _, fun hl => ?_, fun hl => ?_, fun hl => ?_⟩
    ·have := hks _ hm
     exact (lk_cons_ne _ _ (by dsimp only at *; omega)).trans (hS.kp t x hm)
    ·exact (lk_cons_ne _ _ (by decide)).trans (hS.v0 (by simpa using hl))
    ·exact (lk_cons_ne _ _ (by decide)).trans (hS.v1 (by simpa using hl))
    ·exact (lk_cons_ne _ _ (by decide)).trans (hS.v4 (by simpa using hl))
    ·exact (dl a17 h17).trans (hS.g0 (by simpa using hl))
    ·exact (dl a17 h17).trans (hS.g1 (by simpa using hl))
  ·have q0 := hS.v0 (hall ⟨0, .data⟩ (Array.mem_of_getElem? (i := 0) rfl) rfl)
   have q3 := hS.v3 (hall ⟨3, .data⟩ (Array.mem_of_getElem? (i := 1) rfl) rfl)
   have hc := pc_use (H := s.heap) (nx := s.nx) (k := fun v H' nx' => S15 ks hs base a17 old w n R Q (fun j => if j = 4 then true else L j) (({ env := s.env, heap := H', nx := nx' } : St).put (some 78) v)) hf ?_
   ·obtain ⟨hf, hc⟩ := hc
    refine opwp_call (f := 44) (fi := []) (ca := []) (l := [stD w R false, (xG n).d].map .d) rfl rfl hf ?_ rfl hc
    show [] ++ [lk s.env 74, lk s.env 77] ++ [] = _
    rw [show lk s.env 74 = _ from q0, show lk s.env 77 = _ from q3]; rfl
   ·exact put hS (i := 4) (d := 78) (by decide) (by decide) hL (fun h => absurd h (by decide)) (by decide) (fun h => absurd h (by decide)) (by decide) (by decide) (by decide) (by decide) (by decide) (fun _ => ⟨rfl, rfl⟩) (by decide)
  ·have q4 := hS.v4 (hall ⟨4, .data⟩ (Array.mem_of_getElem? (i := 0) rfl) rfl)
   subst hold
   refine opwp_step (k := 0) (fun c hc => by cases hc) ((step_store (x := .tmp 17) (y := .tmp 78) (nm := a17) (sz := 2) (idx := 0) (off := 0) (v := .d (stD w Q false)) rfl T29.1 (hS.kp _ _ k17) q4 (hS.g0 hL) rfl rfl rfl rfl (Nat.le_of_ble_eq_true rfl)).names fun _ h => h.elim) rfl ?_
   refine ⟨hS.kp, fun m bl hm => (get_cons_ne _ _ (hhs _ hm).1).trans (hS.ho m bl hm), hS.nx, fun hl => hS.v0 (by simpa using hl), fun hl => hS.v1 (by simpa using hl), fun hl h3 => ?_, fun hl => hS.v3 (by simpa using hl), fun hl => hS.v4 (by simpa using hl), fun hl => (by simp at hl), fun _ => get_cons_same _ _ _⟩
   obtain ⟨X, x1, x2, x3, x4⟩ := hS.v2 (by simpa using hl) (by simpa using h3)
   exact ⟨X, x1, x2, x3, (get_cons_ne _ _ (by omega)).trans x4⟩
 ·intro L s hS hall
  exact ⟨rfl, hk L s hS (hall 5 (by decide))⟩
theorem reg15c {ops : Array Oper} (hops : ops = ops15) (ks : List (Nat × AV)) (hs : List (Nat × Blk)) (base a16 a17 : Nat) {o0 o1 : AV} {w n : Nat} {R Q : List Ps} (hks : AllP (fun p => (p.1 < 74 ∨ 78 < p.1) ∧ p.2.bel base = true) ks) (k16 : (16, AV.ptr a16 2 0 0) ∈ ks) (k17 : (17, AV.ptr a17 2 0 0) ∈ ks) (k1 : (1, AV.d (iD n)) ∈ ks)
  (h16 : (a16, Blk.arr 2 [[.d (iD w), .d (rowsD R false)]]) ∈ hs) (hhs : AllP (fun p => (p.1 ≠ a17 ∧ p.1 < base) ∧ p.2.Below base) hs) (h17 : a17 < base) (hf : PC Pr GG 44 [stD w R false, (xG n).d] (stD w Q false)) {e : List (Nat × AV)} {H : AHeap} {nx : Nat} (hnx : base ≤ nx)
  (he : AllP (fun p => lk e p.1 = p.2) ks) (hH : AllP (fun p => H.get p.1 = some p.2) hs) (h0 : H.get a17 = some (.arr 2 [[o0, o1]])) {k : Exit → St → Prop}
  (hk : k .normal ⟨ks, (a17, some (.arr 2 [[.d (iD w), .d (rowsD Q false)]])) :: hs.map (fun p => (p.1, some p.2)), base⟩) : RegVC Pr GG Tryz.f6.ntmps 0 [] 15 ops ⟨e, H, nx⟩ k := by
 subst hops
 refine reg15 (base := base) ks hs rfl (fun p hp => (AllP.mem hks p hp).1) k16 k17 k1 h16 (fun p hp => (AllP.mem hhs p hp).1) h17 hf ⟨fun t v hm => AllP.mem he _ hm, fun m bl hm => AllP.mem hH _ hm, hnx, fun h => (by cases h), fun h => (by cases h), fun h => (by cases h), fun h => (by cases h), fun h => (by cases h), fun _ => h0, fun h => (by cases h)⟩ ?_
 intro L s' hS hL
 refine ⟨_, keep_env (Nat.zero_le _) ?_ ?_ trivial, hk⟩
 ·exact allP_of fun p hp => ⟨hS.kp _ _ hp, (AllP.mem hks p hp).2⟩
 ·refine ⟨⟨h17, _, rfl, hS.g1 hL, below1 rfl⟩, allP_of fun p hp => ?_⟩
  obtain ⟨q, hq, rfl⟩ := List.mem_map.1 hp
  have := (AllP.mem hhs q hq)
  exact ⟨this.1.2, _, rfl, hS.ho _ _ hq, this.2⟩
end Go.Tz
namespace Go.Tz
open Go Go.AL Go.Proofs Go.Ma
theorem chk6 : chkFn Tryz.f6 = true := by kernel_rfl
theorem runA_own (w : Nat) (wa : List Int) (b : Int) (l : List Ps) (gs : List Gt) : runA w wa b l (gs.map Gt.own) = runA w wa b l gs := by
 unfold runA; rw [List.foldl_map]; rfl
theorem badA_own (w : Nat) (wa : List Int) (b : Int) (l : List Ps) (gs : List Gt) (i : Nat) (g : Gt) : badA w wa b l (gs.map Gt.own) i g.own = badA w wa b l gs i g := by
 unfold badA; rw [← List.map_take, runA_own]; rfl
theorem alE_own (w : Nat) (l : List Ps) (cw b : Int) (gs : List Gt) (wa : List Int) : alE w l cw b (gs.map Gt.own) wa = alE w l cw b gs wa := by
 unfold alE
 have e1 : (gs.map Gt.own).all okB = gs.all okB := by rw [List.all_map]; rfl
 have e2 : (gs.map Gt.own).countP mB = gs.countP mB := by rw [List.countP_map]; rfl
 have e3 : ((List.range (gs.map Gt.own).length).any fun j => badA w wa b l (gs.map Gt.own) j ((gs.map Gt.own).getD j ⟨0, [], true, 0, 0⟩)) = ((List.range gs.length).any fun j => badA w wa b l gs j (gs.getD j ⟨0, [], true, 0, 0⟩)) := by
  rw [List.length_map]
  rw [Bool.eq_iff_iff, List.any_eq_true, List.any_eq_true]
  have key : ∀ j, j ∈ List.range gs.length → badA w wa b l (gs.map Gt.own) j ((gs.map Gt.own).getD j ⟨0, [], true, 0, 0⟩) = badA w wa b l gs j (gs.getD j ⟨0, [], true, 0, 0⟩) := fun j hj => by
   have hj := List.mem_range.1 hj
   rw [List.getD_eq_getElem?_getD, List.getD_eq_getElem?_getD, List.getElem?_map, List.getElem?_eq_getElem hj]
   exact badA_own w wa b l gs j _
  exact ⟨fun ⟨j, h1, h2⟩ => ⟨j, h1, by rw [← key j h1]; exact h2⟩, fun ⟨j, h1, h2⟩ => ⟨j, h1, by rw [key j h1]; exact h2⟩⟩
 rw [e1, e2, e3]
theorem runA_len {w b : Nat} {l : List Ps} {gs : List Gt} {wa : List Int} (hs : SOk w l) (hC : cchk w b gs = 0) (h : alE w l w b gs wa = 0) : (runA w wa b l gs).r.length = w ∧ (runA w wa b l gs).bs.length = b := by
 have h1 : gs.all okB = true := by
  cases q : gs.all okB with
  | true => rfl
  | false => rw [al7 (.inr q)] at h; cases h
 have h2 : wa.length = gs.countP mB := by
  rcases Nat.decEq wa.length (gs.countP mB) with q | q
  ·rw [al2 h1 q] at h; cases h
  ·exact q
 have h3 : wa.all (fun x => !offB x 0 1) = true := by
  cases q : wa.all (fun x => !offB x 0 1) with
  | true => rfl
  | false => rw [al3 h1 h2 q] at h; cases h
 have hA := okW_a hC h1 h2 h3
 have h4 : ∀ j (hj : j < gs.length), j < gs.length → badA w wa b l gs j gs[j] = false := fun j hj _ => by
  cases q : badA w wa b l gs j gs[j] with
  | false => rfl
  | true => rw [al6 h1 h2 h3 hj q] at h; cases h
 have hI := runA_inv hA hs gs.length (Nat.le_refl _) h4
 rw [List.take_length] at hI
 exact ⟨hI.ok.len, by have := hI.bl; omega⟩
set_option maxHeartbeats 8000000 in
set_option maxRecDepth 100000 in
theorem measures6a (w : Int) (l : List Ps) (t : Bool) (n o cw cb : Int) (gs : List Gt) (ct : Bool) (wa : List Int) (u : Bool) (h1 : l.length ≤ 20) (h2 : greatB gs = false) (h3 : wa.length ≤ 130) : PC Pr GG 6 [stD w l t, iD n, iD o, circD cw cb gs ct, intsD wa u] (.bool true) := by
 have hgs : gs.length ≤ 130 ∧ ∀ g, g ∈ gs → g.ws.length ≤ 6 := by
  unfold greatB at h2
  rw [Bool.or_eq_false_iff] at h2
  exact ⟨by simpa using h2.1, fun g hg => by have := List.any_eq_false.1 h2.2 g hg; simpa using this⟩
 have hgw : ∀ g, g ∈ gs → g.ws.length ≤ 1000 := fun g hg => by have := hgs.2 g hg; omega
 have hgw' : ∀ g, g ∈ gs.map Gt.own → g.ws.length ≤ 1000 := fun g hg => by
  obtain ⟨x, hx, rfl⟩ := List.mem_map.1 hg
  exact hgw x hx
 have hgl : gs.length ≤ 1000 := by omega
 have hgl' : (gs.map Gt.own).length ≤ 1000 := by rw [List.length_map]; exact hgl
 have hwl : wa.length ≤ 1000 := by omega
 have c39 := great39 (G := GG) cw cb gs ct
 rw [h2] at c39
 have c16 := own_c (G := GG) w l t (by omega)
 have c18 := theirs_c (G := GG) w l t (by omega)
 have c17 := scheck17 (G := GG) w l false (by omega)
 have c40 := own40 (G := GG) cw cb gs ct hgl hgw
 have c24 := cloneI (G := GG) wa u (by omega)
 have c52 := check52 (G := GG) cw cb gs ct hgl hgw
 have c23 := same_c (G := GG) w w l l false t (by omega)
 rw [decide_eq_true ⟨rfl, rfl⟩] at c23
 have c50 := same50 (G := GG) cw cb gs ct false hgl hgw
 have c38 := equal38 (G := GG) wa false u (by omega)
 have c38n := equal38 (G := GG) [] true true (by decide)
 have s20 : ¬ ((l.map Ps.l).length : Int) > 20 := by rw [List.length_map]; omega
 have s130 : ¬ ((wa.map fun k => [iD k]).length : Int) > 130 := by rw [List.length_map]; omega
 by_cases hc : chkS w l = 0
 ·obtain ⟨W, rfl, hs⟩ := chk_ok hc
  have hlen := hs.len
  have hlo := hs.lo
  rw [hc] at c17
  by_cases hN : n < 0 ∨ n ≥ W
  ·have hf : fE W l n o = 1 := by unfold fE; rw [if_neg (fun q => q hc), if_pos hN]
   have c56 := measure56e (found_e (w := W) (n := n) (o := o) (l := l) (by rw [hf]; decide) false false (by omega))
   have c57 := reset57e (found_e (w := W) (n := n) (o := o) (l := l) (by rw [hf]; decide) false true (by omega))
   rw [hf] at c56 c57
   clear hf
   by_cases hC : cchk cw cb gs = 0
   ·by_cases hE : alE W l cw cb gs wa = 0
    ·skip
     obtain ⟨B, rfl⟩ : ∃ B : Nat, cb = B := ⟨cb.toNat, by have := (cchk_ok hC).2.1; omega⟩
     have c55 := along55 hs cw gs wa ct false u hC hwl
     rw [hC] at c52
     obtain rfl : cw = W := by
      rcases Int.decEq cw W with q | q
      ·exact absurd (al7 (.inl q)) (by rw [hE]; decide)
      ·exact q
     have c58 := along58 hs W (gs.map Gt.own) wa false false false (by rw [cchk_own]; exact hC) hgw' hwl (by rw [alE_own]; exact hE)
     rw [runA_own] at c58
     obtain ⟨hlA, hlB⟩ := runA_len hs hC hE
     have eR : alR W l W B gs wa = .tup [stD W (runA W wa B l gs).r false, intsD (runA W wa B l gs).bs true, iD (runA W wa B l gs).c, iD 0] := by unfold alR; rw [if_pos hE]
     rw [eR] at c55
     generalize runA W wa B l gs = S at c55 c58 hlA hlB
     obtain ⟨A, bs, cA, kA, fA⟩ := S
     dsimp only at c55 c58 hlA hlB
     have hrB : ∀ ρ : Nat → Nat, some (Blk.ren ρ (dblk 1 (nums bs))) = some (dblk 1 (nums bs)) := fun ρ => by rw [ren_dblk]
     have c38b := equal38 (G := GG) bs true true (by have := (cchk_ok hC).2.1; omega)
     have htA := theirs18o (G := GG) W A true (by omega) (by omega)
     have h27A := equal27 (G := GG) W W A A false false (by omega)
     rw [decide_eq_true ⟨rfl, rfl⟩] at h27A
     rw [hlA] at htA
     have hrA : ∀ ρ : Nat → Nat, some (Blk.ren ρ (dblk 4 (A.map Ps.l))) = some (dblk 4 (A.map Ps.l)) := fun ρ => by rw [ren_dblk]
     refine pc_walk pok Tryz.func6 chk6 ?_
     conv => whnf
     repeat' first | ((first | refine LookP.mk _ (by first | rfl | exact lendA (hrA _) (by simp [hlA]) | exact lendW (hrA _) (by simp [hlA])) ?_ | refine ShlP.mk _ (by first | (simp only [List.set, over, List.take, List.drop, List.append_eq, List.nil_append, List.cons_append, List.length]; rfl) | rfl) ?_ | refine And.intro (by first | (simp [hlA]; done) | assumption | exact ⟨by kernel_rfl, rfl⟩ | decide | omega) ?_ | refine decF s20 ?_ | refine decF s130 ?_ | refine pc_use c39 ?_ | refine pc_head c16 ?_ | refine pc_head c40 ?_ | refine pc_head c24 ?_ | refine pc_use c18 ?_ | refine pc_head c18 ?_ | refine pc_use c17 ?_ | refine pc_use c52 ?_ | refine bneT ?_ | refine beqT1 ?_ | refine pc_use c56 ?_ | refine pc_use c57 ?_ | refine beqF1 (a := 1) (b := 0) rfl ?_ | refine po_use c58 ?_ | refine pc_head c55 ?_ | refine pc_use (alikeE _) ?_ | refine spine_rd (rd_call rfl rfl (hrA _)) ?_ | refine po_head htA ?_ | refine pc_head h27A ?_ | rw [flOf_rows] | refine ShhP.mk _ rfl ?_ | refine call_walk pok Tryz.func37 chk37 ?_ | refine pc_lend2 c38b (asD_own (hrB _) (by simp [hlB])) (.d _) rfl ?_ | refine pc_use c23 ?_ | refine pc_use c50 ?_ | refine pc_use c38 ?_ | refine pc_use awake_c ?_ | refine HpP.force ?_); conv => whnf) | (intro t ht; cases t <;> conv => whnf)
     all_goals first | exact fin rfl | (exfalso; simp at ht; done) | (exfalso; simp at *; omega) | (exfalso; simp_all; done)
    ·skip
     obtain ⟨B, rfl⟩ : ∃ B : Nat, cb = B := ⟨cb.toNat, by have := (cchk_ok hC).2.1; omega⟩
     have c55 := along55 hs cw gs wa ct false u hC hwl
     rw [hC] at c52
     have c58 := along58e hs cw (gs.map Gt.own) wa false false false (by rw [cchk_own]; exact hC) hgw' hwl (by rw [alE_own]; exact hE)
     rw [alE_own] at c58
     have eR : alR W l cw B gs wa = alX (alE W l cw B gs wa) := by unfold alR; rw [if_neg hE]
     rw [eR] at c55
     generalize alE W l cw B gs wa = eE at c55 c58 hE
     refine pc_walk pok Tryz.func6 chk6 ?_
     conv => whnf
     repeat' first | ((first | refine LookP.mk _ rfl ?_ | refine ShlP.mk _ (by first | (simp only [List.set, over, List.take, List.drop, List.append_eq, List.nil_append, List.cons_append, List.length]; rfl) | rfl) ?_ | refine And.intro (by first | (simp [h1]; done) | assumption | exact ⟨by kernel_rfl, rfl⟩ | decide | omega) ?_ | refine decF s20 ?_ | refine decF s130 ?_ | refine pc_use c39 ?_ | refine pc_head c16 ?_ | refine pc_head c40 ?_ | refine pc_head c24 ?_ | refine pc_use c18 ?_ | refine pc_head c18 ?_ | refine pc_use c17 ?_ | refine pc_use c52 ?_ | refine bneT ?_ | refine beqT1 ?_ | refine pc_use c56 ?_ | refine pc_use c57 ?_ | refine pc_use c58 ?_ | refine pc_head c55 ?_ | refine pc_use (alikeE _) ?_ | refine pc_use c38n ?_ | refine pc_use c23 ?_ | refine pc_use c50 ?_ | refine pc_use c38 ?_ | refine pc_use awake_c ?_ | refine HpP.force ?_); conv => whnf) | (intro t ht; cases t <;> conv => whnf)
     all_goals first | exact fin rfl | (exfalso; simp at ht; done) | (exfalso; simp at *; omega) | (exfalso; simp_all; done)
   ·skip
    have c58 := along58c cw cb (gs.map Gt.own) W l wa false false false hgl' hgw' (by rw [cchk_own]; exact hC)
    rw [cchk_own] at c58
    generalize cchk cw cb gs = eC at c52 c58 hC
    refine pc_walk pok Tryz.func6 chk6 ?_
    conv => whnf
    repeat' first | ((first | refine LookP.mk _ rfl ?_ | refine ShlP.mk _ (by first | (simp only [List.set, over, List.take, List.drop, List.append_eq, List.nil_append, List.cons_append, List.length]; rfl) | rfl) ?_ | refine And.intro (by first | (simp [h1]; done) | assumption | exact ⟨by kernel_rfl, rfl⟩ | decide | omega) ?_ | refine decF s20 ?_ | refine decF s130 ?_ | refine pc_use c39 ?_ | refine pc_head c16 ?_ | refine pc_head c40 ?_ | refine pc_head c24 ?_ | refine pc_use c18 ?_ | refine pc_use c17 ?_ | refine pc_use c52 ?_ | refine bneT ?_ | refine beqF2 hC ?_ | refine beqT1 ?_ | refine pc_use c56 ?_ | refine pc_use c57 ?_ | refine pc_use c58 ?_ | refine pc_use (alikeE _) ?_ | refine pc_use c38n ?_ | refine pc_use c23 ?_ | refine pc_use c50 ?_ | refine pc_use c38 ?_ | refine pc_use awake_c ?_ | refine HpP.force ?_); conv => whnf) | (intro t ht; cases t <;> conv => whnf)
    all_goals first | exact fin rfl | (exfalso; simp at ht; done) | (exfalso; simp at *; omega) | (exfalso; simp_all; done)
  ·obtain ⟨N, rfl, hnW⟩ : ∃ N : Nat, n = N ∧ N < W := ⟨n.toNat, by omega, by omega⟩
   have hn0 : ¬ (N : Int) < 0 := by omega
   have hn1 : ¬ (N : Int) ≥ W := by omega
   by_cases hO : o < 0 ∨ o > 1
   ·have hf : fE W l N o = 3 := by unfold fE; rw [if_neg (fun q => q hc), if_neg hN, if_pos hO]
    have c56 := measure56e (found_e (w := W) (n := N) (o := o) (l := l) (by rw [hf]; decide) false false (by omega))
    have c57 := reset57e (found_e (w := W) (n := N) (o := o) (l := l) (by rw [hf]; decide) false true (by omega))
    rw [hf] at c56 c57
    clear hf
    have ho0 : o ≠ 0 := by omega
    have ho1 : o ≠ 1 := by omega
    by_cases hC : cchk cw cb gs = 0
    ·by_cases hE : alE W l cw cb gs wa = 0
     ·skip
      obtain ⟨B, rfl⟩ : ∃ B : Nat, cb = B := ⟨cb.toNat, by have := (cchk_ok hC).2.1; omega⟩
      have c55 := along55 hs cw gs wa ct false u hC hwl
      rw [hC] at c52
      obtain rfl : cw = W := by
       rcases Int.decEq cw W with q | q
       ·exact absurd (al7 (.inl q)) (by rw [hE]; decide)
       ·exact q
      have c58 := along58 hs W (gs.map Gt.own) wa false false false (by rw [cchk_own]; exact hC) hgw' hwl (by rw [alE_own]; exact hE)
      rw [runA_own] at c58
      obtain ⟨hlA, hlB⟩ := runA_len hs hC hE
      have eR : alR W l W B gs wa = .tup [stD W (runA W wa B l gs).r false, intsD (runA W wa B l gs).bs true, iD (runA W wa B l gs).c, iD 0] := by unfold alR; rw [if_pos hE]
      rw [eR] at c55
      generalize runA W wa B l gs = S at c55 c58 hlA hlB
      obtain ⟨A, bs, cA, kA, fA⟩ := S
      dsimp only at c55 c58 hlA hlB
      have hrB : ∀ ρ : Nat → Nat, some (Blk.ren ρ (dblk 1 (nums bs))) = some (dblk 1 (nums bs)) := fun ρ => by rw [ren_dblk]
      have c38b := equal38 (G := GG) bs true true (by have := (cchk_ok hC).2.1; omega)
      have htA := theirs18o (G := GG) W A true (by omega) (by omega)
      have h27A := equal27 (G := GG) W W A A false false (by omega)
      rw [decide_eq_true ⟨rfl, rfl⟩] at h27A
      rw [hlA] at htA
      have hrA : ∀ ρ : Nat → Nat, some (Blk.ren ρ (dblk 4 (A.map Ps.l))) = some (dblk 4 (A.map Ps.l)) := fun ρ => by rw [ren_dblk]
      refine pc_walk pok Tryz.func6 chk6 ?_
      conv => whnf
      repeat' first | ((first | refine LookP.mk _ (by first | rfl | exact lendA (hrA _) (by simp [hlA]) | exact lendW (hrA _) (by simp [hlA])) ?_ | refine ShlP.mk _ (by first | (simp only [List.set, over, List.take, List.drop, List.append_eq, List.nil_append, List.cons_append, List.length]; rfl) | rfl) ?_ | refine And.intro (by first | (simp [hlA]; done) | assumption | exact ⟨by kernel_rfl, rfl⟩ | decide | omega) ?_ | refine decF s20 ?_ | refine decF s130 ?_ | refine pc_use c39 ?_ | refine pc_head c16 ?_ | refine pc_head c40 ?_ | refine pc_head c24 ?_ | refine pc_use c18 ?_ | refine pc_head c18 ?_ | refine pc_use c17 ?_ | refine pc_use c52 ?_ | refine bneT ?_ | refine decF hn0 ?_ | refine decF hn1 ?_ | refine bneF ho0 ?_ | refine bneF ho1 ?_ | refine beqT1 ?_ | refine pc_use c56 ?_ | refine pc_use c57 ?_ | refine po_use c58 ?_ | refine pc_head c55 ?_ | refine pc_use (alikeE _) ?_ | refine spine_rd (rd_call rfl rfl (hrA _)) ?_ | refine po_head htA ?_ | refine pc_head h27A ?_ | rw [flOf_rows] | refine ShhP.mk _ rfl ?_ | refine call_walk pok Tryz.func37 chk37 ?_ | refine pc_lend2 c38b (asD_own (hrB _) (by simp [hlB])) (.d _) rfl ?_ | refine pc_use c23 ?_ | refine pc_use c50 ?_ | refine pc_use c38 ?_ | refine pc_use awake_c ?_ | refine HpP.force ?_); conv => whnf)
      all_goals first | exact fin rfl | (exfalso; simp at ht; done) | (exfalso; simp at *; omega) | (exfalso; simp_all; done)
     ·skip
      obtain ⟨B, rfl⟩ : ∃ B : Nat, cb = B := ⟨cb.toNat, by have := (cchk_ok hC).2.1; omega⟩
      have c55 := along55 hs cw gs wa ct false u hC hwl
      rw [hC] at c52
      have c58 := along58e hs cw (gs.map Gt.own) wa false false false (by rw [cchk_own]; exact hC) hgw' hwl (by rw [alE_own]; exact hE)
      rw [alE_own] at c58
      have eR : alR W l cw B gs wa = alX (alE W l cw B gs wa) := by unfold alR; rw [if_neg hE]
      rw [eR] at c55
      generalize alE W l cw B gs wa = eE at c55 c58 hE
      refine pc_walk pok Tryz.func6 chk6 ?_
      conv => whnf
      repeat' first | ((first | refine LookP.mk _ rfl ?_ | refine ShlP.mk _ (by first | (simp only [List.set, over, List.take, List.drop, List.append_eq, List.nil_append, List.cons_append, List.length]; rfl) | rfl) ?_ | refine And.intro (by first | (simp [h1]; done) | assumption | exact ⟨by kernel_rfl, rfl⟩ | decide | omega) ?_ | refine decF s20 ?_ | refine decF s130 ?_ | refine pc_use c39 ?_ | refine pc_head c16 ?_ | refine pc_head c40 ?_ | refine pc_head c24 ?_ | refine pc_use c18 ?_ | refine pc_head c18 ?_ | refine pc_use c17 ?_ | refine pc_use c52 ?_ | refine bneT ?_ | refine decF hn0 ?_ | refine decF hn1 ?_ | refine bneF ho0 ?_ | refine bneF ho1 ?_ | refine beqT1 ?_ | refine pc_use c56 ?_ | refine pc_use c57 ?_ | refine pc_use c58 ?_ | refine pc_head c55 ?_ | refine pc_use (alikeE _) ?_ | refine pc_use c38n ?_ | refine pc_use c23 ?_ | refine pc_use c50 ?_ | refine pc_use c38 ?_ | refine pc_use awake_c ?_ | refine HpP.force ?_); conv => whnf)
      all_goals first | exact fin rfl | (exfalso; simp at ht; done) | (exfalso; simp at *; omega) | (exfalso; simp_all; done)
    ·skip
     have c58 := along58c cw cb (gs.map Gt.own) W l wa false false false hgl' hgw' (by rw [cchk_own]; exact hC)
     rw [cchk_own] at c58
     generalize cchk cw cb gs = eC at c52 c58 hC
     refine pc_walk pok Tryz.func6 chk6 ?_
     conv => whnf
     repeat' first | ((first | refine LookP.mk _ rfl ?_ | refine ShlP.mk _ (by first | (simp only [List.set, over, List.take, List.drop, List.append_eq, List.nil_append, List.cons_append, List.length]; rfl) | rfl) ?_ | refine And.intro (by first | (simp [h1]; done) | assumption | exact ⟨by kernel_rfl, rfl⟩ | decide | omega) ?_ | refine decF s20 ?_ | refine decF s130 ?_ | refine pc_use c39 ?_ | refine pc_head c16 ?_ | refine pc_head c40 ?_ | refine pc_head c24 ?_ | refine pc_use c18 ?_ | refine pc_use c17 ?_ | refine pc_use c52 ?_ | refine bneT ?_ | refine decF hn0 ?_ | refine decF hn1 ?_ | refine bneF ho0 ?_ | refine bneF ho1 ?_ | refine beqF2 hC ?_ | refine beqT1 ?_ | refine pc_use c56 ?_ | refine pc_use c57 ?_ | refine pc_use c58 ?_ | refine pc_use (alikeE _) ?_ | refine pc_use c38n ?_ | refine pc_use c23 ?_ | refine pc_use c50 ?_ | refine pc_use c38 ?_ | refine pc_use awake_c ?_ | refine HpP.force ?_); conv => whnf)
     all_goals first | exact fin rfl | (exfalso; simp at ht; done) | (exfalso; simp at *; omega) | (exfalso; simp_all; done)
   ·obtain ⟨Q, rfl, hQ⟩ : ∃ Q : Nat, o = Q ∧ Q ≤ 1 := ⟨o.toNat, by omega, by omega⟩
    by_cases hx : expR W l (zP W N Q) = -1
    ·obtain ⟨c56, c57, c53⟩ := mR_no hs hnW hQ hx false
     rcases (by omega : Q = 0 ∨ Q = 1) with rfl | rfl
     all_goals
      by_cases hC : cchk cw cb gs = 0
      ·by_cases hE : alE W l cw cb gs wa = 0
       ·skip
        obtain ⟨B, rfl⟩ : ∃ B : Nat, cb = B := ⟨cb.toNat, by have := (cchk_ok hC).2.1; omega⟩
        have c55 := along55 hs cw gs wa ct false u hC hwl
        rw [hC] at c52
        obtain rfl : cw = W := by
         rcases Int.decEq cw W with q | q
         ·exact absurd (al7 (.inl q)) (by rw [hE]; decide)
         ·exact q
        have c58 := along58 hs W (gs.map Gt.own) wa false false false (by rw [cchk_own]; exact hC) hgw' hwl (by rw [alE_own]; exact hE)
        rw [runA_own] at c58
        obtain ⟨hlA, hlB⟩ := runA_len hs hC hE
        have eR : alR W l W B gs wa = .tup [stD W (runA W wa B l gs).r false, intsD (runA W wa B l gs).bs true, iD (runA W wa B l gs).c, iD 0] := by unfold alR; rw [if_pos hE]
        rw [eR] at c55
        generalize runA W wa B l gs = S at c55 c58 hlA hlB
        obtain ⟨A, bs, cA, kA, fA⟩ := S
        dsimp only at c55 c58 hlA hlB
        have hrB : ∀ ρ : Nat → Nat, some (Blk.ren ρ (dblk 1 (nums bs))) = some (dblk 1 (nums bs)) := fun ρ => by rw [ren_dblk]
        have c38b := equal38 (G := GG) bs true true (by have := (cchk_ok hC).2.1; omega)
        have htA := theirs18o (G := GG) W A true (by omega) (by omega)
        have h27A := equal27 (G := GG) W W A A false false (by omega)
        rw [decide_eq_true ⟨rfl, rfl⟩] at h27A
        rw [hlA] at htA
        have hrA : ∀ ρ : Nat → Nat, some (Blk.ren ρ (dblk 4 (A.map Ps.l))) = some (dblk 4 (A.map Ps.l)) := fun ρ => by rw [ren_dblk]
        refine pc_walk pok Tryz.func6 chk6 ?_
        conv => whnf
        repeat' first | ((first | refine LookP.mk _ (by first | rfl | exact lendA (hrA _) (by simp [hlA]) | exact lendW (hrA _) (by simp [hlA])) ?_ | refine ShlP.mk _ (by first | (simp only [List.set, over, List.take, List.drop, List.append_eq, List.nil_append, List.cons_append, List.length]; rfl) | rfl) ?_ | refine And.intro (by first | (simp [hlA]; done) | assumption | exact ⟨by kernel_rfl, rfl⟩ | decide | omega) ?_ | refine decF s20 ?_ | refine decF s130 ?_ | refine pc_use c39 ?_ | refine pc_head c16 ?_ | refine pc_head c40 ?_ | refine pc_head c24 ?_ | refine pc_use c18 ?_ | refine pc_head c18 ?_ | refine pc_use c17 ?_ | refine pc_use c52 ?_ | refine bneT ?_ | refine decF hn0 ?_ | refine decF hn1 ?_ | refine beqT1 ?_ | refine pc_use c56 ?_ | refine pc_use c57 ?_ | refine pc_use c53 ?_ | refine po_use c58 ?_ | refine pc_head c55 ?_ | refine pc_use (alikeE _) ?_ | refine spine_rd (rd_call rfl rfl (hrA _)) ?_ | refine po_head htA ?_ | refine pc_head h27A ?_ | rw [flOf_rows] | refine ShhP.mk _ rfl ?_ | refine call_walk pok Tryz.func37 chk37 ?_ | refine pc_lend2 c38b (asD_own (hrB _) (by simp [hlB])) (.d _) rfl ?_ | refine pc_use c23 ?_ | refine pc_use c50 ?_ | refine pc_use c38 ?_ | refine pc_use awake_c ?_ | refine HpP.force ?_); conv => whnf) | (intro t ht; cases t <;> conv => whnf)
        all_goals first | exact fin rfl | (exfalso; simp at ht; done) | (exfalso; simp at *; omega) | (exfalso; simp_all; done)
       ·skip
        obtain ⟨B, rfl⟩ : ∃ B : Nat, cb = B := ⟨cb.toNat, by have := (cchk_ok hC).2.1; omega⟩
        have c55 := along55 hs cw gs wa ct false u hC hwl
        rw [hC] at c52
        have c58 := along58e hs cw (gs.map Gt.own) wa false false false (by rw [cchk_own]; exact hC) hgw' hwl (by rw [alE_own]; exact hE)
        rw [alE_own] at c58
        have eR : alR W l cw B gs wa = alX (alE W l cw B gs wa) := by unfold alR; rw [if_neg hE]
        rw [eR] at c55
        generalize alE W l cw B gs wa = eE at c55 c58 hE
        refine pc_walk pok Tryz.func6 chk6 ?_
        conv => whnf
        repeat' first | ((first | refine LookP.mk _ rfl ?_ | refine ShlP.mk _ (by first | (simp only [List.set, over, List.take, List.drop, List.append_eq, List.nil_append, List.cons_append, List.length]; rfl) | rfl) ?_ | refine And.intro (by first | (simp [h1]; done) | assumption | exact ⟨by kernel_rfl, rfl⟩ | decide | omega) ?_ | refine decF s20 ?_ | refine decF s130 ?_ | refine pc_use c39 ?_ | refine pc_head c16 ?_ | refine pc_head c40 ?_ | refine pc_head c24 ?_ | refine pc_use c18 ?_ | refine pc_head c18 ?_ | refine pc_use c17 ?_ | refine pc_use c52 ?_ | refine bneT ?_ | refine decF hn0 ?_ | refine decF hn1 ?_ | refine beqT1 ?_ | refine pc_use c56 ?_ | refine pc_use c57 ?_ | refine pc_use c53 ?_ | refine pc_use c58 ?_ | refine pc_head c55 ?_ | refine pc_use (alikeE _) ?_ | refine pc_use c38n ?_ | refine pc_use c23 ?_ | refine pc_use c50 ?_ | refine pc_use c38 ?_ | refine pc_use awake_c ?_ | refine HpP.force ?_); conv => whnf) | (intro t ht; cases t <;> conv => whnf)
        all_goals first | exact fin rfl | (exfalso; simp at ht; done) | (exfalso; simp at *; omega) | (exfalso; simp_all; done)
      ·skip
       have c58 := along58c cw cb (gs.map Gt.own) W l wa false false false hgl' hgw' (by rw [cchk_own]; exact hC)
       rw [cchk_own] at c58
       generalize cchk cw cb gs = eC at c52 c58 hC
       refine pc_walk pok Tryz.func6 chk6 ?_
       conv => whnf
       repeat' first | ((first | refine LookP.mk _ rfl ?_ | refine ShlP.mk _ (by first | (simp only [List.set, over, List.take, List.drop, List.append_eq, List.nil_append, List.cons_append, List.length]; rfl) | rfl) ?_ | refine And.intro (by first | (simp [h1]; done) | assumption | exact ⟨by kernel_rfl, rfl⟩ | decide | omega) ?_ | refine decF s20 ?_ | refine decF s130 ?_ | refine pc_use c39 ?_ | refine pc_head c16 ?_ | refine pc_head c40 ?_ | refine pc_head c24 ?_ | refine pc_use c18 ?_ | refine pc_use c17 ?_ | refine pc_use c52 ?_ | refine bneT ?_ | refine decF hn0 ?_ | refine decF hn1 ?_ | refine beqF2 hC ?_ | refine beqT1 ?_ | refine pc_use c56 ?_ | refine pc_use c57 ?_ | refine pc_use c53 ?_ | refine pc_use c58 ?_ | refine pc_use (alikeE _) ?_ | refine pc_use c38n ?_ | refine pc_use c23 ?_ | refine pc_use c50 ?_ | refine pc_use c38 ?_ | refine pc_use awake_c ?_ | refine HpP.force ?_); conv => whnf) | (intro t ht; cases t <;> conv => whnf)
       all_goals first | exact fin rfl | (exfalso; simp at ht; done) | (exfalso; simp at *; omega) | (exfalso; simp_all; done)
    ·obtain ⟨hsR, c56, c57, c53⟩ := mR_ok hs hnW hQ hx false
     have hlR := hsR.len
     rcases (by omega : Q = 0 ∨ Q = 1) with rfl | rfl
     ·rw [if_neg (by decide)] at c57
      generalize mR W N 0 l = R at c56 c57 c53 hlR hsR
      generalize mN W N 0 l = mc at c56 c57 c53
      have htR := theirs18o (G := GG) W R true (by omega) (by omega)
      have h27R := equal27 (G := GG) W W R R false false (by omega)
      rw [decide_eq_true ⟨rfl, rfl⟩] at h27R
      rw [hlR] at htR
      have hrR : ∀ ρ : Nat → Nat, some (Blk.ren ρ (dblk 4 (R.map Ps.l))) = some (dblk 4 (R.map Ps.l)) := fun ρ => by rw [ren_dblk]
      by_cases hC : cchk cw cb gs = 0
      ·by_cases hE : alE W l cw cb gs wa = 0
       ·skip
        obtain ⟨B, rfl⟩ : ∃ B : Nat, cb = B := ⟨cb.toNat, by have := (cchk_ok hC).2.1; omega⟩
        have c55 := along55 hs cw gs wa ct false u hC hwl
        rw [hC] at c52
        obtain rfl : cw = W := by
         rcases Int.decEq cw W with q | q
         ·exact absurd (al7 (.inl q)) (by rw [hE]; decide)
         ·exact q
        have c58 := along58 hs W (gs.map Gt.own) wa false false false (by rw [cchk_own]; exact hC) hgw' hwl (by rw [alE_own]; exact hE)
        rw [runA_own] at c58
        obtain ⟨hlA, hlB⟩ := runA_len hs hC hE
        have eR : alR W l W B gs wa = .tup [stD W (runA W wa B l gs).r false, intsD (runA W wa B l gs).bs true, iD (runA W wa B l gs).c, iD 0] := by unfold alR; rw [if_pos hE]
        rw [eR] at c55
        generalize runA W wa B l gs = S at c55 c58 hlA hlB
        obtain ⟨A, bs, cA, kA, fA⟩ := S
        dsimp only at c55 c58 hlA hlB
        have hrB : ∀ ρ : Nat → Nat, some (Blk.ren ρ (dblk 1 (nums bs))) = some (dblk 1 (nums bs)) := fun ρ => by rw [ren_dblk]
        have c38b := equal38 (G := GG) bs true true (by have := (cchk_ok hC).2.1; omega)
        have htA := theirs18o (G := GG) W A true (by omega) (by omega)
        have h27A := equal27 (G := GG) W W A A false false (by omega)
        rw [decide_eq_true ⟨rfl, rfl⟩] at h27A
        rw [hlA] at htA
        have hrA : ∀ ρ : Nat → Nat, some (Blk.ren ρ (dblk 4 (A.map Ps.l))) = some (dblk 4 (A.map Ps.l)) := fun ρ => by rw [ren_dblk]
        refine pc_walk pok Tryz.func6 chk6 ?_
        conv => whnf
        repeat' first | ((first | refine LookP.mk _ (by first | rfl | exact lendA (hrR _) (by simp [hlR]) | exact lendW (hrR _) (by simp [hlR]) | exact lendA (hrA _) (by simp [hlA]) | exact lendW (hrA _) (by simp [hlA])) ?_ | refine ShlP.mk _ (by first | (simp only [List.set, over, List.take, List.drop, List.append_eq, List.nil_append, List.cons_append, List.length]; rfl) | rfl) ?_ | refine And.intro (by first | (simp [hlR, hlA]; done) | assumption | exact ⟨by kernel_rfl, rfl⟩ | decide | omega) ?_ | refine decF s20 ?_ | refine decF s130 ?_ | refine pc_use c39 ?_ | refine pc_head c16 ?_ | refine pc_head c40 ?_ | refine pc_head c24 ?_ | refine pc_use c18 ?_ | refine pc_head c18 ?_ | refine pc_use c17 ?_ | refine pc_use c52 ?_ | refine bneT ?_ | refine decF hn0 ?_ | refine decF hn1 ?_ | refine beqT1 ?_ | refine po_use c56 ?_ | refine po_use c57 ?_ | refine pc_use c53 ?_ | refine po_use c58 ?_ | refine pc_head c55 ?_ | refine spine_rd (rd_call rfl rfl (hrR _)) ?_ | refine spine_rd (rd_call rfl rfl (hrA _)) ?_ | refine po_head htR ?_ | refine po_head htA ?_ | refine pc_head h27R ?_ | refine pc_head h27A ?_ | rw [flOf_rows] | refine ShhP.mk _ rfl ?_ | refine call_walk pok Tryz.func37 chk37 ?_ | refine pc_lend2 c38b (asD_own (hrB _) (by simp [hlB])) (.d _) rfl ?_ | refine pc_use c23 ?_ | refine pc_use c50 ?_ | refine pc_use c38 ?_ | refine pc_use awake_c ?_ | refine HpP.force ?_); conv => whnf)
        all_goals first | exact fin rfl | (exfalso; simp at ht; done) | (exfalso; simp at *; omega) | (exfalso; simp_all; done)
       ·skip
        obtain ⟨B, rfl⟩ : ∃ B : Nat, cb = B := ⟨cb.toNat, by have := (cchk_ok hC).2.1; omega⟩
        have c55 := along55 hs cw gs wa ct false u hC hwl
        rw [hC] at c52
        have c58 := along58e hs cw (gs.map Gt.own) wa false false false (by rw [cchk_own]; exact hC) hgw' hwl (by rw [alE_own]; exact hE)
        rw [alE_own] at c58
        have eR : alR W l cw B gs wa = alX (alE W l cw B gs wa) := by unfold alR; rw [if_neg hE]
        rw [eR] at c55
        generalize alE W l cw B gs wa = eE at c55 c58 hE
        refine pc_walk pok Tryz.func6 chk6 ?_
        conv => whnf
        repeat' first | ((first | refine LookP.mk _ (by first | rfl | exact lendA (hrR _) (by simp [hlR]) | exact lendW (hrR _) (by simp [hlR])) ?_ | refine ShlP.mk _ (by first | (simp only [List.set, over, List.take, List.drop, List.append_eq, List.nil_append, List.cons_append, List.length]; rfl) | rfl) ?_ | refine And.intro (by first | (simp [hlR]; done) | assumption | exact ⟨by kernel_rfl, rfl⟩ | decide | omega) ?_ | refine decF s20 ?_ | refine decF s130 ?_ | refine pc_use c39 ?_ | refine pc_head c16 ?_ | refine pc_head c40 ?_ | refine pc_head c24 ?_ | refine pc_use c18 ?_ | refine pc_head c18 ?_ | refine pc_use c17 ?_ | refine pc_use c52 ?_ | refine bneT ?_ | refine decF hn0 ?_ | refine decF hn1 ?_ | refine beqT1 ?_ | refine po_use c56 ?_ | refine po_use c57 ?_ | refine pc_use c53 ?_ | refine pc_use c58 ?_ | refine pc_head c55 ?_ | refine pc_use (alikeE _) ?_ | refine spine_rd (rd_call rfl rfl (hrR _)) ?_ | refine po_head htR ?_ | refine pc_head h27R ?_ | rw [flOf_rows] | refine ShhP.mk _ rfl ?_ | refine call_walk pok Tryz.func37 chk37 ?_ | refine pc_use c38n ?_ | refine pc_use c23 ?_ | refine pc_use c50 ?_ | refine pc_use c38 ?_ | refine pc_use awake_c ?_ | refine HpP.force ?_); conv => whnf)
        all_goals first | exact fin rfl | (exfalso; simp at ht; done) | (exfalso; simp at *; omega) | (exfalso; simp_all; done)
      ·skip
       have c58 := along58c cw cb (gs.map Gt.own) W l wa false false false hgl' hgw' (by rw [cchk_own]; exact hC)
       rw [cchk_own] at c58
       generalize cchk cw cb gs = eC at c52 c58 hC
       refine pc_walk pok Tryz.func6 chk6 ?_
       conv => whnf
       repeat' first | ((first | refine LookP.mk _ (by first | rfl | exact lendA (hrR _) (by simp [hlR]) | exact lendW (hrR _) (by simp [hlR])) ?_ | refine ShlP.mk _ (by first | (simp only [List.set, over, List.take, List.drop, List.append_eq, List.nil_append, List.cons_append, List.length]; rfl) | rfl) ?_ | refine And.intro (by first | (simp [hlR]; done) | assumption | exact ⟨by kernel_rfl, rfl⟩ | decide | omega) ?_ | refine decF s20 ?_ | refine decF s130 ?_ | refine pc_use c39 ?_ | refine pc_head c16 ?_ | refine pc_head c40 ?_ | refine pc_head c24 ?_ | refine pc_use c18 ?_ | refine pc_use c17 ?_ | refine pc_use c52 ?_ | refine bneT ?_ | refine decF hn0 ?_ | refine decF hn1 ?_ | refine beqF2 hC ?_ | refine beqT1 ?_ | refine po_use c56 ?_ | refine po_use c57 ?_ | refine pc_use c53 ?_ | refine pc_use c58 ?_ | refine pc_use (alikeE _) ?_ | refine spine_rd (rd_call rfl rfl (hrR _)) ?_ | refine po_head htR ?_ | refine pc_head h27R ?_ | rw [flOf_rows] | refine ShhP.mk _ rfl ?_ | refine call_walk pok Tryz.func37 chk37 ?_ | refine pc_use c38n ?_ | refine pc_use c23 ?_ | refine pc_use c50 ?_ | refine pc_use c38 ?_ | refine pc_use awake_c ?_ | refine HpP.force ?_); conv => whnf)
       all_goals first | exact fin rfl | (exfalso; simp at ht; done) | (exfalso; simp at *; omega) | (exfalso; simp_all; done)
     ·rw [if_pos rfl] at c57
      have c44 := apply44 (G := GG) ⟨hs.lo, hs.hi⟩ (xG N) (xG_ok hnW).1 (xG_ok hnW).2 (mR W N 1 l) false (by omega) (by omega) hsR.vl
      have hlR2 : (appG W (xG N) (mR W N 1 l)).length = W := (appG_sok (xG_ok hnW).1 (xG_ok hnW).2 hsR).len
      generalize appG W (xG N) (mR W N 1 l) = R2 at c57 c44 hlR2
      generalize mR W N 1 l = R at c56 c57 c53 c44 hlR hsR
      generalize mN W N 1 l = mc at c56 c57 c53
      have htR := theirs18o (G := GG) W R true (by omega) (by omega)
      have h27R := equal27 (G := GG) W W R R false false (by omega)
      rw [decide_eq_true ⟨rfl, rfl⟩] at h27R
      rw [hlR] at htR
      have hrR : ∀ ρ : Nat → Nat, some (Blk.ren ρ (dblk 4 (R.map Ps.l))) = some (dblk 4 (R.map Ps.l)) := fun ρ => by rw [ren_dblk]
      have htR2 := theirs18o (G := GG) W R2 true (by omega) (by omega)
      have h27R2 := equal27 (G := GG) W W R2 R2 false false (by omega)
      rw [decide_eq_true ⟨rfl, rfl⟩] at h27R2
      rw [hlR2] at htR2
      have hrR2 : ∀ ρ : Nat → Nat, some (Blk.ren ρ (dblk 4 (R2.map Ps.l))) = some (dblk 4 (R2.map Ps.l)) := fun ρ => by rw [ren_dblk]
      by_cases hC : cchk cw cb gs = 0
      ·by_cases hE : alE W l cw cb gs wa = 0
       ·skip
        obtain ⟨B, rfl⟩ : ∃ B : Nat, cb = B := ⟨cb.toNat, by have := (cchk_ok hC).2.1; omega⟩
        have c55 := along55 hs cw gs wa ct false u hC hwl
        rw [hC] at c52
        obtain rfl : cw = W := by
         rcases Int.decEq cw W with q | q
         ·exact absurd (al7 (.inl q)) (by rw [hE]; decide)
         ·exact q
        have c58 := along58 hs W (gs.map Gt.own) wa false false false (by rw [cchk_own]; exact hC) hgw' hwl (by rw [alE_own]; exact hE)
        rw [runA_own] at c58
        obtain ⟨hlA, hlB⟩ := runA_len hs hC hE
        have eR : alR W l W B gs wa = .tup [stD W (runA W wa B l gs).r false, intsD (runA W wa B l gs).bs true, iD (runA W wa B l gs).c, iD 0] := by unfold alR; rw [if_pos hE]
        rw [eR] at c55
        generalize runA W wa B l gs = S at c55 c58 hlA hlB
        obtain ⟨A, bs, cA, kA, fA⟩ := S
        dsimp only at c55 c58 hlA hlB
        have hrB : ∀ ρ : Nat → Nat, some (Blk.ren ρ (dblk 1 (nums bs))) = some (dblk 1 (nums bs)) := fun ρ => by rw [ren_dblk]
        have c38b := equal38 (G := GG) bs true true (by have := (cchk_ok hC).2.1; omega)
        have htA := theirs18o (G := GG) W A true (by omega) (by omega)
        have h27A := equal27 (G := GG) W W A A false false (by omega)
        rw [decide_eq_true ⟨rfl, rfl⟩] at h27A
        rw [hlA] at htA
        have hrA : ∀ ρ : Nat → Nat, some (Blk.ren ρ (dblk 4 (A.map Ps.l))) = some (dblk 4 (A.map Ps.l)) := fun ρ => by rw [ren_dblk]
        refine pc_walkR pok 15 Tryz.func6 chk6 ?_
        conv => whnf
        repeat' first | ((first | refine LookP.mk _ (by first | rfl | exact lendA (hrR _) (by simp [hlR]) | exact lendW (hrR _) (by simp [hlR]) | exact lendA (hrR2 _) (by simp [hlR2]) | exact lendW (hrR2 _) (by simp [hlR2]) | exact lendA (hrA _) (by simp [hlA]) | exact lendW (hrA _) (by simp [hlA])) ?_ | refine ShlP.mk _ (by first | (simp only [List.set, over, List.take, List.drop, List.append_eq, List.nil_append, List.cons_append, List.length]; rfl) | rfl) ?_ | refine And.intro (by first | (simp [hlR, hlR2, hlA]; done) | assumption | exact ⟨by kernel_rfl, rfl⟩ | decide | omega) ?_ | refine decF s20 ?_ | refine decF s130 ?_ | refine pc_use c39 ?_ | refine pc_head c16 ?_ | refine pc_head c40 ?_ | refine pc_head c24 ?_ | refine pc_use c18 ?_ | refine pc_use c17 ?_ | refine pc_use c52 ?_ | refine bneT ?_ | refine decF hn0 ?_ | refine decF hn1 ?_ | refine beqT1 ?_ | refine pc_use c53 ?_ | refine bneF (a := 1) (b := 0) (by decide) ?_ | refine HpP.force ?_); conv => whnf)
        refine reg15c (by kernel_rfl) [(1, .d (iD N)), (2, .d (iD 1)), (4, .d (intsD wa u)), (5, .ptr 0 2 0 0), (8, .ptr 1 3 0 0), (10, .d (.bool false)), (11, .ptr 2 2 0 0), (12, .ptr 3 3 0 0), (13, .d (intsD wa false)), (14, .d (iD 0)), (15, .d (iD 0)), (16, .ptr 4 2 0 0), (17, .ptr 5 2 0 0), (18, .ptr 6 2 0 0), (19, .d (iD mc)), (20, .d (iD 0)), (21, .d (.sl [] true))] [(4, .arr 2 [[.d (iD W), .d (rowsD R false)]]), (0, .arr 2 [[.d (iD W), .d (rowsD l t)]]), (1, .arr 3 [[.d (iD W), .d (iD B), .d (gatesD gs ct)]]), (2, .arr 2 [[.d (iD W), .d (rowsD l false)]]), (3, .arr 3 [[.d (iD W), .d (iD B), .d (gatesD (gs.map Gt.own) false)]]), (6, .arr 2 [[.d (iD 0), .d (.sl [] true)]])] 7 4 5 (by repeat' first | exact trivial | (refine ⟨⟨by first | exact .inl (Nat.le_of_ble_eq_true rfl) | exact .inr (Nat.le_of_ble_eq_true rfl), rfl⟩, ?_⟩)) (by simp) (by simp) (by simp) List.mem_cons_self (by repeat' first | exact trivial | (refine ⟨⟨⟨Nat.ne_of_beq_eq_false rfl, Nat.le_of_ble_eq_true rfl⟩, by first | exact below_dblk _ _ _ | exact below1 rfl⟩, ?_⟩)) (by decide) c44 (Nat.le_of_ble_eq_true rfl) (by repeat' first | exact trivial | (refine ⟨rfl, ?_⟩)) (by repeat' first | exact trivial | (refine ⟨rfl, ?_⟩)) rfl ?_
        conv => whnf
        repeat' first | ((first | refine LookP.mk _ (by first | rfl | exact lendA (hrR _) (by simp [hlR]) | exact lendW (hrR _) (by simp [hlR]) | exact lendA (hrR2 _) (by simp [hlR2]) | exact lendW (hrR2 _) (by simp [hlR2]) | exact lendA (hrA _) (by simp [hlA]) | exact lendW (hrA _) (by simp [hlA])) ?_ | refine ShlP.mk _ (by first | (simp only [List.set, over, List.take, List.drop, List.append_eq, List.nil_append, List.cons_append, List.length]; rfl) | rfl) ?_ | refine And.intro (by first | (simp [hlR, hlR2, hlA]; done) | assumption | exact ⟨by kernel_rfl, rfl⟩ | decide | omega) ?_ | refine pc_head c18 ?_ | refine beqT1 ?_ | refine po_use c56 ?_ | refine po_use c57 ?_ | refine po_use c58 ?_ | refine pc_head c55 ?_ | refine spine_rd (rd_call rfl rfl (hrR _)) ?_ | refine spine_rd (rd_call rfl rfl (hrR2 _)) ?_ | refine spine_rd (rd_call rfl rfl (hrA _)) ?_ | refine po_head htR ?_ | refine po_head htR2 ?_ | refine po_head htA ?_ | refine pc_head h27R ?_ | refine pc_head h27R2 ?_ | refine pc_head h27A ?_ | rw [flOf_rows] | refine ShhP.mk _ rfl ?_ | refine call_walk pok Tryz.func37 chk37 ?_ | refine pc_lend2 c38b (asD_own (hrB _) (by simp [hlB])) (.d _) rfl ?_ | refine pc_use c23 ?_ | refine pc_use c50 ?_ | refine pc_use c38 ?_ | refine pc_use awake_c ?_ | refine HpP.force ?_); conv => whnf)
        all_goals first | exact fin rfl | (exfalso; simp at ht; done) | (exfalso; simp at *; omega) | (exfalso; simp_all; done)
       ·skip
        obtain ⟨B, rfl⟩ : ∃ B : Nat, cb = B := ⟨cb.toNat, by have := (cchk_ok hC).2.1; omega⟩
        have c55 := along55 hs cw gs wa ct false u hC hwl
        rw [hC] at c52
        have c58 := along58e hs cw (gs.map Gt.own) wa false false false (by rw [cchk_own]; exact hC) hgw' hwl (by rw [alE_own]; exact hE)
        rw [alE_own] at c58
        have eR : alR W l cw B gs wa = alX (alE W l cw B gs wa) := by unfold alR; rw [if_neg hE]
        rw [eR] at c55
        generalize alE W l cw B gs wa = eE at c55 c58 hE
        refine pc_walkR pok 15 Tryz.func6 chk6 ?_
        conv => whnf
        repeat' first | ((first | refine LookP.mk _ (by first | rfl | exact lendA (hrR _) (by simp [hlR]) | exact lendW (hrR _) (by simp [hlR]) | exact lendA (hrR2 _) (by simp [hlR2]) | exact lendW (hrR2 _) (by simp [hlR2])) ?_ | refine ShlP.mk _ (by first | (simp only [List.set, over, List.take, List.drop, List.append_eq, List.nil_append, List.cons_append, List.length]; rfl) | rfl) ?_ | refine And.intro (by first | (simp [hlR, hlR2]; done) | assumption | exact ⟨by kernel_rfl, rfl⟩ | decide | omega) ?_ | refine decF s20 ?_ | refine decF s130 ?_ | refine pc_use c39 ?_ | refine pc_head c16 ?_ | refine pc_head c40 ?_ | refine pc_head c24 ?_ | refine pc_use c18 ?_ | refine pc_use c17 ?_ | refine pc_use c52 ?_ | refine bneT ?_ | refine decF hn0 ?_ | refine decF hn1 ?_ | refine beqT1 ?_ | refine pc_use c53 ?_ | refine bneF (a := 1) (b := 0) (by decide) ?_ | refine HpP.force ?_); conv => whnf)
        refine reg15c (by kernel_rfl) [(1, .d (iD N)), (2, .d (iD 1)), (4, .d (intsD wa u)), (5, .ptr 0 2 0 0), (8, .ptr 1 3 0 0), (10, .d (.bool false)), (11, .ptr 2 2 0 0), (12, .ptr 3 3 0 0), (13, .d (intsD wa false)), (14, .d (iD 0)), (15, .d (iD 0)), (16, .ptr 4 2 0 0), (17, .ptr 5 2 0 0), (18, .ptr 6 2 0 0), (19, .d (iD mc)), (20, .d (iD 0)), (21, .d (.sl [] true))] [(4, .arr 2 [[.d (iD W), .d (rowsD R false)]]), (0, .arr 2 [[.d (iD W), .d (rowsD l t)]]), (1, .arr 3 [[.d (iD cw), .d (iD B), .d (gatesD gs ct)]]), (2, .arr 2 [[.d (iD W), .d (rowsD l false)]]), (3, .arr 3 [[.d (iD cw), .d (iD B), .d (gatesD (gs.map Gt.own) false)]]), (6, .arr 2 [[.d (iD 0), .d (.sl [] true)]])] 7 4 5 (by repeat' first | exact trivial | (refine ⟨⟨by first | exact .inl (Nat.le_of_ble_eq_true rfl) | exact .inr (Nat.le_of_ble_eq_true rfl), rfl⟩, ?_⟩)) (by simp) (by simp) (by simp) List.mem_cons_self (by repeat' first | exact trivial | (refine ⟨⟨⟨Nat.ne_of_beq_eq_false rfl, Nat.le_of_ble_eq_true rfl⟩, by first | exact below_dblk _ _ _ | exact below1 rfl⟩, ?_⟩)) (by decide) c44 (Nat.le_of_ble_eq_true rfl) (by repeat' first | exact trivial | (refine ⟨rfl, ?_⟩)) (by repeat' first | exact trivial | (refine ⟨rfl, ?_⟩)) rfl ?_
        conv => whnf
        repeat' first | ((first | refine LookP.mk _ (by first | rfl | exact lendA (hrR _) (by simp [hlR]) | exact lendW (hrR _) (by simp [hlR]) | exact lendA (hrR2 _) (by simp [hlR2]) | exact lendW (hrR2 _) (by simp [hlR2])) ?_ | refine ShlP.mk _ (by first | (simp only [List.set, over, List.take, List.drop, List.append_eq, List.nil_append, List.cons_append, List.length]; rfl) | rfl) ?_ | refine And.intro (by first | (simp [hlR, hlR2]; done) | assumption | exact ⟨by kernel_rfl, rfl⟩ | decide | omega) ?_ | refine pc_head c18 ?_ | refine beqT1 ?_ | refine po_use c56 ?_ | refine po_use c57 ?_ | refine pc_use c58 ?_ | refine pc_head c55 ?_ | refine pc_use (alikeE _) ?_ | refine spine_rd (rd_call rfl rfl (hrR _)) ?_ | refine spine_rd (rd_call rfl rfl (hrR2 _)) ?_ | refine po_head htR ?_ | refine po_head htR2 ?_ | refine pc_head h27R ?_ | refine pc_head h27R2 ?_ | rw [flOf_rows] | refine ShhP.mk _ rfl ?_ | refine call_walk pok Tryz.func37 chk37 ?_ | refine pc_use c38n ?_ | refine pc_use c23 ?_ | refine pc_use c50 ?_ | refine pc_use c38 ?_ | refine pc_use awake_c ?_ | refine HpP.force ?_); conv => whnf)
        all_goals first | exact fin rfl | (exfalso; simp at ht; done) | (exfalso; simp at *; omega) | (exfalso; simp_all; done)
      ·skip
       have c58 := along58c cw cb (gs.map Gt.own) W l wa false false false hgl' hgw' (by rw [cchk_own]; exact hC)
       rw [cchk_own] at c58
       generalize cchk cw cb gs = eC at c52 c58 hC
       refine pc_walkR pok 15 Tryz.func6 chk6 ?_
       conv => whnf
       repeat' first | ((first | refine LookP.mk _ (by first | rfl | exact lendA (hrR _) (by simp [hlR]) | exact lendW (hrR _) (by simp [hlR]) | exact lendA (hrR2 _) (by simp [hlR2]) | exact lendW (hrR2 _) (by simp [hlR2])) ?_ | refine ShlP.mk _ (by first | (simp only [List.set, over, List.take, List.drop, List.append_eq, List.nil_append, List.cons_append, List.length]; rfl) | rfl) ?_ | refine And.intro (by first | (simp [hlR, hlR2]; done) | assumption | exact ⟨by kernel_rfl, rfl⟩ | decide | omega) ?_ | refine decF s20 ?_ | refine decF s130 ?_ | refine pc_use c39 ?_ | refine pc_head c16 ?_ | refine pc_head c40 ?_ | refine pc_head c24 ?_ | refine pc_use c18 ?_ | refine pc_use c17 ?_ | refine pc_use c52 ?_ | refine bneT ?_ | refine decF hn0 ?_ | refine decF hn1 ?_ | refine beqF2 hC ?_ | refine beqT1 ?_ | refine pc_use c53 ?_ | refine bneF (a := 1) (b := 0) (by decide) ?_ | refine HpP.force ?_); conv => whnf)
       refine reg15c (by kernel_rfl) [(1, .d (iD N)), (2, .d (iD 1)), (4, .d (intsD wa u)), (5, .ptr 0 2 0 0), (8, .ptr 1 3 0 0), (10, .d (.bool false)), (11, .ptr 2 2 0 0), (12, .ptr 3 3 0 0), (13, .d (intsD wa false)), (14, .d (iD 0)), (15, .d (iD eC)), (16, .ptr 4 2 0 0), (17, .ptr 5 2 0 0), (18, .ptr 6 2 0 0), (19, .d (iD mc)), (20, .d (iD 0)), (21, .d (.sl [] true))] [(4, .arr 2 [[.d (iD W), .d (rowsD R false)]]), (0, .arr 2 [[.d (iD W), .d (rowsD l t)]]), (1, .arr 3 [[.d (iD cw), .d (iD cb), .d (gatesD gs ct)]]), (2, .arr 2 [[.d (iD W), .d (rowsD l false)]]), (3, .arr 3 [[.d (iD cw), .d (iD cb), .d (gatesD (gs.map Gt.own) false)]]), (6, .arr 2 [[.d (iD 0), .d (.sl [] true)]])] 7 4 5 (by repeat' first | exact trivial | (refine ⟨⟨by first | exact .inl (Nat.le_of_ble_eq_true rfl) | exact .inr (Nat.le_of_ble_eq_true rfl), rfl⟩, ?_⟩)) (by simp) (by simp) (by simp) List.mem_cons_self (by repeat' first | exact trivial | (refine ⟨⟨⟨Nat.ne_of_beq_eq_false rfl, Nat.le_of_ble_eq_true rfl⟩, by first | exact below_dblk _ _ _ | exact below1 rfl⟩, ?_⟩)) (by decide) c44 (Nat.le_of_ble_eq_true rfl) (by repeat' first | exact trivial | (refine ⟨rfl, ?_⟩)) (by repeat' first | exact trivial | (refine ⟨rfl, ?_⟩)) rfl ?_
       conv => whnf
       repeat' first | ((first | refine LookP.mk _ (by first | rfl | exact lendA (hrR _) (by simp [hlR]) | exact lendW (hrR _) (by simp [hlR]) | exact lendA (hrR2 _) (by simp [hlR2]) | exact lendW (hrR2 _) (by simp [hlR2])) ?_ | refine ShlP.mk _ (by first | (simp only [List.set, over, List.take, List.drop, List.append_eq, List.nil_append, List.cons_append, List.length]; rfl) | rfl) ?_ | refine And.intro (by first | (simp [hlR, hlR2]; done) | assumption | exact ⟨by kernel_rfl, rfl⟩ | decide | omega) ?_ | refine beqF2 hC ?_ | refine beqT1 ?_ | refine po_use c56 ?_ | refine po_use c57 ?_ | refine pc_use c58 ?_ | refine pc_use (alikeE _) ?_ | refine spine_rd (rd_call rfl rfl (hrR _)) ?_ | refine spine_rd (rd_call rfl rfl (hrR2 _)) ?_ | refine po_head htR ?_ | refine po_head htR2 ?_ | refine pc_head h27R ?_ | refine pc_head h27R2 ?_ | rw [flOf_rows] | refine ShhP.mk _ rfl ?_ | refine call_walk pok Tryz.func37 chk37 ?_ | refine pc_use c38n ?_ | refine pc_use c23 ?_ | refine pc_use c50 ?_ | refine pc_use c38 ?_ | refine pc_use awake_c ?_ | refine HpP.force ?_); conv => whnf)
       all_goals first | exact fin rfl | (exfalso; simp at ht; done) | (exfalso; simp at *; omega) | (exfalso; simp_all; done)
 ·have he : chkS w l ≠ 0 := hc
  have hf : fE w l n o = chkS w l := by unfold fE; rw [if_pos he]
  have c56 := measure56e (found_e (w := w) (n := n) (o := o) (l := l) (by rw [hf]; exact he) false false (by omega))
  have c57 := reset57e (found_e (w := w) (n := n) (o := o) (l := l) (by rw [hf]; exact he) false true (by omega))
  rw [hf] at c56 c57
  clear hf hc
  by_cases hC : cchk cw cb gs = 0
  ·skip
   have c58 := along58s cw cb (gs.map Gt.own) w l wa false false false hgl' hgw' (by rw [cchk_own]; exact hC) (by omega) he
   rw [hC] at c52
   refine pc_walk pok Tryz.func6 chk6 ?_
   conv => whnf
   repeat' first | ((first | refine LookP.mk _ rfl ?_ | refine ShlP.mk _ (by first | (simp only [List.set, over, List.take, List.drop, List.append_eq, List.nil_append, List.cons_append, List.length]; rfl) | rfl) ?_ | refine And.intro (by first | (simp [h1]; done) | assumption | exact ⟨by kernel_rfl, rfl⟩ | decide | omega) ?_ | refine decF s20 ?_ | refine decF s130 ?_ | refine pc_use c39 ?_ | refine pc_head c16 ?_ | refine pc_head c40 ?_ | refine pc_head c24 ?_ | refine pc_use c18 ?_ | refine pc_use c17 ?_ | refine pc_use c52 ?_ | refine bneF he ?_ | refine beqF2 he ?_ | refine beqT1 ?_ | refine pc_use c56 ?_ | refine pc_use c57 ?_ | refine pc_use c58 ?_ | refine pc_use (alikeE _) ?_ | refine pc_use c38n ?_ | refine pc_use c23 ?_ | refine pc_use c50 ?_ | refine pc_use c38 ?_ | refine pc_use awake_c ?_ | refine HpP.force ?_); conv => whnf)
   all_goals first | exact fin rfl | (exfalso; simp at ht; done) | (exfalso; simp at *; omega) | (exfalso; simp_all; done)
  ·skip
   have c58 := along58c cw cb (gs.map Gt.own) w l wa false false false hgl' hgw' (by rw [cchk_own]; exact hC)
   rw [cchk_own] at c58
   generalize cchk cw cb gs = eC at c52 c58 hC
   refine pc_walk pok Tryz.func6 chk6 ?_
   conv => whnf
   repeat' first | ((first | refine LookP.mk _ rfl ?_ | refine ShlP.mk _ (by first | (simp only [List.set, over, List.take, List.drop, List.append_eq, List.nil_append, List.cons_append, List.length]; rfl) | rfl) ?_ | refine And.intro (by first | (simp [h1]; done) | assumption | exact ⟨by kernel_rfl, rfl⟩ | decide | omega) ?_ | refine decF s20 ?_ | refine decF s130 ?_ | refine pc_use c39 ?_ | refine pc_head c16 ?_ | refine pc_head c40 ?_ | refine pc_head c24 ?_ | refine pc_use c18 ?_ | refine pc_use c17 ?_ | refine pc_use c52 ?_ | refine bneF he ?_ | refine beqF2 hC ?_ | refine beqT1 ?_ | refine pc_use c56 ?_ | refine pc_use c57 ?_ | refine pc_use c58 ?_ | refine pc_use (alikeE _) ?_ | refine pc_use c38n ?_ | refine pc_use c23 ?_ | refine pc_use c50 ?_ | refine pc_use c38 ?_ | refine pc_use awake_c ?_ | refine HpP.force ?_); conv => whnf)
   all_goals first | exact fin rfl | (exfalso; simp at ht; done) | (exfalso; simp at *; omega) | (exfalso; simp_all; done)
end Go.Tz
namespace Go.Tz
open Go Go.AL Go.Proofs Go.Ma
theorem measures6 (w : Int) (l : List Ps) (t : Bool) (n o cw cb : Int) (gs : List Gt) (ct : Bool) (wa : List Int) (u : Bool) : PC Pr GG 6 [stD w l t, iD n, iD o, circD cw cb gs ct, intsD wa u] (.bool true) := by
 by_cases h : l.length ≤ 20 ∧ greatB gs = false ∧ wa.length ≤ 130
 ·exact measures6a w l t n o cw cb gs ct wa u h.1 h.2.1 h.2.2
 ·have c39 := great39 (G := GG) cw cb gs ct
  generalize greatB gs = gr at c39 h
  refine pc_walk pok Tryz.func6 chk6 ?_
  conv => whnf
  repeat' first | (refine LookP.mk _ rfl ?_; conv => whnf) | (refine pc_useB c39 ?_) | (refine pc_use awake_c ?_; conv => whnf) | (intro t ht; cases t <;> conv => whnf)
  all_goals first | exact fin rfl | skip
  all_goals (exfalso; simp at *; simp_all; omega)
end Go.Tz
