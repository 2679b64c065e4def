import Derived.Test.YtehjjpbpdfnnfaaGreatDoorM09
namespace Go.Tz
open Go Go.AL Go.Proofs
theorem zbg {G : Nat → Option (List D)} {P : Program} {st : St} {o : Oper} {nm sz N : Nat} {t : Bool} {es : List (List D)} {H0 : AHeap} {nms : Nat → Prop} (h : StepOp G P st o (.sl nm sz 0 N N t) ((nm, some (dblk sz es)) :: H0) nms) (hN : N = es.length) :
  StepOp G P st o (.d (.sl es t)) (dels [nm] ((nm, some (dblk sz es)) :: H0)) nms := by
 intro C a hH hop hn
 obtain ⟨C', r, h1, h2, h3, h4, h5⟩ := h C a hH hop hn
 obtain ⟨C2, e1, e2, e3, g, tt, rr, q⟩ := zd3 [nm] h3
 have hHL : HRel G C' [(nm, some (dblk sz es))] := zdl h3 fun m bl h => by
  by_cases em : m = nm
  ·subst em; rw [zae] at h ⊢; exact h
  ·rw [zac _ _ em] at h; cases h
 have hAs : AsD [(nm, some (dblk sz es))] (.sl nm sz 0 N N t) (.sl es t) := zgl (zae nm _ []) hN
 refine ⟨C2, r, by rw [e1]; exact h1, ?_, g, h4.trans (tt.weaken fun m hm => (h4.names m hm).1), fun m hm => h5 m (e2 ▸ hm)⟩
 rcases h2 with ⟨x, rfl, hx⟩ | ⟨_, h⟩
 ·refine .inl ⟨x, rfl, .d _ _ ?_⟩
  have := zfy hHL (RO := C2.RO) rr (fun m bl j h1 h2 => by
   by_cases em : m = nm
   ·subst em; exact q m _ j (by simp) (zae _ _ _) h2
   ·rw [zac _ _ em] at h1; cases h1) hAs x hx
  rw [e1]; exact this
 ·cases h
noncomputable def rv (f : FuncId) (ds : List D) : D := match rn f ds with
 | some d => d
 | none => .any
theorem zky {f : FuncId} {ds : List D} (h : (rn f ds).isSome = true) : PC Pr GG f ds (rv f ds) := by
 obtain ⟨d, hd⟩ := Option.isSome_iff_exists.1 h
 have e : rv f ds = d := by unfold rv; rw [hd]
 rw [e]
 exact zjt hd
noncomputable def ops275 : Array Oper := (Tryz.f275.body.bind (findReg 4)).getD #[]
abbrev toK (q : Int × D) : D × D := (iD q.1, q.2)
theorem keysK : ∀ l : List (Int × D), keysD false (l.map toK) = some (l.map fun q => [q.1])
 | [] => rfl
 | q :: l => by
  have ih := keysK l
  simp only [List.map_cons, keysD, toK, keyD] at ih ⊢
  rw [ih]
theorem zoj {k : Int} : ∀ (l : List (Int × D)) (i : Nat), (∀ q, q ∈ l → q.1 ≠ k) → idxOf [k] (l.map fun q => [q.1]) i = none
 | [], _, _ => rfl
 | q :: l, i, h => by
  have : ([k] == [q.1]) = false := beq_eq_false_iff_ne.2 fun e => h q (by simp) (by simp at e; exact e.symm)
  simp only [List.map_cons, idxOf, this]
  exact zoj l (i + 1) fun q hq => h q (by simp [hq])
theorem zoi {k : Int} {v : D} : ∀ (l : List (Int × D)) (i : Nat), (k, v) ∈ l → (∀ q, q ∈ l → q.1 = k → q = (k, v)) → ∃ j, idxOf [k] (l.map fun q => [q.1]) i = some (i + j) ∧ (l.map toK)[j]? = some (iD k, v)
 | [], _, h, _ => by cases h
 | q :: l, i, h, hu => by
  by_cases e : q.1 = k
  ·have := hu q (by simp) e
   subst this
   exact ⟨0, by simp [idxOf], rfl⟩
  ·have h' : (k, v) ∈ l := by
    rcases List.mem_cons.1 h with q1 | q1
    ·subst q1; exact absurd rfl e
    ·exact q1
   obtain ⟨j, h1, h2⟩ := zoi l (i + 1) h' fun q hq => hu q (by simp [hq])
   have : ([k] == [q.1]) = false := beq_eq_false_iff_ne.2 fun e2 => e (by simp at e2; exact e2.symm)
   refine ⟨j + 1, ?_, by simpa using h2⟩
   simp only [List.map_cons, idxOf, this, h1]
   congr 1; omega
noncomputable def ins275 : List (Nat × Int × D) := [(2, 1, rv 278 [iD (2 : Int), .fn 279 [] []]), (12, 2, .sl [[.sl [nmD 0 0 0 0 0, unL 6 0] true], [.sl [unL 2 0, nmD 0 0 0 0 0] true]] true), (18, 3, rv 280 [.sl [unL 0 0, unL 4 0] true]), (26, 4, .sl [[.sl [unL 0 1, unL 0 1] true], [.sl [unL 0 1, unL 4 1] true]] true), (32, 5, rv 280 [.sl [unL 0 0, unL 2 0] true]), (38, 6, rv 280 [.sl [unL 0 0, unL 6 0] true]), (44, 7, rv 280 [.sl [unL 0 0, unL 1 0] true]), (50, 8, rv 280 [.sl [unL 0 0, unL 7 0] true]), (52, 9, rv 278 [iD (4 : Int), .fn 282 [] []]), (60, 10, rv 280 [.sl [unL 0 0, unL 0 0, unL 0 0, unL 4 0] true]), (62, 11, rv 278 [iD (4 : Int), .fn 283 [] []]), (64, 12, rv 278 [iD (8 : Int), .fn 284 [] []])]
theorem zln : ins275.map (·.1) = [2, 12, 18, 26, 32, 38, 44, 50, 52, 60, 62, 64] := rfl
theorem ins_kk : ins275.map (·.2.1) = [1, 2, 3, 4, 5, 6, 7, 8, 9, 10, 11, 12] := rfl
noncomputable def tv275 : List (Nat × Nat × AV) := [(1, 16, .d (rv 278 [iD (2 : Int), .fn 279 [] []])), (3, 17, .d (.agg (nmD 0 0 0 0 0))), (4, 18, .d (.fn 165 [] [])), (5, 19, .d (.agg (unL 6 0))), (6, 20, .d (.sl [nmD 0 0 0 0 0, unL 6 0] true)), (7, 21, .d (.fn 165 [] [])), (8, 22, .d (.agg (unL 2 0))), (9, 23, .d (.agg (nmD 0 0 0 0 0))), (10, 24, .d (.sl [unL 2 0, nmD 0 0 0 0 0] true)), (11, 25, .d (.sl [[.sl [nmD 0 0 0 0 0, unL 6 0] true], [.sl [unL 2 0, nmD 0 0 0 0 0] true]] true)), (13, 26, .d (.agg (unL 0 0))), (14, 27, .d (.fn 165 [] [])), (15, 28, .d (.agg (unL 4 0))), (16, 29, .d (.sl [unL 0 0, unL 4 0] true)), (17, 30, .d (rv 280 [.sl [unL 0 0, unL 4 0] true])), (19, 31, .d (.agg (unL 0 1))), (20, 32, .d (.agg (unL 0 1))), (21, 33, .d (.sl [unL 0 1, unL 0 1] true)), (22, 34, .d (.agg (unL 0 1))), (23, 35, .d (.agg (unL 4 1))), (24, 36, .d (.sl [unL 0 1, unL 4 1] true)), (25, 37, .d (.sl [[.sl [unL 0 1, unL 0 1] true], [.sl [unL 0 1, unL 4 1] true]] true)), (27, 38, .d (.agg (unL 0 0))), (28, 39, .d (.fn 165 [] [])), (29, 40, .d (.agg (unL 2 0))), (30, 41, .d (.sl [unL 0 0, unL 2 0] true)), (31, 42, .d (rv 280 [.sl [unL 0 0, unL 2 0] true])), (33, 43, .d (.agg (unL 0 0))), (34, 44, .d (.fn 165 [] [])), (35, 45, .d (.agg (unL 6 0))), (36, 46, .d (.sl [unL 0 0, unL 6 0] true)), (37, 47, .d (rv 280 [.sl [unL 0 0, unL 6 0] true])), (39, 48, .d (.agg (unL 0 0))), (40, 49, .d (.fn 165 [] [])), (41, 50, .d (.agg (unL 1 0))), (42, 51, .d (.sl [unL 0 0, unL 1 0] true)), (43, 52, .d (rv 280 [.sl [unL 0 0, unL 1 0] true])), (45, 53, .d (.agg (unL 0 0))), (46, 54, .d (.fn 165 [] [])), (47, 55, .d (.agg (unL 7 0))), (48, 56, .d (.sl [unL 0 0, unL 7 0] true)), (49, 57, .d (rv 280 [.sl [unL 0 0, unL 7 0] true])), (51, 58, .d (rv 278 [iD (4 : Int), .fn 282 [] []])), (53, 59, .d (.agg (unL 0 0))), (54, 60, .d (.agg (unL 0 0))), (55, 61, .d (.agg (unL 0 0))), (56, 62, .d (.fn 165 [] [])), (57, 63, .d (.agg (unL 4 0))), (58, 64, .d (.sl [unL 0 0, unL 0 0, unL 0 0, unL 4 0] true)), (59, 65, .d (rv 280 [.sl [unL 0 0, unL 0 0, unL 0 0, unL 4 0] true])), (61, 66, .d (rv 278 [iD (4 : Int), .fn 283 [] []])), (63, 67, .d (rv 278 [iD (8 : Int), .fn 284 [] []]))]
structure ZM (hs : List (Nat × Blk)) (base : Nat) (L : Nat → Bool) (s : St) : Prop where
 nx : base ≤ s.nx
 ho : ∀ p, p ∈ hs → s.heap.get p.1 = some p.2
 no : L 0 = false → sel ins275 L = []
 mp : L 0 = true → ∃ (X : Nat) (M : List (Int × D)), base ≤ X ∧ X < s.nx ∧ lk s.env 15 = .map X ∧ s.heap.get X = some (.map (M.map toK)) ∧ M.Perm (sel ins275 L)
 m65 : L 65 = true → lk s.env 68 = lk s.env 15
 m66 : L 66 = true → lk s.env 0 = lk s.env 15
 o : L 65 = true ∨ L 66 = true → L 0 = true
theorem zse {i : Nat} (h : i ∉ ins275.map (·.1)) : ∀ p, p ∈ ins275 → p.1 ≠ i := fun p hp e => h (List.mem_map.2 ⟨p, hp, e⟩)
theorem zm_put {hs : List (Nat × Blk)} {base : Nat} {L : Nat → Bool} {s : St} {i d n : Nat} {v : AV} {H : AHeap} (h : ZM hs base L s) (hi : i ∉ 0 :: 65 :: 66 :: ins275.map (·.1)) (hd : d ≠ 15 ∧ d ≠ 68 ∧ d ≠ 0) (hn : s.nx ≤ n) (hH : ∀ m, m < s.nx → H.get m = s.heap.get m) (hhs : ∀ p, p ∈ hs → p.1 < base) : ZM hs base (fun j => if j = i then true else L j) (({ env := s.env, heap := H, nx := n } : St).put (some d) v) := by
 simp only [List.mem_cons, not_or] at hi
 obtain ⟨i0, i65, i66, ii⟩ := hi
 have hnx := h.nx
 have es : sel ins275 (fun j => if j = i then true else L j) = sel ins275 L := zdy (zse ii)
 have lkd : ∀ t, t ≠ d → lk (({ env := s.env, heap := H, nx := n } : St).put (some d) v).env t = lk s.env t := fun t ht => zan _ _ ht
 refine ⟨by show base ≤ n; omega, fun p hp => (hH p.1 (by have := hhs p hp; omega)).trans (h.ho p hp), fun a => ?_, fun a => ?_, fun a => ?_, fun a => ?_, fun a => by simpa only [if_neg (Ne.symm i0)] using h.o (by simpa only [if_neg (Ne.symm i65), if_neg (Ne.symm i66)] using a)⟩
 ·rw [es]; exact h.no (by simpa only [if_neg (Ne.symm i0)] using a)
 ·obtain ⟨X, M, x1, x2, x3, x4, x5⟩ := h.mp (by simpa only [if_neg (Ne.symm i0)] using a)
  exact ⟨X, M, x1, by show X < n; omega, (lkd 15 (Ne.symm hd.1)).trans x3, (hH X x2).trans x4, by rw [es]; exact x5⟩
 ·rw [lkd 68 (Ne.symm hd.2.1), lkd 15 (Ne.symm hd.1)]; exact h.m65 (by simpa only [if_neg (Ne.symm i65)] using a)
 ·rw [lkd 0 (Ne.symm hd.2.2), lkd 15 (Ne.symm hd.1)]; exact h.m66 (by simpa only [if_neg (Ne.symm i66)] using a)
theorem ins_two : (ins275.map (·.1)).Nodup := by rw [zln]; decide
theorem zsf : (ins275.map (·.2.1)).Nodup := by rw [ins_kk]; decide
theorem zg1 {α β : Type} {f : α → β} : ∀ {l : List α}, (l.map f).Nodup → ∀ {a b : α}, a ∈ l → b ∈ l → f a = f b → a = b
 | [], _, _, _, h, _, _ => by cases h
 | x :: l, hn, a, b, ha, hb, e => by
  rw [List.map_cons, List.nodup_cons] at hn
  rcases List.mem_cons.1 ha with ha' | ha' <;> rcases List.mem_cons.1 hb with hb' | hb'
  ·rw [ha', hb']
  ·exact absurd (List.mem_map.2 ⟨b, hb', by rw [← e, ha']⟩) hn.1
  ·exact absurd (List.mem_map.2 ⟨a, ha', by rw [e, hb']⟩) hn.1
  ·exact zg1 hn.2 ha' hb' e
theorem tb33 : TBuild Pr 33 [iD 0, iD 0, iD 0, iD 0, iD 0] [(0, 1), (1, 1), (2, 1), (3, 1), (4, 1)] := zgr pok.tab (ty := ⟨true, 5, 40, .agg [iD 0, iD 0, iD 0, iD 0, iD 0], .st [(0, 1, false), (1, 1, false), (2, 1, false), (3, 1, false), (4, 1, false)]⟩) rfl rfl rfl
theorem m281 : PC Pr GG 281 [] (.agg (unL 0 0)) := zcd (by kernel_rfl)
theorem zde {S : Nat} {l : List (List D)} (h : (l.all fun el => Nat.beq el.length S) = true) : ∀ el, el ∈ (l.map fun el => el.map AV.d) → el.length = S := fun el hm => by
 obtain ⟨x, hx, rfl⟩ := List.mem_map.1 hm
 rw [List.length_map]
 exact Nat.eq_of_beq_eq_true (List.all_eq_true.1 h x hx)
theorem st_putn {tv : List (Nat × Nat × AV)} {ks : List (Nat × AV)} {Z : (Nat → Bool) → St → Prop} {L : Nat → Bool} {s : St} {i d n : Nat} {v : AV} {H : AHeap} (h : ST tv ks Z L s) (hks : ∀ p, p ∈ ks → p.1 ≠ d) (htv : AllP (fun p : Nat × Nat × AV => (p.1 = i ∧ p.2 = (d, v)) ∨ (p.1 ≠ i ∧ p.2.1 ≠ d)) tv)
  (hz : Z (fun j => if j = i then true else L j) (({ env := s.env, heap := H, nx := n } : St).put (some d) v)) : ST tv ks Z (fun j => if j = i then true else L j) (({ env := s.env, heap := H, nx := n } : St).put (some d) v) := by
 refine ⟨fun p hp => (zan _ _ (hks p hp)).trans (h.kp p hp), fun p hp hl => ?_, hz⟩
 rcases AllP.mem htv p hp with ⟨_, e⟩ | ⟨e1, e2⟩
 ·rw [e]; exact zap _ _ _
 ·simp only [if_neg e1] at hl
  exact (zan _ _ e2).trans (h.tv p hp hl)
theorem keyOk3 : KeyOk Pr 3 false 1 := ((pok.tab.get (t := 309) rfl).2).2
theorem und309 : Pr.underlying 309 = some (.map 3 307) := ((pok.tab.get (t := 309) rfl).2).1
theorem st_mono {tv : List (Nat × Nat × AV)} {ks : List (Nat × AV)} {Z : (Nat → Bool) → St → Prop} {L : Nat → Bool} {s : St} {i n : Nat} {H : AHeap} (h : ST tv ks Z L s) (htv : ∀ p, p ∈ tv → p.1 ≠ i) (hz : Z (fun j => if j = i then true else L j) { env := s.env, heap := H, nx := n }) : ST tv ks Z (fun j => if j = i then true else L j) { env := s.env, heap := H, nx := n } :=
 ⟨h.kp, fun p hp hl => h.tv p hp (by simpa only [if_neg (htv p hp)] using hl), hz⟩
theorem tv_ks : tv275.map (·.1) = [1, 3, 4, 5, 6, 7, 8, 9, 10, 11, 13, 14, 15, 16, 17, 19, 20, 21, 22, 23, 24, 25, 27, 28, 29, 30, 31, 33, 34, 35, 36, 37, 39, 40, 41, 42, 43, 45, 46, 47, 48, 49, 51, 53, 54, 55, 56, 57, 58, 59, 61, 63] := rfl
theorem tv_ds : tv275.map (·.2.1) = [16, 17, 18, 19, 20, 21, 22, 23, 24, 25, 26, 27, 28, 29, 30, 31, 32, 33, 34, 35, 36, 37, 38, 39, 40, 41, 42, 43, 44, 45, 46, 47, 48, 49, 50, 51, 52, 53, 54, 55, 56, 57, 58, 59, 60, 61, 62, 63, 64, 65, 66, 67] := rfl
theorem tv_at {q i d : Nat} {v : AV} (h : tv275[q]? = some (i, d, v)) : (5 ≤ d ∧ d ≠ 15 ∧ d ≠ 68 ∧ d ≠ 0) ∧ i ∉ [0, 65, 66, 2, 12, 18, 26, 32, 38, 44, 50, 52, 60, 62, 64] ∧ AllP (fun p : Nat × Nat × AV => (p.1 = i ∧ p.2 = (d, v)) ∨ (p.1 ≠ i ∧ p.2.1 ≠ d)) tv275 := by
 have hm := List.mem_of_getElem? h
 have h1 : i ∈ tv275.map (·.1) := List.mem_map.2 ⟨_, hm, rfl⟩
 have h2 : d ∈ tv275.map (·.2.1) := List.mem_map.2 ⟨_, hm, rfl⟩
 rw [tv_ks] at h1
 rw [tv_ds] at h2
 have n1 : (tv275.map (·.1)).Nodup := by rw [tv_ks]; decide
 have n2 : (tv275.map (·.2.1)).Nodup := by rw [tv_ds]; decide
 refine ⟨(by decide : ∀ d ∈ [16, 17, 18, 19, 20, 21, 22, 23, 24, 25, 26, 27, 28, 29, 30, 31, 32, 33, 34, 35, 36, 37, 38, 39, 40, 41, 42, 43, 44, 45, 46, 47, 48, 49, 50, 51, 52, 53, 54, 55, 56, 57, 58, 59, 60, 61, 62, 63, 64, 65, 66, 67], 5 ≤ d ∧ d ≠ 15 ∧ d ≠ 68 ∧ d ≠ 0) d h2, (by decide : ∀ i ∈ [1, 3, 4, 5, 6, 7, 8, 9, 10, 11, 13, 14, 15, 16, 17, 19, 20, 21, 22, 23, 24, 25, 27, 28, 29, 30, 31, 33, 34, 35, 36, 37, 39, 40, 41, 42, 43, 45, 46, 47, 48, 49, 51, 53, 54, 55, 56, 57, 58, 59, 61, 63], i ∉ [0, 65, 66, 2, 12, 18, 26, 32, 38, 44, 50, 52, 60, 62, 64]) i h1, zyk fun p hp => ?_⟩
 by_cases e : p.1 = i
 ·exact .inl ⟨e, by rw [zg1 n1 hp hm e]⟩
 ·exact .inr ⟨e, fun e2 => e (by rw [zg1 n2 hp hm e2])⟩
theorem zey {r : Option Nat} {hs : List (Nat × Blk)} {base : Nat} {L : Nat → Bool} {s : St} {o : Oper} {i t : Nat} {k : Int} {v : D} (hS : ST tv275 [(2, .ptr 0 5 0 0), (4, .ptr 1 5 0 0), (1, .d (.fn 165 [] []))] (ZM hs base) L s) (hL : L i = false) (h0 : L 0 = true) (ho : o.op = .insert 309 (.tmp 15) (.const (.int .i64 k)) (.tmp t)) (hd : o.dst = none) (e2 : lk s.env t = .d v) (hm : (i, k, v) ∈ ins275)
  (hi : i ∉ 0 :: 65 :: 66 :: tv275.map (·.1)) (hhs : ∀ p, p ∈ hs → p.1 < base) : OpWP r Pr GK Tryz.f275.ntmps 0 o s [] fun s' => ST tv275 [(2, .ptr 0 5 0 0), (4, .ptr 1 5 0 0), (1, .d (.fn 165 [] []))] (ZM hs base) (fun j => if j = i then true else L j) s' := by
 simp only [List.mem_cons, not_or] at hi
 obtain ⟨i0, i65, i66, ii⟩ := hi
 obtain ⟨X, M, x1, x2, x3, x4, x5⟩ := hS.z.mp h0
 have hnone : idxOf [k] (M.map fun q => [q.1]) 0 = none := zoj M 0 fun q hq e => by
  have hq' : q ∈ sel ins275 L := x5.subset hq
  unfold sel at hq'
  obtain ⟨p, hp, rfl⟩ := List.mem_map.1 hq'
  obtain ⟨p1, p2⟩ := List.mem_filter.1 hp
  have : p = (i, k, v) := zg1 zsf p1 hm e
  rw [this, hL] at p2; cases p2
 have hst := zc2 (G := GK) (st := s) (S := 1) (nm := X) (d := iD k) (y := v) (es := M.map toK) (kss := M.map fun q => [q.1]) (.inr ho) und309 keyOk3 x3 x4 rfl rfl e2 rfl (keysK M) (fun ks h => by obtain ⟨q, _, rfl⟩ := List.mem_map.1 h; rfl) rfl
 rw [hnone] at hst
 refine zax (k := 0) (fun c hc => by rw [ho] at hc; cases hc) (hst.names fun _ h => h.elim) (by rw [hd]; rfl) ?_
 rw [hd]
 refine st_mono hS (fun p hp e => ii (List.mem_map.2 ⟨p, hp, e⟩)) ⟨hS.z.nx, fun p hp => (zac _ _ (by have := hhs p hp; omega)).trans (hS.z.ho p hp), fun a => ?_, fun _ => ⟨X, M ++ [(k, v)], x1, x2, x3, ?_, ?_⟩, fun a => hS.z.m65 (by simpa only [if_neg (Ne.symm i65)] using a), fun a => hS.z.m66 (by simpa only [if_neg (Ne.symm i66)] using a), fun _ => by simpa only [if_neg (Ne.symm i0)] using h0⟩
 ·simp only [if_neg (Ne.symm i0)] at a
  rw [h0] at a; cases a
 ·show AHeap.get ((X, _) :: s.heap) X = _
  rw [zae, List.map_append]; rfl
 ·exact (x5.append_right [(k, v)]).trans (zpq hL ins275 ins_two hm).symm
theorem fin65 {L : Nat → Bool} : (∀ i, i < 67 → L i = true) → sel ins275 L = ins275.map (·.2) := fun h => by
 unfold sel
 rw [List.filter_eq_self.2 fun p hp => ?_]
 have : p.1 ∈ ins275.map (·.1) := List.mem_map.2 ⟨p, hp, rfl⟩
 rw [zln] at this
 refine h p.1 ?_
 have : ∀ x ∈ [2, 12, 18, 26, 32, 38, 44, 50, 52, 60, 62, 64], x < 67 := by decide
 exact this _ ‹_›
abbrev zqa : List (Nat × Blk) := [(0, Blk.arr 5 [(unL 0 1).map AV.d]), (1, Blk.arr 5 [(unL 4 1).map AV.d])]
theorem zg6 : ∀ p, p ∈ zqa → p.1 < 2 := fun p hp => by
 rcases List.mem_cons.1 hp with rfl | hp
 ·decide
 ·rcases List.mem_cons.1 hp with rfl | hp
  ·decide
  ·cases hp
theorem not_in {i : Nat} (h : i ∉ [0, 65, 66, 2, 12, 18, 26, 32, 38, 44, 50, 52, 60, 62, 64]) : i ∉ 0 :: 65 :: 66 :: ins275.map (·.1) := by rw [zln]; exact h
theorem zex {i : Nat} (h : i ∉ [0, 65, 66, 1, 3, 4, 5, 6, 7, 8, 9, 10, 11, 13, 14, 15, 16, 17, 19, 20, 21, 22, 23, 24, 25, 27, 28, 29, 30, 31, 33, 34, 35, 36, 37, 39, 40, 41, 42, 43, 45, 46, 47, 48, 49, 51, 53, 54, 55, 56, 57, 58, 59, 61, 63]) : i ∉ 0 :: 65 :: 66 :: tv275.map (·.1) := by rw [tv_ks]; exact h
set_option maxHeartbeats 4000000 in
theorem reg275 {st : St} (S0 : ST tv275 [(2, .ptr 0 5 0 0), (4, .ptr 1 5 0 0), (1, .d (.fn 165 [] []))] (ZM zqa 2) (fun _ => false) st) {k : Exit → St → Prop}
  (hk : ∀ L s', ST tv275 [(2, .ptr 0 5 0 0), (4, .ptr 1 5 0 0), (1, .d (.fn 165 [] []))] (ZM zqa 2) L s' → (∀ i, i < 67 → L i = true) → ∃ st'', Sub GK 0 [] s' st'' ∧ k .normal st'') : RegVC Pr GK Tryz.f275.ntmps 0 [] 4 ops275 st k := by
 refine ⟨fun r => znd pok.mixed (zi5 (by kernel_rfl)) (ST tv275 [(2, .ptr 0 5 0 0), (4, .ptr 1 5 0 0), (1, .d (.fn 165 [] []))] (ZM zqa 2)) S0 ?_ ?_⟩
 ·intro L s i op hS hL ho hall
  have hi : i < 67 := (Array.getElem?_eq_some_iff.1 ho).1
  have T33 := pok.tab.get (t := 33) rfl
  have T31 := pok.tab.get (t := 31) rfl
  have T307 := pok.tab.get (t := 307) rfl
  have htv : ∀ (q j d : Nat) (v : AV), tv275[q]? = some (j, d, v) → L j = true → lk s.env d = v := fun q j d v hm hl => hS.tv (j, d, v) (List.mem_of_getElem? hm) hl
  have kp2 : lk s.env 2 = .ptr 0 5 0 0 := hS.kp (2, .ptr 0 5 0 0) (by simp)
  have kp4 : lk s.env 4 = .ptr 1 5 0 0 := hS.kp (4, .ptr 1 5 0 0) (by simp)
  have kp1 : lk s.env 1 = .d (.fn 165 [] []) := hS.kp (1, .d (.fn 165 [] [])) (by simp)
  have hks : ∀ p : Nat × AV, p ∈ [(2, AV.ptr 0 5 0 0), (4, .ptr 1 5 0 0), (1, .d (.fn 165 [] []))] → p.1 < 5 := fun p hp => by
   rcases List.mem_cons.1 hp with rfl | hp
   ·decide
   ·rcases List.mem_cons.1 hp with rfl | hp
    ·decide
    ·rcases List.mem_cons.1 hp with rfl | hp
     ·decide
     ·cases hp
  have put : ∀ {q i d n : Nat} {v : AV} {H : AHeap}, tv275[q]? = some (i, d, v) → s.nx ≤ n → (∀ m, m < s.nx → H.get m = s.heap.get m) → ST tv275 [(2, .ptr 0 5 0 0), (4, .ptr 1 5 0 0), (1, .d (.fn 165 [] []))] (ZM zqa 2) (fun j => if j = i then true else L j) (({ env := s.env, heap := H, nx := n } : St).put (some d) v) := fun h hn hH => by
   obtain ⟨h5, hi, ht⟩ := tv_at h
   exact zvd hS hks h5.1 ht (zm_put hS.z (not_in hi) h5.2 hn hH zg6)
  have call : ∀ {q i d : Nat} {f : FuncId} {ds : List D} {v : D}, tv275[q]? = some (i, d, .d v) → PC Pr GK f ds v → IsFn Pr f ∧ ACall Pr GK f (ds.map .d) s.heap s.nx fun v H' nx' => ST tv275 [(2, .ptr 0 5 0 0), (4, .ptr 1 5 0 0), (1, .d (.fn 165 [] []))] (ZM zqa 2) (fun j => if j = i then true else L j) (({ env := s.env, heap := H', nx := nx' } : St).put (some d) v) := fun h hc => by
   have h := zaj (H := s.heap) (nx := s.nx) hc (k := fun v H' nx' => ST tv275 [(2, .ptr 0 5 0 0), (4, .ptr 1 5 0 0), (1, .d (.fn 165 [] []))] (ZM zqa 2) (fun j => if j = _ then true else L j) (({ env := s.env, heap := H', nx := nx' } : St).put (some _) v)) (put h (Nat.le_refl _) fun _ _ => rfl)
   cases h with
   | mk h1 h2 => exact ⟨h1, h2⟩
  have hcs : i = 0 ∨ i = 1 ∨ i = 2 ∨ i = 3 ∨ i = 4 ∨ i = 5 ∨ i = 6 ∨ i = 7 ∨ i = 8 ∨ i = 9 ∨ i = 10 ∨ i = 11 ∨ i = 12 ∨ i = 13 ∨ i = 14 ∨ i = 15 ∨ i = 16 ∨ i = 17 ∨ i = 18 ∨ i = 19 ∨ i = 20 ∨ i = 21 ∨ i = 22 ∨ i = 23 ∨ i = 24 ∨ i = 25 ∨ i = 26 ∨ i = 27 ∨ i = 28 ∨ i = 29 ∨ i = 30 ∨ i = 31 ∨ i = 32 ∨ i = 33 ∨ i = 34 ∨ i = 35 ∨ i = 36 ∨ i = 37 ∨ i = 38 ∨ i = 39 ∨ i = 40 ∨ i = 41 ∨ i = 42 ∨ i = 43 ∨ i = 44 ∨ i = 45 ∨ i = 46 ∨ i = 47 ∨ i = 48 ∨ i = 49 ∨ i = 50 ∨ i = 51 ∨ i = 52 ∨ i = 53 ∨ i = 54 ∨ i = 55 ∨ i = 56 ∨ i = 57 ∨ i = 58 ∨ i = 59 ∨ i = 60 ∨ i = 61 ∨ i = 62 ∨ i = 63 ∨ i = 64 ∨ i = 65 ∨ i = 66 := by omega
  rcases hcs with rfl | rfl | rfl | rfl | rfl | rfl | rfl | rfl | rfl | rfl | rfl | rfl | rfl | rfl | rfl | rfl | rfl | rfl | rfl | rfl | rfl | rfl | rfl | rfl | rfl | rfl | rfl | rfl | rfl | rfl | rfl | rfl | rfl | rfl | rfl | rfl | rfl | rfl | rfl | rfl | rfl | rfl | rfl | rfl | rfl | rfl | rfl | rfl | rfl | rfl | rfl | rfl | rfl | rfl | rfl | rfl | rfl | rfl | rfl | rfl | rfl | rfl | rfl | rfl | rfl | rfl | rfl
  all_goals
   have ho := Option.some.inj (show some _ = some op from ho)
   subst ho
   refine ⟨rfl, ?_⟩
  ·refine zax (k := 1) (fun c hc => by cases hc) ((ze1 (G := GK) (nm := s.nx) rfl).names fun m hm => by subst hm; omega) rfl ?_
   have hnx := hS.z.nx
   refine zvd (i := 0) (d := 15) hS hks (by decide) (by repeat' first | exact trivial | (refine ⟨by first | exact .inl ⟨rfl, rfl⟩ | exact .inr ⟨Nat.ne_of_beq_eq_false rfl, Nat.ne_of_beq_eq_false rfl⟩, ?_⟩)) ⟨by show 2 ≤ s.nx + 1; omega, fun p hp => (zac _ _ (by have := zg6 p hp; omega)).trans (hS.z.ho p hp), fun a => (by simp at a), fun _ => ⟨s.nx, [], hnx, by show s.nx < s.nx + 1; omega, zap _ _ _, zae _ _ _, ?_⟩, fun a => ?_, fun a => ?_, fun _ => rfl⟩
   ·rw [zdy (zse (by rw [zln]; decide)), hS.z.no hL]
   ·have := hS.z.o (.inl (by simpa using a)); rw [hL] at this; cases this
   ·have := hS.z.o (.inr (by simpa using a)); rw [hL] at this; cases this
  ·obtain ⟨hf, hc⟩ := call (q := 0) rfl (up (zky (f := 278) (ds := [iD (2 : Int), .fn 279 [] []]) (by kernel_rfl)))
   exact zat (f := 278) (fi := []) (ca := []) rfl rfl hf rfl rfl hc
  ·exact zey hS hL (hall ⟨0, .data⟩ (Array.mem_of_getElem? (i := 0) rfl) rfl) rfl rfl (htv 0 1 16 _ rfl (hall ⟨1, .data⟩ (Array.mem_of_getElem? (i := 1) rfl) rfl)) (List.mem_of_getElem? (i := 0) rfl) (zex (by decide)) zg6
  ·exact zam (fun c h => by cases h) (zed (l := [.d (iD 0), .d (iD 0), .d (iD 0), .d (iD 0), .d (iD 0)]) rfl tb33 rfl) rfl (put (q := 1) rfl (Nat.le_refl _) fun _ _ => rfl)
  ·exact zam (fun c h => by cases h) (zbl rfl kp1) rfl (put (q := 2) rfl (Nat.le_refl _) fun _ _ => rfl)
  ·have q := (htv 2 4 18 _ rfl (hall ⟨4, .data⟩ (Array.mem_of_getElem? (i := 0) rfl) rfl))
   obtain ⟨hf, hc⟩ := call (q := 3) rfl (up (zcp (k := 6) (by decide)))
   exact zat (f := 165) (fi := []) (ca := []) rfl (by show fnOf (lk s.env 18) = _; rw [q]; rfl) hf rfl rfl hc
  ·have hnx := hS.z.nx
   have q17 := (htv 1 3 17 _ rfl (hall ⟨3, .data⟩ (Array.mem_of_getElem? (i := 0) rfl) rfl))
   have q19 := (htv 3 5 19 _ rfl (hall ⟨5, .data⟩ (Array.mem_of_getElem? (i := 1) rfl) rfl))
   refine zax (k := 1) (fun c hc => by cases hc) ((zbg (nm := s.nx) (es := [nmD 0 0 0 0 0, unL 6 0]) (zas (G := GK) (len := 2) (ps := #[(0, .tmp 17), (1, .tmp 19)]) (nm := s.nx) (zs := [.d (iD 0), .d (iD 0), .d (iD 0), .d (iD 0), .d (iD 0)]) (els := ([nmD 0 0 0 0 0, unL 6 0] : List (List D)).map fun el => el.map AV.d) rfl ⟨T31.2, T33.1⟩ rfl rfl (by show fillA _ _ [(0, lk s.env 17), (1, lk s.env 19)] = _; rw [q17, q19]; rfl) (zde rfl) rfl (Nat.le_of_ble_eq_true rfl)) rfl).names fun m hm => by subst hm; omega) rfl ?_
   exact put (q := 4) rfl (Nat.le_succ _) fun m hm => by show AHeap.get (AHeap.del _ _) m = _; rw [za8, if_neg (by omega), zac _ _ (by omega)]
  ·exact zam (fun c h => by cases h) (zbl rfl kp1) rfl (put (q := 5) rfl (Nat.le_refl _) fun _ _ => rfl)
  ·have q := (htv 5 7 21 _ rfl (hall ⟨7, .data⟩ (Array.mem_of_getElem? (i := 0) rfl) rfl))
   obtain ⟨hf, hc⟩ := call (q := 6) rfl (up (zcp (k := 2) (by decide)))
   exact zat (f := 165) (fi := []) (ca := []) rfl (by show fnOf (lk s.env 21) = _; rw [q]; rfl) hf rfl rfl hc
  ·exact zam (fun c h => by cases h) (zed (l := [.d (iD 0), .d (iD 0), .d (iD 0), .d (iD 0), .d (iD 0)]) rfl tb33 rfl) rfl (put (q := 7) rfl (Nat.le_refl _) fun _ _ => rfl)
  ·have hnx := hS.z.nx
   have q22 := (htv 6 8 22 _ rfl (hall ⟨8, .data⟩ (Array.mem_of_getElem? (i := 0) rfl) rfl))
   have q23 := (htv 7 9 23 _ rfl (hall ⟨9, .data⟩ (Array.mem_of_getElem? (i := 1) rfl) rfl))
   refine zax (k := 1) (fun c hc => by cases hc) ((zbg (nm := s.nx) (es := [unL 2 0, nmD 0 0 0 0 0]) (zas (G := GK) (len := 2) (ps := #[(0, .tmp 22), (1, .tmp 23)]) (nm := s.nx) (zs := [.d (iD 0), .d (iD 0), .d (iD 0), .d (iD 0), .d (iD 0)]) (els := ([unL 2 0, nmD 0 0 0 0 0] : List (List D)).map fun el => el.map AV.d) rfl ⟨T31.2, T33.1⟩ rfl rfl (by show fillA _ _ [(0, lk s.env 22), (1, lk s.env 23)] = _; rw [q22, q23]; rfl) (zde rfl) rfl (Nat.le_of_ble_eq_true rfl)) rfl).names fun m hm => by subst hm; omega) rfl ?_
   exact put (q := 8) rfl (Nat.le_succ _) fun m hm => by show AHeap.get (AHeap.del _ _) m = _; rw [za8, if_neg (by omega), zac _ _ (by omega)]
  ·have hnx := hS.z.nx
   have q20 := (htv 4 6 20 _ rfl (hall ⟨6, .data⟩ (Array.mem_of_getElem? (i := 0) rfl) rfl))
   have q24 := (htv 8 10 24 _ rfl (hall ⟨10, .data⟩ (Array.mem_of_getElem? (i := 1) rfl) rfl))
   refine zax (k := 1) (fun c hc => by cases hc) ((zbg (nm := s.nx) (es := [[.sl [nmD 0 0 0 0 0, unL 6 0] true], [.sl [unL 2 0, nmD 0 0 0 0 0] true]]) (zas (G := GK) (len := 2) (ps := #[(0, .tmp 20), (1, .tmp 24)]) (nm := s.nx) (zs := [.d (.sl [] true)]) (els := ([[.sl [nmD 0 0 0 0 0, unL 6 0] true], [.sl [unL 2 0, nmD 0 0 0 0 0] true]] : List (List D)).map fun el => el.map AV.d) rfl ⟨T307.2, T31.1⟩ rfl rfl (by show fillA _ _ [(0, lk s.env 20), (1, lk s.env 24)] = _; rw [q20, q24]; rfl) (zde rfl) rfl (Nat.le_of_ble_eq_true rfl)) rfl).names fun m hm => by subst hm; omega) rfl ?_
   exact put (q := 9) rfl (Nat.le_succ _) fun m hm => by show AHeap.get (AHeap.del _ _) m = _; rw [za8, if_neg (by omega), zac _ _ (by omega)]
  ·exact zey hS hL (hall ⟨0, .data⟩ (Array.mem_of_getElem? (i := 0) rfl) rfl) rfl rfl (htv 9 11 25 _ rfl (hall ⟨11, .data⟩ (Array.mem_of_getElem? (i := 1) rfl) rfl)) (List.mem_of_getElem? (i := 1) rfl) (zex (by decide)) zg6
  ·obtain ⟨hf, hc⟩ := call (q := 10) rfl (up m281)
   exact zat (f := 281) (fi := []) (ca := []) rfl rfl hf rfl rfl hc
  ·exact zam (fun c h => by cases h) (zbl rfl kp1) rfl (put (q := 11) rfl (Nat.le_refl _) fun _ _ => rfl)
  ·have q := (htv 11 14 27 _ rfl (hall ⟨14, .data⟩ (Array.mem_of_getElem? (i := 0) rfl) rfl))
   obtain ⟨hf, hc⟩ := call (q := 12) rfl (up (zcp (k := 4) (by decide)))
   exact zat (f := 165) (fi := []) (ca := []) rfl (by show fnOf (lk s.env 27) = _; rw [q]; rfl) hf rfl rfl hc
  ·have hnx := hS.z.nx
   have q26 := (htv 10 13 26 _ rfl (hall ⟨13, .data⟩ (Array.mem_of_getElem? (i := 0) rfl) rfl))
   have q28 := (htv 12 15 28 _ rfl (hall ⟨15, .data⟩ (Array.mem_of_getElem? (i := 1) rfl) rfl))
   refine zax (k := 1) (fun c hc => by cases hc) ((zbg (nm := s.nx) (es := [unL 0 0, unL 4 0]) (zas (G := GK) (len := 2) (ps := #[(0, .tmp 26), (1, .tmp 28)]) (nm := s.nx) (zs := [.d (iD 0), .d (iD 0), .d (iD 0), .d (iD 0), .d (iD 0)]) (els := ([unL 0 0, unL 4 0] : List (List D)).map fun el => el.map AV.d) rfl ⟨T31.2, T33.1⟩ rfl rfl (by show fillA _ _ [(0, lk s.env 26), (1, lk s.env 28)] = _; rw [q26, q28]; rfl) (zde rfl) rfl (Nat.le_of_ble_eq_true rfl)) rfl).names fun m hm => by subst hm; omega) rfl ?_
   exact put (q := 13) rfl (Nat.le_succ _) fun m hm => by show AHeap.get (AHeap.del _ _) m = _; rw [za8, if_neg (by omega), zac _ _ (by omega)]
  ·have q := (htv 13 16 29 _ rfl (hall ⟨16, .data⟩ (Array.mem_of_getElem? (i := 0) rfl) rfl))
   obtain ⟨hf, hc⟩ := call (q := 14) rfl (up (zky (f := 280) (ds := [.sl [unL 0 0, unL 4 0] true]) (by kernel_rfl)))
   exact zat (f := 280) (fi := []) (ca := []) rfl rfl hf (by show [] ++ [lk s.env 29] ++ [] = _; rw [q]; rfl) rfl hc
  ·exact zey hS hL (hall ⟨0, .data⟩ (Array.mem_of_getElem? (i := 0) rfl) rfl) rfl rfl (htv 14 17 30 _ rfl (hall ⟨17, .data⟩ (Array.mem_of_getElem? (i := 1) rfl) rfl)) (List.mem_of_getElem? (i := 2) rfl) (zex (by decide)) zg6
  ·exact zam (fun c h => by cases h) (zc8 rfl T33.tok (fun h => by cases h) kp2 (hS.z.ho (0, Blk.arr 5 [(unL 0 1).map AV.d]) (by simp)) rfl rfl rfl) rfl (put (q := 15) rfl (Nat.le_refl _) fun _ _ => rfl)
  ·exact zam (fun c h => by cases h) (zc8 rfl T33.tok (fun h => by cases h) kp2 (hS.z.ho (0, Blk.arr 5 [(unL 0 1).map AV.d]) (by simp)) rfl rfl rfl) rfl (put (q := 16) rfl (Nat.le_refl _) fun _ _ => rfl)
  ·have hnx := hS.z.nx
   have q31 := (htv 15 19 31 _ rfl (hall ⟨19, .data⟩ (Array.mem_of_getElem? (i := 0) rfl) rfl))
   have q32 := (htv 16 20 32 _ rfl (hall ⟨20, .data⟩ (Array.mem_of_getElem? (i := 1) rfl) rfl))
   refine zax (k := 1) (fun c hc => by cases hc) ((zbg (nm := s.nx) (es := [unL 0 1, unL 0 1]) (zas (G := GK) (len := 2) (ps := #[(0, .tmp 31), (1, .tmp 32)]) (nm := s.nx) (zs := [.d (iD 0), .d (iD 0), .d (iD 0), .d (iD 0), .d (iD 0)]) (els := ([unL 0 1, unL 0 1] : List (List D)).map fun el => el.map AV.d) rfl ⟨T31.2, T33.1⟩ rfl rfl (by show fillA _ _ [(0, lk s.env 31), (1, lk s.env 32)] = _; rw [q31, q32]; rfl) (zde rfl) rfl (Nat.le_of_ble_eq_true rfl)) rfl).names fun m hm => by subst hm; omega) rfl ?_
   exact put (q := 17) rfl (Nat.le_succ _) fun m hm => by show AHeap.get (AHeap.del _ _) m = _; rw [za8, if_neg (by omega), zac _ _ (by omega)]
  ·exact zam (fun c h => by cases h) (zc8 rfl T33.tok (fun h => by cases h) kp2 (hS.z.ho (0, Blk.arr 5 [(unL 0 1).map AV.d]) (by simp)) rfl rfl rfl) rfl (put (q := 18) rfl (Nat.le_refl _) fun _ _ => rfl)
  ·exact zam (fun c h => by cases h) (zc8 rfl T33.tok (fun h => by cases h) kp4 (hS.z.ho (1, Blk.arr 5 [(unL 4 1).map AV.d]) (by simp)) rfl rfl rfl) rfl (put (q := 19) rfl (Nat.le_refl _) fun _ _ => rfl)
  ·have hnx := hS.z.nx
   have q34 := (htv 18 22 34 _ rfl (hall ⟨22, .data⟩ (Array.mem_of_getElem? (i := 0) rfl) rfl))
   have q35 := (htv 19 23 35 _ rfl (hall ⟨23, .data⟩ (Array.mem_of_getElem? (i := 1) rfl) rfl))
   refine zax (k := 1) (fun c hc => by cases hc) ((zbg (nm := s.nx) (es := [unL 0 1, unL 4 1]) (zas (G := GK) (len := 2) (ps := #[(0, .tmp 34), (1, .tmp 35)]) (nm := s.nx) (zs := [.d (iD 0), .d (iD 0), .d (iD 0), .d (iD 0), .d (iD 0)]) (els := ([unL 0 1, unL 4 1] : List (List D)).map fun el => el.map AV.d) rfl ⟨T31.2, T33.1⟩ rfl rfl (by show fillA _ _ [(0, lk s.env 34), (1, lk s.env 35)] = _; rw [q34, q35]; rfl) (zde rfl) rfl (Nat.le_of_ble_eq_true rfl)) rfl).names fun m hm => by subst hm; omega) rfl ?_
   exact put (q := 20) rfl (Nat.le_succ _) fun m hm => by show AHeap.get (AHeap.del _ _) m = _; rw [za8, if_neg (by omega), zac _ _ (by omega)]
  ·have hnx := hS.z.nx
   have q33 := (htv 17 21 33 _ rfl (hall ⟨21, .data⟩ (Array.mem_of_getElem? (i := 0) rfl) rfl))
   have q36 := (htv 20 24 36 _ rfl (hall ⟨24, .data⟩ (Array.mem_of_getElem? (i := 1) rfl) rfl))
   refine zax (k := 1) (fun c hc => by cases hc) ((zbg (nm := s.nx) (es := [[.sl [unL 0 1, unL 0 1] true], [.sl [unL 0 1, unL 4 1] true]]) (zas (G := GK) (len := 2) (ps := #[(0, .tmp 33), (1, .tmp 36)]) (nm := s.nx) (zs := [.d (.sl [] true)]) (els := ([[.sl [unL 0 1, unL 0 1] true], [.sl [unL 0 1, unL 4 1] true]] : List (List D)).map fun el => el.map AV.d) rfl ⟨T307.2, T31.1⟩ rfl rfl (by show fillA _ _ [(0, lk s.env 33), (1, lk s.env 36)] = _; rw [q33, q36]; rfl) (zde rfl) rfl (Nat.le_of_ble_eq_true rfl)) rfl).names fun m hm => by subst hm; omega) rfl ?_
   exact put (q := 21) rfl (Nat.le_succ _) fun m hm => by show AHeap.get (AHeap.del _ _) m = _; rw [za8, if_neg (by omega), zac _ _ (by omega)]
  ·exact zey hS hL (hall ⟨0, .data⟩ (Array.mem_of_getElem? (i := 0) rfl) rfl) rfl rfl (htv 21 25 37 _ rfl (hall ⟨25, .data⟩ (Array.mem_of_getElem? (i := 1) rfl) rfl)) (List.mem_of_getElem? (i := 3) rfl) (zex (by decide)) zg6
  ·obtain ⟨hf, hc⟩ := call (q := 22) rfl (up m281)
   exact zat (f := 281) (fi := []) (ca := []) rfl rfl hf rfl rfl hc
  ·exact zam (fun c h => by cases h) (zbl rfl kp1) rfl (put (q := 23) rfl (Nat.le_refl _) fun _ _ => rfl)
  ·have q := (htv 23 28 39 _ rfl (hall ⟨28, .data⟩ (Array.mem_of_getElem? (i := 0) rfl) rfl))
   obtain ⟨hf, hc⟩ := call (q := 24) rfl (up (zcp (k := 2) (by decide)))
   exact zat (f := 165) (fi := []) (ca := []) rfl (by show fnOf (lk s.env 39) = _; rw [q]; rfl) hf rfl rfl hc
  ·have hnx := hS.z.nx
   have q38 := (htv 22 27 38 _ rfl (hall ⟨27, .data⟩ (Array.mem_of_getElem? (i := 0) rfl) rfl))
   have q40 := (htv 24 29 40 _ rfl (hall ⟨29, .data⟩ (Array.mem_of_getElem? (i := 1) rfl) rfl))
   refine zax (k := 1) (fun c hc => by cases hc) ((zbg (nm := s.nx) (es := [unL 0 0, unL 2 0]) (zas (G := GK) (len := 2) (ps := #[(0, .tmp 38), (1, .tmp 40)]) (nm := s.nx) (zs := [.d (iD 0), .d (iD 0), .d (iD 0), .d (iD 0), .d (iD 0)]) (els := ([unL 0 0, unL 2 0] : List (List D)).map fun el => el.map AV.d) rfl ⟨T31.2, T33.1⟩ rfl rfl (by show fillA _ _ [(0, lk s.env 38), (1, lk s.env 40)] = _; rw [q38, q40]; rfl) (zde rfl) rfl (Nat.le_of_ble_eq_true rfl)) rfl).names fun m hm => by subst hm; omega) rfl ?_
   exact put (q := 25) rfl (Nat.le_succ _) fun m hm => by show AHeap.get (AHeap.del _ _) m = _; rw [za8, if_neg (by omega), zac _ _ (by omega)]
  ·have q := (htv 25 30 41 _ rfl (hall ⟨30, .data⟩ (Array.mem_of_getElem? (i := 0) rfl) rfl))
   obtain ⟨hf, hc⟩ := call (q := 26) rfl (up (zky (f := 280) (ds := [.sl [unL 0 0, unL 2 0] true]) (by kernel_rfl)))
   exact zat (f := 280) (fi := []) (ca := []) rfl rfl hf (by show [] ++ [lk s.env 41] ++ [] = _; rw [q]; rfl) rfl hc
  ·exact zey hS hL (hall ⟨0, .data⟩ (Array.mem_of_getElem? (i := 0) rfl) rfl) rfl rfl (htv 26 31 42 _ rfl (hall ⟨31, .data⟩ (Array.mem_of_getElem? (i := 1) rfl) rfl)) (List.mem_of_getElem? (i := 4) rfl) (zex (by decide)) zg6
  ·obtain ⟨hf, hc⟩ := call (q := 27) rfl (up m281)
   exact zat (f := 281) (fi := []) (ca := []) rfl rfl hf rfl rfl hc
  ·exact zam (fun c h => by cases h) (zbl rfl kp1) rfl (put (q := 28) rfl (Nat.le_refl _) fun _ _ => rfl)
  ·have q := (htv 28 34 44 _ rfl (hall ⟨34, .data⟩ (Array.mem_of_getElem? (i := 0) rfl) rfl))
   obtain ⟨hf, hc⟩ := call (q := 29) rfl (up (zcp (k := 6) (by decide)))
   exact zat (f := 165) (fi := []) (ca := []) rfl (by show fnOf (lk s.env 44) = _; rw [q]; rfl) hf rfl rfl hc
  ·have hnx := hS.z.nx
   have q43 := (htv 27 33 43 _ rfl (hall ⟨33, .data⟩ (Array.mem_of_getElem? (i := 0) rfl) rfl))
   have q45 := (htv 29 35 45 _ rfl (hall ⟨35, .data⟩ (Array.mem_of_getElem? (i := 1) rfl) rfl))
   refine zax (k := 1) (fun c hc => by cases hc) ((zbg (nm := s.nx) (es := [unL 0 0, unL 6 0]) (zas (G := GK) (len := 2) (ps := #[(0, .tmp 43), (1, .tmp 45)]) (nm := s.nx) (zs := [.d (iD 0), .d (iD 0), .d (iD 0), .d (iD 0), .d (iD 0)]) (els := ([unL 0 0, unL 6 0] : List (List D)).map fun el => el.map AV.d) rfl ⟨T31.2, T33.1⟩ rfl rfl (by show fillA _ _ [(0, lk s.env 43), (1, lk s.env 45)] = _; rw [q43, q45]; rfl) (zde rfl) rfl (Nat.le_of_ble_eq_true rfl)) rfl).names fun m hm => by subst hm; omega) rfl ?_
   exact put (q := 30) rfl (Nat.le_succ _) fun m hm => by show AHeap.get (AHeap.del _ _) m = _; rw [za8, if_neg (by omega), zac _ _ (by omega)]
  ·have q := (htv 30 36 46 _ rfl (hall ⟨36, .data⟩ (Array.mem_of_getElem? (i := 0) rfl) rfl))
   obtain ⟨hf, hc⟩ := call (q := 31) rfl (up (zky (f := 280) (ds := [.sl [unL 0 0, unL 6 0] true]) (by kernel_rfl)))
   exact zat (f := 280) (fi := []) (ca := []) rfl rfl hf (by show [] ++ [lk s.env 46] ++ [] = _; rw [q]; rfl) rfl hc
  ·exact zey hS hL (hall ⟨0, .data⟩ (Array.mem_of_getElem? (i := 0) rfl) rfl) rfl rfl (htv 31 37 47 _ rfl (hall ⟨37, .data⟩ (Array.mem_of_getElem? (i := 1) rfl) rfl)) (List.mem_of_getElem? (i := 5) rfl) (zex (by decide)) zg6
  ·obtain ⟨hf, hc⟩ := call (q := 32) rfl (up m281)
   exact zat (f := 281) (fi := []) (ca := []) rfl rfl hf rfl rfl hc
  ·exact zam (fun c h => by cases h) (zbl rfl kp1) rfl (put (q := 33) rfl (Nat.le_refl _) fun _ _ => rfl)
  ·have q := (htv 33 40 49 _ rfl (hall ⟨40, .data⟩ (Array.mem_of_getElem? (i := 0) rfl) rfl))
   obtain ⟨hf, hc⟩ := call (q := 34) rfl (up (zcp (k := 1) (by decide)))
   exact zat (f := 165) (fi := []) (ca := []) rfl (by show fnOf (lk s.env 49) = _; rw [q]; rfl) hf rfl rfl hc
  ·have hnx := hS.z.nx
   have q48 := (htv 32 39 48 _ rfl (hall ⟨39, .data⟩ (Array.mem_of_getElem? (i := 0) rfl) rfl))
   have q50 := (htv 34 41 50 _ rfl (hall ⟨41, .data⟩ (Array.mem_of_getElem? (i := 1) rfl) rfl))
   refine zax (k := 1) (fun c hc => by cases hc) ((zbg (nm := s.nx) (es := [unL 0 0, unL 1 0]) (zas (G := GK) (len := 2) (ps := #[(0, .tmp 48), (1, .tmp 50)]) (nm := s.nx) (zs := [.d (iD 0), .d (iD 0), .d (iD 0), .d (iD 0), .d (iD 0)]) (els := ([unL 0 0, unL 1 0] : List (List D)).map fun el => el.map AV.d) rfl ⟨T31.2, T33.1⟩ rfl rfl (by show fillA _ _ [(0, lk s.env 48), (1, lk s.env 50)] = _; rw [q48, q50]; rfl) (zde rfl) rfl (Nat.le_of_ble_eq_true rfl)) rfl).names fun m hm => by subst hm; omega) rfl ?_
   exact put (q := 35) rfl (Nat.le_succ _) fun m hm => by show AHeap.get (AHeap.del _ _) m = _; rw [za8, if_neg (by omega), zac _ _ (by omega)]
  ·have q := (htv 35 42 51 _ rfl (hall ⟨42, .data⟩ (Array.mem_of_getElem? (i := 0) rfl) rfl))
   obtain ⟨hf, hc⟩ := call (q := 36) rfl (up (zky (f := 280) (ds := [.sl [unL 0 0, unL 1 0] true]) (by kernel_rfl)))
   exact zat (f := 280) (fi := []) (ca := []) rfl rfl hf (by show [] ++ [lk s.env 51] ++ [] = _; rw [q]; rfl) rfl hc
  ·exact zey hS hL (hall ⟨0, .data⟩ (Array.mem_of_getElem? (i := 0) rfl) rfl) rfl rfl (htv 36 43 52 _ rfl (hall ⟨43, .data⟩ (Array.mem_of_getElem? (i := 1) rfl) rfl)) (List.mem_of_getElem? (i := 6) rfl) (zex (by decide)) zg6
  ·obtain ⟨hf, hc⟩ := call (q := 37) rfl (up m281)
   exact zat (f := 281) (fi := []) (ca := []) rfl rfl hf rfl rfl hc
  ·exact zam (fun c h => by cases h) (zbl rfl kp1) rfl (put (q := 38) rfl (Nat.le_refl _) fun _ _ => rfl)
  ·have q := (htv 38 46 54 _ rfl (hall ⟨46, .data⟩ (Array.mem_of_getElem? (i := 0) rfl) rfl))
   obtain ⟨hf, hc⟩ := call (q := 39) rfl (up (zcp (k := 7) (by decide)))
   exact zat (f := 165) (fi := []) (ca := []) rfl (by show fnOf (lk s.env 54) = _; rw [q]; rfl) hf rfl rfl hc
  ·have hnx := hS.z.nx
   have q53 := (htv 37 45 53 _ rfl (hall ⟨45, .data⟩ (Array.mem_of_getElem? (i := 0) rfl) rfl))
   have q55 := (htv 39 47 55 _ rfl (hall ⟨47, .data⟩ (Array.mem_of_getElem? (i := 1) rfl) rfl))
   refine zax (k := 1) (fun c hc => by cases hc) ((zbg (nm := s.nx) (es := [unL 0 0, unL 7 0]) (zas (G := GK) (len := 2) (ps := #[(0, .tmp 53), (1, .tmp 55)]) (nm := s.nx) (zs := [.d (iD 0), .d (iD 0), .d (iD 0), .d (iD 0), .d (iD 0)]) (els := ([unL 0 0, unL 7 0] : List (List D)).map fun el => el.map AV.d) rfl ⟨T31.2, T33.1⟩ rfl rfl (by show fillA _ _ [(0, lk s.env 53), (1, lk s.env 55)] = _; rw [q53, q55]; rfl) (zde rfl) rfl (Nat.le_of_ble_eq_true rfl)) rfl).names fun m hm => by subst hm; omega) rfl ?_
   exact put (q := 40) rfl (Nat.le_succ _) fun m hm => by show AHeap.get (AHeap.del _ _) m = _; rw [za8, if_neg (by omega), zac _ _ (by omega)]
  ·have q := (htv 40 48 56 _ rfl (hall ⟨48, .data⟩ (Array.mem_of_getElem? (i := 0) rfl) rfl))
   obtain ⟨hf, hc⟩ := call (q := 41) rfl (up (zky (f := 280) (ds := [.sl [unL 0 0, unL 7 0] true]) (by kernel_rfl)))
   exact zat (f := 280) (fi := []) (ca := []) rfl rfl hf (by show [] ++ [lk s.env 56] ++ [] = _; rw [q]; rfl) rfl hc
  ·exact zey hS hL (hall ⟨0, .data⟩ (Array.mem_of_getElem? (i := 0) rfl) rfl) rfl rfl (htv 41 49 57 _ rfl (hall ⟨49, .data⟩ (Array.mem_of_getElem? (i := 1) rfl) rfl)) (List.mem_of_getElem? (i := 7) rfl) (zex (by decide)) zg6
  ·obtain ⟨hf, hc⟩ := call (q := 42) rfl (up (zky (f := 278) (ds := [iD (4 : Int), .fn 282 [] []]) (by kernel_rfl)))
   exact zat (f := 278) (fi := []) (ca := []) rfl rfl hf rfl rfl hc
  ·exact zey hS hL (hall ⟨0, .data⟩ (Array.mem_of_getElem? (i := 0) rfl) rfl) rfl rfl (htv 42 51 58 _ rfl (hall ⟨51, .data⟩ (Array.mem_of_getElem? (i := 1) rfl) rfl)) (List.mem_of_getElem? (i := 8) rfl) (zex (by decide)) zg6
  ·obtain ⟨hf, hc⟩ := call (q := 43) rfl (up m281)
   exact zat (f := 281) (fi := []) (ca := []) rfl rfl hf rfl rfl hc
  ·obtain ⟨hf, hc⟩ := call (q := 44) rfl (up m281)
   exact zat (f := 281) (fi := []) (ca := []) rfl rfl hf rfl rfl hc
  ·obtain ⟨hf, hc⟩ := call (q := 45) rfl (up m281)
   exact zat (f := 281) (fi := []) (ca := []) rfl rfl hf rfl rfl hc
  ·exact zam (fun c h => by cases h) (zbl rfl kp1) rfl (put (q := 46) rfl (Nat.le_refl _) fun _ _ => rfl)
  ·have q := (htv 46 56 62 _ rfl (hall ⟨56, .data⟩ (Array.mem_of_getElem? (i := 0) rfl) rfl))
   obtain ⟨hf, hc⟩ := call (q := 47) rfl (up (zcp (k := 4) (by decide)))
   exact zat (f := 165) (fi := []) (ca := []) rfl (by show fnOf (lk s.env 62) = _; rw [q]; rfl) hf rfl rfl hc
  ·have hnx := hS.z.nx
   have q59 := (htv 43 53 59 _ rfl (hall ⟨53, .data⟩ (Array.mem_of_getElem? (i := 0) rfl) rfl))
   have q60 := (htv 44 54 60 _ rfl (hall ⟨54, .data⟩ (Array.mem_of_getElem? (i := 1) rfl) rfl))
   have q61 := (htv 45 55 61 _ rfl (hall ⟨55, .data⟩ (Array.mem_of_getElem? (i := 2) rfl) rfl))
   have q63 := (htv 47 57 63 _ rfl (hall ⟨57, .data⟩ (Array.mem_of_getElem? (i := 3) rfl) rfl))
   refine zax (k := 1) (fun c hc => by cases hc) ((zbg (nm := s.nx) (es := [unL 0 0, unL 0 0, unL 0 0, unL 4 0]) (zas (G := GK) (len := 4) (ps := #[(0, .tmp 59), (1, .tmp 60), (2, .tmp 61), (3, .tmp 63)]) (nm := s.nx) (zs := [.d (iD 0), .d (iD 0), .d (iD 0), .d (iD 0), .d (iD 0)]) (els := ([unL 0 0, unL 0 0, unL 0 0, unL 4 0] : List (List D)).map fun el => el.map AV.d) rfl ⟨T31.2, T33.1⟩ rfl rfl (by show fillA _ _ [(0, lk s.env 59), (1, lk s.env 60), (2, lk s.env 61), (3, lk s.env 63)] = _; rw [q59, q60, q61, q63]; rfl) (zde rfl) rfl (Nat.le_of_ble_eq_true rfl)) rfl).names fun m hm => by subst hm; omega) rfl ?_
   exact put (q := 48) rfl (Nat.le_succ _) fun m hm => by show AHeap.get (AHeap.del _ _) m = _; rw [za8, if_neg (by omega), zac _ _ (by omega)]
  ·have q := (htv 48 58 64 _ rfl (hall ⟨58, .data⟩ (Array.mem_of_getElem? (i := 0) rfl) rfl))
   obtain ⟨hf, hc⟩ := call (q := 49) rfl (up (zky (f := 280) (ds := [.sl [unL 0 0, unL 0 0, unL 0 0, unL 4 0] true]) (by kernel_rfl)))
   exact zat (f := 280) (fi := []) (ca := []) rfl rfl hf (by show [] ++ [lk s.env 64] ++ [] = _; rw [q]; rfl) rfl hc
  ·exact zey hS hL (hall ⟨0, .data⟩ (Array.mem_of_getElem? (i := 0) rfl) rfl) rfl rfl (htv 49 59 65 _ rfl (hall ⟨59, .data⟩ (Array.mem_of_getElem? (i := 1) rfl) rfl)) (List.mem_of_getElem? (i := 9) rfl) (zex (by decide)) zg6
  ·obtain ⟨hf, hc⟩ := call (q := 50) rfl (up (zky (f := 278) (ds := [iD (4 : Int), .fn 283 [] []]) (by kernel_rfl)))
   exact zat (f := 278) (fi := []) (ca := []) rfl rfl hf rfl rfl hc
  ·exact zey hS hL (hall ⟨0, .data⟩ (Array.mem_of_getElem? (i := 0) rfl) rfl) rfl rfl (htv 50 61 66 _ rfl (hall ⟨61, .data⟩ (Array.mem_of_getElem? (i := 1) rfl) rfl)) (List.mem_of_getElem? (i := 10) rfl) (zex (by decide)) zg6
  ·obtain ⟨hf, hc⟩ := call (q := 51) rfl (up (zky (f := 278) (ds := [iD (8 : Int), .fn 284 [] []]) (by kernel_rfl)))
   exact zat (f := 278) (fi := []) (ca := []) rfl rfl hf rfl rfl hc
  ·exact zey hS hL (hall ⟨0, .data⟩ (Array.mem_of_getElem? (i := 0) rfl) rfl) rfl rfl (htv 51 63 67 _ rfl (hall ⟨63, .data⟩ (Array.mem_of_getElem? (i := 1) rfl) rfl)) (List.mem_of_getElem? (i := 11) rfl) (zex (by decide)) zg6
  ·have h0 := (hall ⟨0, .data⟩ (Array.mem_of_getElem? (i := 0) rfl) rfl)
   refine zam (fun c h => by cases h) (zbl rfl rfl) rfl (zvd (i := 65) (d := 68) hS hks (by decide) (by repeat' first | exact trivial | (refine ⟨by first | exact .inl ⟨rfl, rfl⟩ | exact .inr ⟨Nat.ne_of_beq_eq_false rfl, Nat.ne_of_beq_eq_false rfl⟩, ?_⟩)) ⟨hS.z.nx, hS.z.ho, fun a => (by simp at a; rw [h0] at a; cases a), fun _ => ?_, fun _ => (zap _ _ _).trans (zan _ _ (by decide)).symm, fun a => ?_, fun _ => by simpa using h0⟩)
   ·obtain ⟨X, M, x1, x2, x3, x4, x5⟩ := hS.z.mp h0
    exact ⟨X, M, x1, x2, (zan _ _ (by decide)).trans x3, x4, by rw [zdy (zse (by rw [zln]; decide))]; exact x5⟩
   ·have := hS.z.m66 (by simpa using a)
    exact (zan _ _ (by decide)).trans (this.trans (zan _ _ (by decide)).symm)
  ·have h65 := (hall ⟨65, .data⟩ (Array.mem_of_getElem? (i := 0) rfl) rfl)
   have h0 := hS.z.o (.inl h65)
   have q := hS.z.m65 h65
   refine zam (fun c h => by cases h) (zek rfl q) rfl (st_putn (i := 66) (d := 0) hS (fun p hp e => ?_) (by repeat' first | exact trivial | (refine ⟨by first | exact .inl ⟨rfl, rfl⟩ | exact .inr ⟨Nat.ne_of_beq_eq_false rfl, Nat.ne_of_beq_eq_false rfl⟩, ?_⟩)) ⟨hS.z.nx, hS.z.ho, fun a => (by simp at a; rw [h0] at a; cases a), fun _ => ?_, fun _ => (zan _ _ (by decide)).trans (q.trans (zan _ _ (by decide)).symm), fun _ => (zap _ _ _).trans (zan _ _ (by decide)).symm, fun _ => by simpa using h0⟩)
   ·rcases List.mem_cons.1 hp with rfl | hp
    ·cases e
    ·rcases List.mem_cons.1 hp with rfl | hp
     ·cases e
     ·rcases List.mem_cons.1 hp with rfl | hp
      ·cases e
      ·cases hp
   ·obtain ⟨X, M, x1, x2, x3, x4, x5⟩ := hS.z.mp h0
    exact ⟨X, M, x1, x2, (zan _ _ (by decide)).trans x3, x4, by rw [zdy (zse (by rw [zln]; decide))]; exact x5⟩
 ·intro L s hS hall
  exact ⟨rfl, hk L s hS fun i hi => hall i hi⟩
end Go.Tz
namespace Go.Tz
open Go Go.AL Go.Proofs
theorem chk275 : chkFnL [4] Tryz.f275 = true := by kernel_rfl
theorem neg277 : PC Pr GG 277 [.agg (unL 0 1)] (.tup [.agg (unL 4 1), iD 0]) := zcd (by kernel_rfl)
theorem reg275c {ops : Array Oper} (hops : ops = ops275) {e : List (Nat × AV)} {H : AHeap} {nx : Nat} (h2 : lk e 2 = .ptr 0 5 0 0) (h4 : lk e 4 = .ptr 1 5 0 0) (h1 : lk e 1 = .d (.fn 165 [] [])) (g0 : H.get 0 = some (.arr 5 [(unL 0 1).map AV.d])) (g1 : H.get 1 = some (.arr 5 [(unL 4 1).map AV.d])) (hnx : 2 ≤ nx) {k : Exit → St → Prop}
  (hk : ∀ M : List (Int × D), M.Perm (ins275.map (·.2)) → k .normal ⟨[(0, .map 0)], [(0, some (.map (M.map toK)))], 1⟩) : RegVC Pr GK Tryz.f275.ntmps 0 [] 4 ops ⟨e, H, nx⟩ k := by
 subst hops
 refine reg275 ⟨fun p hp => ?_, fun p _ h => (by cases h), ⟨hnx, fun p hp => ?_, fun _ => ?_, fun h => (by cases h), fun h => (by cases h), fun h => (by cases h), fun h => (by rcases h with h | h <;> cases h)⟩⟩ ?_
 ·rcases List.mem_cons.1 hp with rfl | hp
  ·exact h2
  ·rcases List.mem_cons.1 hp with rfl | hp
   ·exact h4
   ·rcases List.mem_cons.1 hp with rfl | hp
    ·exact h1
    ·cases hp
 ·rcases List.mem_cons.1 hp with rfl | hp
  ·exact g0
  ·rcases List.mem_cons.1 hp with rfl | hp
   ·exact g1
   ·cases hp
 ·unfold sel
  rw [List.filter_eq_nil_iff.2 fun p _ => by simp]; rfl
 ·intro L s' hS hL
  obtain ⟨X, M, x1, x2, x3, x4, x5⟩ := hS.z.mp (hL 0 (by decide))
  rw [fin65 hL] at x5
  refine ⟨_, ?_, hk M x5⟩
  refine zgs (fun _ => X) (fun m h => absurd h (Nat.not_lt_zero m)) (Nat.zero_le _) ?_ ?_ ?_ trivial
  ·exact ⟨⟨(hS.z.m66 (hL 66 (by decide))).trans x3, rfl⟩, trivial⟩
  ·exact ⟨⟨Nat.zero_lt_one, _, rfl, x4, trivial⟩, trivial⟩
  ·exact ⟨⟨fun _ => rfl, trivial⟩, trivial⟩
theorem zy7 : ACall Pr GK 275 [] [] 0 fun v H n => ∃ M : List (Int × D), v = .map 0 ∧ H = [(0, some (.map (M.map toK)))] ∧ n = 1 ∧ M.Perm (ins275.map (·.2)) := by
 have c78 := up (zvr (m := 1) (by decide))
 have c277 := up neg277
 refine fn_walkL pok [4] Tryz.func275 chk275 ?_
 conv => whnf
 repeat' first | ((first | refine LookP.mk _ rfl ?_ | refine ShlP.mk _ (by first | (simp only [List.set, over, List.take, List.drop, List.append_eq, List.nil_append, List.cons_append, List.length]; rfl) | rfl) ?_ | refine zaj c78 ?_ | refine zaj c277 ?_ | refine HpP.force ?_); conv => whnf)
 refine reg275c (by kernel_rfl) rfl rfl rfl rfl rfl (Nat.le_of_ble_eq_true rfl) ?_
 intro M hM
 conv => whnf
 exact fin ⟨M, rfl, rfl, rfl, hM⟩
theorem isFn275 : IsFn Pr 275 := isFn_ofL Tryz.func275 chk275
theorem call275 {H : AHeap} {nx : Nat} {k : AV → AHeap → Nat → Prop} (hk : ∀ M : List (Int × D), M.Perm (ins275.map (·.2)) → k (.map nx) ((nx, some (.map (M.map toK))) :: H) (nx + 1)) : CallVC Pr GK 275 [] H nx k :=
 ⟨isFn275, zcc (ds := []) zy7 fun v N m ⟨M, h1, h2, h3, h4⟩ => by
  subst h1 h2 h3
  have := hk M h4
  show k (.map (0 + nx)) ((0 + nx, some (Blk.ren _ (.map (M.map toK)))) :: H) (nx + 1)
  rw [Nat.zero_add]; exact this⟩
theorem allK : ∀ l : List (Int × D), allLen 1 (l.map fun q => [q.1]) = true
 | [] => rfl
 | q :: l => by
  have ih := allK l
  simp only [List.map_cons, allLen]
  simpa using ih
theorem chk263 : chkFn Tryz.f263 = true := by kernel_rfl
theorem of263 {k : Int} {v : D} (hm : (k, v) ∈ ins275.map (·.2)) : PC Pr GK 263 [iD k] (.tup [v, iD 0]) := by
 have key : ∀ M : List (Int × D), M.Perm (ins275.map (·.2)) → ∃ j, idxOf [k] (M.map fun q => [q.1]) 0 = some (0 + j) ∧ (M.map toK)[j]? = some (iD k, v) := fun M hM => by
  refine zoi M 0 (hM.symm.subset hm) fun q hq e => ?_
  obtain ⟨p, hp, hpe⟩ := List.mem_map.1 (hM.subset hq)
  obtain ⟨p', hp', hpe'⟩ := List.mem_map.1 hm
  have : p = p' := zg1 zsf hp hp' (by rw [hpe, hpe']; exact e)
  rw [← hpe, this, hpe']
 refine zak pok Tryz.func263 chk263 ?_
 conv => whnf
 skip
 refine call275 ?_
 intro M hM
 obtain ⟨j, j1, j2⟩ := key M hM
 rw [Nat.zero_add] at j1
 conv => whnf
 repeat' first | ((first | rw [keysK] | rw [allK] | rw [j1] | rw [j2]); conv => whnf)
 all_goals first | exact fin rfl | (exfalso; simp at ht; done)
theorem mat_x : rv 278 [iD (2 : Int), .fn 279 [] []] = .sl [[.sl [amL none 0, unL 0 0] true], [.sl [unL 0 0, amL none 0] true]] true := by kernel_rfl
theorem mat_z : rv 280 [.sl [unL 0 0, unL 4 0] true] = .sl [[.sl [unL 0 0, amL none 0] true], [.sl [amL none 0, unL 4 0] true]] true := by kernel_rfl
def lcol (k b : Nat) : Nat := if k = 3 then b else 1 - b
def lun (k b : Nat) : Nat := if k = 1 then 0 else if k = 2 then (if b = 0 then 6 else 2) else (if b = 0 then 0 else 4)
def lrow (k b : Nat) : List (List D) := if lcol k b = 0 then [unL (lun k b) 0, amL none 0] else [amL none 0, unL (lun k b) 0]
theorem of263l {k : Nat} (hk : k = 1 ∨ k = 2 ∨ k = 3) : PC Pr GK 263 [iD k] (.tup [.sl [[.sl (lrow k 0) true], [.sl (lrow k 1) true]] true, iD 0]) := by
 rcases hk with rfl | rfl | rfl
 ·have := of263 (k := 1) (List.mem_of_getElem? (i := 0) rfl)
  rw [mat_x] at this; exact this
 ·exact of263 (k := 2) (List.mem_of_getElem? (i := 1) rfl)
 ·have := of263 (k := 3) (List.mem_of_getElem? (i := 2) rfl)
  rw [mat_z] at this; exact this
end Go.Tz
namespace Go.Tz
open Go Go.AL Go.Proofs
variable {val : Nat → Option Nat} {m N w : Nat}
abbrev V4 (val : Nat → Option Nat) : Prop := ∀ k p, val k = some p → p < 4
theorem zjh (val : Nat → Option Nat) (m N : Nat) : (vcL val m N).length = N := by simp
theorem vc_el (val : Nat → Option Nat) (m N : Nat) : ∀ el, el ∈ vcL val m N → el.length = 5 := fun el h => by
 obtain ⟨k, _, rfl⟩ := List.mem_map.1 h
 cases val k <;> rfl
theorem vc_sc (val : Nat → Option Nat) (m N : Nat) : (((vcL val m N).map (·.map AV.d)).all fun el => el.all AV.scalar) = true := by
 refine List.all_eq_true.2 fun el h => ?_
 obtain ⟨x, hx, rfl⟩ := List.mem_map.1 h
 obtain ⟨k, _, rfl⟩ := List.mem_map.1 hx
 cases val k <;> rfl
theorem vc_set (f : Nat → Option Nat) (m N r : Nat) (x : Option Nat) : (vcL f m N).set r (amL x m) = vcL (fun k => if k = r then x else f k) m N := by
 refine List.ext_getElem (by simp) fun i h1 h2 => ?_
 simp only [List.getElem_set, List.getElem_map, List.getElem_range]
 by_cases e : r = i
 ·subst e; simp
 ·rw [if_neg e, if_neg (Ne.symm e)]
theorem am_check {v : Option Nat} (hv : ∀ p, v = some p → p < 4) (hm : m ≤ 5) : PC Pr GK 148 [amD v m] (iD 0) := by
 cases v with
 | none => exact up (zx6 m)
 | some p => exact up (check148 (hv p rfl) hm)
theorem am_least {v : Option Nat} (hv : ∀ p, v = some p → p < 4) (hm : m ≤ 5) : PC Pr GK 228 [amD v m] (.tup [amD v m, iD 0]) := by
 cases v with
 | none => exact up (zwy m)
 | some p => exact up (least228 (hv p rfl) hm)
theorem zk3 (v : Option Nat) (m : Nat) : ∃ a b c d e : Int, amL v m = [iD a, iD b, iD c, iD d, iD e] := by
 cases v <;> exact ⟨_, _, _, _, _, rfl⟩
theorem chk158 : chkFn Tryz.f158 = true := by kernel_rfl
theorem chk163 : chkFn Tryz.f163 = true := by kernel_rfl
theorem chk164 : chkFn Tryz.f164 = true := by kernel_rfl
theorem chk79 : chkFn Tryz.f79 = true := by kernel_rfl
theorem chk80 : chkFn Tryz.f80 = true := by kernel_rfl
theorem zqz (h4 : V4 val) (hm : m ≤ 5) (hw : w ≤ 5) (t : Bool) : PC Pr GK 158 [.sl (vcL val m (2 ^ w)) t] (.tup [iD w, iD 0]) := by
 have hl := zjh val m (2 ^ w)
 have hg : ∀ k : Nat, k < 2 ^ w → (vcL val m (2 ^ w))[(k : Int).toNat]? = some (amL (val k) m) := fun k hk => zk6 hk
 have hp : 2 ^ w ≤ 32 := Nat.pow_le_pow_right (n := 2) (by decide) hw
 generalize vcL val m (2 ^ w) = V at hl hg ⊢
 refine zak pok Tryz.func158 chk158 ?_
 conv => whnf
 skip
 refine zdq (σ := { n : Nat // n ≤ w }) (fun s => ⟨[(0, .d (.sl V t)), (8, .d (iD s.1))], [], 0⟩) (fun s => w - s.1) ⟨0, Nat.zero_le _⟩ ?_ (by kernel_rfl) ?_
 ·refine zad (by first | exact Nat.zero_le _ | exact Nat.le_of_ble_eq_true rfl) ?_ ?_ trivial
  ·repeat' first | exact trivial | refine ⟨⟨by first | rfl | assumption, rfl⟩, ?_⟩
  ·repeat' first | exact trivial | refine ⟨⟨ltB rfl, _, rfl, by first | rfl | assumption, by first | exact zaf rfl | exact zaa _ _ _ | exact zab rfl⟩, ?_⟩
 ·rintro ⟨n, hn⟩ A hA
  dsimp only at hA ⊢
  have e1 : iadd .i64 (n : Int) 1 = ((n + 1 : Nat) : Int) := zai (b := 1) (by omega)
  have h7 : decide ((n : Int) < 7) = true := decide_eq_true (by omega)
  have hsh : ishl .i64 1 (n : Int) = ((2 ^ n : Nat) : Int) := zbw (by omega)
  by_cases e : n = w
  ·have hne : (((V.length : Nat) : Int) != ((2 ^ n : Nat) : Int)) = false := by rw [hl, e]; simp
   conv => whnf
   repeat' first | ((first | refine And.intro (by first | exact Int.natCast_nonneg _ | assumption | exact ⟨by kernel_rfl, rfl⟩ | decide | omega) ?_ | refine knownB h7 ?_ | rw [hsh] | refine knownB hne ?_); conv => whnf)
   refine zar pok (fun k => ⟨[(4, .d (iD n)), (16, .d (.sl V t)), (17, .d (iD V.length)), (18, .d (iD k))], [], 0⟩) (V.length) (fun _ => True) (trivial) ?_ (by kernel_rfl) ?_ ?_
   ·refine zad (by first | exact Nat.zero_le _ | exact Nat.le_of_ble_eq_true rfl) ?_ ?_ trivial
    ·repeat' first | exact trivial | refine ⟨⟨by first | rfl | assumption, rfl⟩, ?_⟩
    ·repeat' first | exact trivial | refine ⟨⟨ltB rfl, _, rfl, by first | rfl | assumption, by first | exact zaf rfl | exact zaa _ _ _ | exact zab rfl⟩, ?_⟩
   ·intro k A_k h_k I_k N_k
    have e_k : iadd .i64 (k : Int) 1 = ((k + 1 : Nat) : Int) := zai (by first | omega | (simp at *; omega))
    have hgk := hg k (by omega)
    have cc := am_check (m := m) (v := val k) (h4 k) hm
    obtain ⟨a, b, c, d, x, he⟩ := zk3 (val k) m
    have cc : PC Pr GK 148 [.agg [iD a, iD b, iD c, iD d, iD x]] (iD 0) := by rw [← he]; exact cc
    rw [he] at hgk
    have z0 : ((0 : Int) != 0) = false := rfl
    conv => whnf
    repeat (refine LookP.mk _ rfl ?_; conv => whnf)
    intro t ht
    cases t
    ·exfalso; first | (simp at ht; done) | (simp at ht; omega)
    conv => whnf
    repeat' first | ((first | refine LookP.mk _ (by first | rfl | exact hgk) ?_ | refine ShlP.mk _ (by first | (simp only [List.set, over, List.take, List.drop, List.append_eq, List.nil_append, List.cons_append, List.length]; rfl) | rfl) ?_ | refine And.intro (by first | assumption | exact ⟨by kernel_rfl, rfl⟩ | decide | omega) ?_ | refine zaj cc ?_ | refine knownB z0 ?_ | refine HpP.force ?_); conv => whnf)
    refine N_k _ ?_ ?_
    ·first | trivial | assumption | omega
    ·refine zad (by first | exact Nat.zero_le _ | exact Nat.le_of_ble_eq_true rfl) ?_ ?_ trivial
     ·repeat' first | exact trivial | refine ⟨⟨by first | rfl | assumption | exact congrArg (fun n => AV.d (iD n)) e_k, rfl⟩, ?_⟩
     ·repeat' first | exact trivial | refine ⟨⟨ltB rfl, _, rfl, by first | rfl | assumption, by first | exact zaf rfl | exact zaa _ _ _ | exact zab rfl⟩, ?_⟩
   ·intro A_last I_last
    conv => whnf
    repeat (refine LookP.mk _ rfl ?_; conv => whnf)
    intro t ht
    cases t
    rotate_left
    ·exfalso; first | (simp at ht; done) | (simp at ht; omega)
    conv => whnf
    skip
    subst e
    exact fin rfl
  ·have hne : (((V.length : Nat) : Int) != ((2 ^ n : Nat) : Int)) = true := by
    rw [hl]
    have : 2 ^ n < 2 ^ w := Nat.pow_lt_pow_right (by decide) (by omega)
    exact bne_iff_ne.2 fun q => by have := Int.ofNat.inj q; omega
   conv => whnf
   repeat' first | ((first | refine And.intro (by first | exact Int.natCast_nonneg _ | assumption | exact ⟨by kernel_rfl, rfl⟩ | decide | omega) ?_ | refine knownB h7 ?_ | rw [hsh] | refine knownB hne ?_); conv => whnf)
   refine hA _ ⟨n + 1, by omega⟩ ?_ (by show w - (n + 1) < w - n; omega)
   refine zad (by first | exact Nat.zero_le _ | exact Nat.le_of_ble_eq_true rfl) ?_ ?_ trivial
   ·repeat' first | exact trivial | refine ⟨⟨by first | rfl | assumption | exact congrArg (fun n => AV.d (iD n)) e1, rfl⟩, ?_⟩
   ·repeat' first | exact trivial | refine ⟨⟨ltB rfl, _, rfl, by first | rfl | assumption, by first | exact zaf rfl | exact zaa _ _ _ | exact zab rfl⟩, ?_⟩
theorem zs2 (h4 : V4 val) (hm : m ≤ 5) (hw : w ≤ 5) (t : Bool) : PC Pr GK 163 [.sl (vcL val m (2 ^ w)) t] (iD 0) := by
 have c := zqz h4 hm hw t
 refine zak pok Tryz.func163 chk163 ?_
 conv => whnf
 repeat' first | (refine zaj c ?_; conv => whnf)
 exact fin rfl
theorem clone79d (val : Nat → Option Nat) (m w : Nat) (hw : w ≤ 5) : PC Pr GK 79 [.sl (vcL val m (2 ^ w)) false] (.sl (vcL val m (2 ^ w)) false) := by
 have hl := zjh val m (2 ^ w)
 have hp : 2 ^ w ≤ 32 := Nat.pow_le_pow_right (n := 2) (by decide) hw
 have hpos := Nat.two_pow_pos w
 have he := vc_el val m (2 ^ w)
 have hsc := vc_sc val m (2 ^ w)
 generalize vcL val m (2 ^ w) = V at hl he hsc ⊢
 refine zb7 (za0 Tryz.func79 chk79) (zaz (K := fun v H _ => ∃ nm, v = .sl nm 5 0 V.length V.length false ∧ H.get nm = some (dblk 5 V)) (za2 pok Tryz.func79 chk79 ?_) ?_)
 ·conv => whnf
  repeat' first | ((first | refine ShlP.mk _ (by first | (simp only [List.set, over, List.take, List.drop, List.append_eq, List.nil_append, List.cons_append, List.length]; rfl) | rfl) ?_ | refine And.intro (by first | exact he | exact ⟨rfl, by decide, by simp only [List.length_map, Nat.zero_add]; omega⟩ | assumption | exact ⟨by kernel_rfl, rfl⟩ | decide | omega | exact ⟨rfl, by decide, by simp only [List.length_map, Nat.zero_add]; omega⟩) ?_ | rw [hsc] | refine HpP.force ?_); conv => whnf) | (intro t ht; cases t <;> conv => whnf)
  ·refine fin ⟨1, by simp, ?_⟩
   simp [chunk, AHeap.get, dblk]
  ·exfalso
   have hne : V.length ≠ 0 := by omega
   cases ht hne
 ·rintro v H _ ⟨nm, rfl, hg⟩
  exact zgl hg rfl
theorem zwz (h4 : V4 val) (hm : m ≤ 5) (hw : w ≤ 5) (t : Bool) : PC Pr GK 164 [.sl (vcL val m (2 ^ w)) t] (.sl (vcL val m (2 ^ w)) true) := by
 have hl := zjh val m (2 ^ w)
 have hg : ∀ k : Nat, k < 2 ^ w → (vcL val m (2 ^ w))[(k : Int).toNat]? = some (amL (val k) m) := fun k hk => zk6 hk
 have hs : ∀ k, k < 2 ^ w → (vcL val m (2 ^ w)).set k (amL (val k) m) = vcL val m (2 ^ w) := fun k hk => by
  rw [vc_set]
  refine List.map_congr_left fun i _ => ?_
  show amL (if i = k then val k else val i) m = _
  by_cases e : i = k
  ·rw [if_pos e, e]
  ·rw [if_neg e]
 have hp : 2 ^ w ≤ 32 := Nat.pow_le_pow_right (n := 2) (by decide) hw
 have he := vc_el val m (2 ^ w)
 have hsc := vc_sc val m (2 ^ w)
 generalize vcL val m (2 ^ w) = V at hl he hsc hg hs ⊢
 refine zb7 (za0 Tryz.func164 chk164) (zaz (K := fun v H _ => ∃ nm, v = .sl nm 5 0 V.length V.length true ∧ H.get nm = some (dblk 5 V)) (za2 pok Tryz.func164 chk164 ?_) ?_)
 ·conv => whnf
  repeat' first | ((first | refine ShlP.mk _ (by first | exact zmh (by simp) | rfl) ?_ | (refine And.intro (by first | exact ⟨Int.natCast_nonneg _, rfl, by show 40 * ((V.length : Nat) : Int).toNat ≤ 281474976710656; rw [Int.toNat_natCast]; omega, by decide, by decide⟩ | exact he | exact (by rw [List.length_replicate, Nat.zero_add]; exact Nat.le_refl _) | assumption | exact ⟨by kernel_rfl, rfl⟩ | decide | omega) ?_) | rw [hsc] | refine HpP.force ?_); conv => whnf)
  have eN : ((V.length : Nat) : Int).toNat = V.length := Int.toNat_natCast _
  refine zar pok (fun k => ⟨[(3, .sl 0 5 0 V.length V.length true), (12, .d (.sl V t)), (13, .d (iD V.length)), (14, .d (iD k))], [(0, some (dblk 5 V))], 1⟩) (V.length) (fun _ => True) (trivial) ?_ (by kernel_rfl) ?_ ?_
  ·refine zad (by first | exact Nat.zero_le _ | exact Nat.le_of_ble_eq_true rfl) ?_ ?_ trivial
   ·repeat' first | exact trivial | refine ⟨⟨by first | rfl | assumption, rfl⟩, ?_⟩
   ·repeat' first | exact trivial | refine ⟨⟨ltB rfl, _, rfl, by first | rfl | assumption, by first | exact zaf rfl | exact zaa _ _ _ | exact zab rfl⟩, ?_⟩
  ·intro k A_k h_k I_k N_k
   have e_k : iadd .i64 (k : Int) 1 = ((k + 1 : Nat) : Int) := zai (by first | omega | (simp at *; omega))
   have hgk := hg k (by omega)
   have hsk := hs k (by omega)
   have cc := am_least (m := m) (v := val k) (h4 k) hm
   obtain ⟨a, b, c, d, x, hq⟩ := zk3 (val k) m
   have cc : PC Pr GK 228 [.agg [iD a, iD b, iD c, iD d, iD x]] (.tup [.agg [iD a, iD b, iD c, iD d, iD x], iD 0]) := by
    unfold amD at cc; rw [hq] at cc; exact cc
   rw [hq] at hgk hsk
   have hset : some (Blk.arr 5 ((V.map fun el => el.map AV.d).set (0 + ((k : Nat) : Int).toNat) ([iD a, iD b, iD c, iD d, iD x].map AV.d))) = some (dblk 5 V) := by
    unfold dblk
    rw [Nat.zero_add, Int.toNat_natCast, ← List.map_set, hsk]
   have hgv : (V.map fun el => el.map AV.d)[0 + ((k : Nat) : Int).toNat]? = some ([iD a, iD b, iD c, iD d, iD x].map AV.d) := by
    rw [Nat.zero_add, List.getElem?_map, hgk]; rfl
   conv => whnf
   repeat (refine LookP.mk _ rfl ?_; conv => whnf)
   intro t ht
   cases t
   ·exfalso; first | (simp at ht; done) | (simp at ht; omega)
   conv => whnf
   repeat' first | ((first | refine LookP.mk _ (by first | rfl | exact hgk | exact hgv) ?_ | refine ShlP.mk _ (by first | (simp only [List.set, over, List.take, List.drop, List.append_eq, List.nil_append, List.cons_append, List.length]; rfl) | rfl) ?_ | refine And.intro (by first | assumption | exact ⟨by kernel_rfl, rfl⟩ | decide | omega) ?_ | refine zaj cc ?_ | refine HpP.force ?_); conv => whnf)
   refine N_k _ ?_ ?_
   ·first | trivial | assumption | omega
   ·refine zad (by first | exact Nat.zero_le _ | exact Nat.le_of_ble_eq_true rfl) ?_ ?_ trivial
    ·repeat' first | exact trivial | refine ⟨⟨by first | rfl | assumption | exact congrArg (fun n => AV.d (iD n)) e_k, rfl⟩, ?_⟩
    ·repeat' first | exact trivial | refine ⟨⟨ltB rfl, _, rfl, by first | rfl | assumption | exact hset, by first | exact zaf rfl | exact zaa _ _ _ | exact zab rfl⟩, ?_⟩
  ·intro A_last I_last
   conv => whnf
   repeat (refine LookP.mk _ rfl ?_; conv => whnf)
   intro t ht
   cases t
   rotate_left
   ·exfalso; first | (simp at ht; done) | (simp at ht; omega)
   conv => whnf
   skip
   exact fin ⟨0, rfl, rfl⟩
 ·rintro v H _ ⟨nm, rfl, hg⟩
  exact zgl hg rfl
theorem letter80 {w X Z P : Nat} (hw : 1 ≤ w ∧ w ≤ 12) (hX : X < 2 ^ w) (hZ : Z < 2 ^ w) (hP : P < 4) {n : Nat} (hn : n < w) : PC Pr GK 80 [(mk w X Z P).d, iD n] (.tup [iD (letterI X Z n), iD 0]) := by
 have hc := up (zeq (G := GG) (mk w X Z P))
 rw [zjy hw ⟨X, Z, P, rfl, hX, hZ, hP⟩] at hc
 have hl := up (zg4 (G := GG) (mk w X Z P) .nilf n (Int.natCast_nonneg _))
 have z0 : ((0 : Int) != 0) = false := rfl
 have z1 : decide ((n : Int) < 0) = false := decide_eq_false (by omega)
 have z2 : decide ((n : Int) ≥ (w : Int)) = false := decide_eq_false (by omega)
 refine zak pok Tryz.func80 chk80 ?_
 conv => whnf
 repeat' first | ((first | refine LookP.mk _ rfl ?_ | refine zaj hc ?_ | refine zaj hl ?_ | refine knownB z0 ?_ | refine knownB z2 ?_); conv => whnf)
 exact fin rfl
end Go.Tz
namespace Go.Tz
open Go Go.AL Go.Proofs
variable {val : Nat → Option Nat} {m N w k n : Nat}
def lfrom (k n r : Nat) : Nat := if k = 3 then r else r ^^^ 2 ^ n
def appL (k n : Nat) (val : Nat → Option Nat) (r : Nat) : Option Nat := (val (lfrom k n r)).map fun p => (p + lun k (r.testBit n).toNat / 2) % 4
theorem am_mul {v : Option Nat} (hv : ∀ p, v = some p → p < 4) (hm : m ≤ 5) (hk : k = 1 ∨ k = 2 ∨ k = 3) (b : Nat) : PC Pr GK 75 [.agg (unL (lun k b) 0), amD v m] (.tup [amD (v.map fun p => (p + lun k b / 2) % 4) m, iD 0]) := by
 have hu : lun k b < 8 ∧ lun k b % 2 = 0 := by
  rcases hk with rfl | rfl | rfl <;> simp only [lun] <;> (repeat' split) <;> decide
 cases v with
 | none => exact up (mul75z hu.1)
 | some p =>
  have hp := hv p rfl
  have := up (mul75u (k := lun k b) (p := p) (m := m) hu.1 hp hm)
  rw [show (lun k b + 2 * p) % 8 = 2 * ((p + lun k b / 2) % 4) by omega, un_am (Nat.mod_lt _ (by decide))] at this
  exact this
theorem every160 {n w : Nat} (hn : n < w) (hw : w ≤ 5) : PC Pr GG 160 [.sl [[iD n]] true, .fn 161 [] [.rop [iD w] 0]] (.bool true) := by
 have h : ((List.range 6).all fun w : Nat => (List.range w).all fun n : Nat => rnB 160 [.sl [[iD n]] true, .fn 161 [] [.rop [iD w] 0]] (.bool true)) = true := by kernel_rfl
 exact zcd (List.all_eq_true.1 (List.all_eq_true.1 h w (List.mem_range.2 (by omega))) n (List.mem_range.2 hn))
theorem arity159 (hk : k = 1 ∨ k = 2 ∨ k = 3) : PC Pr GG 159 [iD k] (iD 1) := by
 rcases hk with rfl | rfl | rfl <;> exact zcd (by kernel_rfl)
end Go.Tz
namespace Go.Tz
open Go Go.AL Go.Proofs
variable {val : Nat → Option Nat} {m w n : Nat}
theorem chk81 : chkFn Tryz.f81 = true := by kernel_rfl
theorem chk162 : chkFn Tryz.f162 = true := by kernel_rfl
theorem chk226 : chkFn Tryz.f226 = true := by kernel_rfl
def rsI (r n : Nat) : Int := iandNot .i64 (r : Int) (ishl .i64 1 (n : Int))
theorem in81 {r n : Nat} (hr : r < 32) (hn : n < 5) : ior .i64 0 (ishl .i64 (iand .i64 (ishr .i64 (r : Int) (n : Int)) 1) ((0 : Nat) : Int)) = ((r.testBit n).toNat : Nat) := by
 have h : ((List.range 32).all fun r : Nat => (List.range 5).all fun n : Nat => decide (ior .i64 0 (ishl .i64 (iand .i64 (ishr .i64 (r : Int) (n : Int)) 1) ((0 : Nat) : Int)) = ((r.testBit n).toNat : Nat))) = true := by kernel_rfl
 exact of_decide_eq_true (List.all_eq_true.1 (List.all_eq_true.1 h r (List.mem_range.2 hr)) n (List.mem_range.2 hn))
theorem from81 {r n c : Nat} (hr : r < 32) (hn : n < 5) (hc : c < 2) : ior .i64 (rsI r n) (ishl .i64 (iand .i64 (ishr .i64 (c : Int) ((0 : Nat) : Int)) 1) (n : Int)) = ((if (r.testBit n).toNat = c then r else r ^^^ 2 ^ n : Nat) : Int) := by
 have h : ((List.range 32).all fun r : Nat => (List.range 5).all fun n : Nat => (List.range 2).all fun c : Nat => decide (ior .i64 (rsI r n) (ishl .i64 (iand .i64 (ishr .i64 (c : Int) ((0 : Nat) : Int)) 1) (n : Int)) = ((if (r.testBit n).toNat = c then r else r ^^^ 2 ^ n : Nat) : Int))) = true := by kernel_rfl
 exact of_decide_eq_true (List.all_eq_true.1 (List.all_eq_true.1 (List.all_eq_true.1 h r (List.mem_range.2 hr)) n (List.mem_range.2 hn)) c (List.mem_range.2 hc))
def rowsV (f : Nat → Option Nat) (r : Nat) (b : Bool) (q : Nat) : Option Nat := if q < r then f q else if q = r then (if b then f r else none) else none
theorem zux (f : Nat → Option Nat) (m r N : Nat) : vcL (rowsV f r true) m N = vcL (rowsV f (r + 1) false) m N := by
 refine List.map_congr_left fun q _ => ?_
 unfold rowsV
 by_cases h1 : q < r
 ·rw [if_pos h1, if_pos (by omega)]
 ·by_cases h2 : q = r
  ·rw [if_neg h1, if_pos h2, if_pos rfl, if_pos (by omega), h2]
  ·rw [if_neg h1, if_neg h2, if_neg (by omega)]; split <;> rfl
theorem zyv (f : Nat → Option Nat) (m r N : Nat) : (vcL (rowsV f r false) m N).set r (amL (f r) m) = vcL (rowsV f r true) m N := by
 rw [vc_set]
 refine List.map_congr_left fun q _ => ?_
 show amL (if q = r then f r else rowsV f r false q) m = amL (rowsV f r true q) m
 unfold rowsV
 by_cases h2 : q = r
 ·rw [if_pos h2, if_neg (by omega), if_pos h2]; rfl
 ·rw [if_neg h2, if_neg h2, if_neg h2]
theorem vrow_0 (f : Nat → Option Nat) (m N : Nat) : vcL (rowsV f 0 false) m N = List.replicate N (amL none m) := by
 refine List.ext_getElem (by simp) fun i h1 h2 => ?_
 simp [rowsV]
def twoQ (a b : Int) : Nat → Int
 | 0 => a
 | _ + 1 => b
theorem vrow_at (f : Nat → Option Nat) (m : Nat) {r N : Nat} (h : r < N) : (vcL (rowsV f r false) m N)[r]? = some (amL none m) := by
 rw [List.getElem?_map, List.getElem?_range h]
 show some (amL (rowsV f r false r) m) = _
 unfold rowsV
 rw [if_neg (Nat.lt_irrefl r), if_pos rfl]; rfl
theorem zyw (f : Nat → Option Nat) (m N : Nat) : vcL (rowsV f N false) m N = vcL f m N := by
 refine List.map_congr_left fun q hq => ?_
 unfold rowsV
 rw [if_pos (List.mem_range.1 hq)]
theorem zp6 {k b : Nat} (hk : k = 1 ∨ k = 2 ∨ k = 3) (hb : b < 2) : lcol k b < 2 := by
 unfold lcol
 split <;> omega
theorem zwu {k b c : Nat} (hb : b < 2) (hk : k = 1 ∨ k = 2 ∨ k = 3) (hc : c < 2) : (lrow k b)[(c : Int).toNat]? = some (if c = lcol k b then unL (lun k b) 0 else amL none 0) ∧ (lrow k b).length = 2 := by
 have h1 := zp6 hk hb
 rw [Int.toNat_natCast]
 unfold lrow
 have hc' : c = 0 ∨ c = 1 := by omega
 have hl : lcol k b = 0 ∨ lcol k b = 1 := by omega
 rcases hl with e | e <;> rcases hc' with rfl | rfl <;> rw [e] <;> exact ⟨rfl, rfl⟩
theorem un_nz {k b : Nat} (hb : b < 2) (hk : k = 1 ∨ k = 2 ∨ k = 3) : ∃ a c d e f : Int, unL (lun k b) 0 = [iD a, iD c, iD d, iD e, iD f] ∧ ([a, c, d, e, f] == [0, 0, 0, 0, 0]) = false := by
 have hb' : b = 0 ∨ b = 1 := by omega
 rcases hk with rfl | rfl | rfl <;> rcases hb' with rfl | rfl <;> exact ⟨_, _, _, _, _, rfl, by decide⟩
theorem lfrom_eq {k n r c : Nat} (hk : k = 1 ∨ k = 2 ∨ k = 3) (hc : c = lcol k (r.testBit n).toNat) : (if (r.testBit n).toNat = c then r else r ^^^ 2 ^ n) = lfrom k n r := by
 subst hc
 unfold lcol lfrom
 rcases hk with rfl | rfl | rfl <;> cases r.testBit n <;> simp
set_option maxHeartbeats 4000000 in
theorem apply81 {k : Nat} (hk : k = 1 ∨ k = 2 ∨ k = 3) (hw : 1 ≤ w ∧ w ≤ 5) (hn : n < w) (h4 : V4 val) (hm : m ≤ 5) (t : Bool) : PC Pr GK 81 [.sl (vcL val m (2 ^ w)) t, .agg [iD k, .sl [[iD n]] true, iD 0, iD 0]] (.tup [.sl (vcL (appL k n val) m (2 ^ w)) true, iD 0]) := by
 have c158 := zqz h4 hm hw.2 t
 have c159 := up (arity159 hk)
 have c160 := up (every160 hn hw.2)
 have c25 : PC Pr GK 25 [.sl [] false, iD n] (.bool false) := has25 (G := GK) [] false n (by decide)
 have c263 := of263l hk
 have hl := zjh val m (2 ^ w)
 have hp : 2 ^ w ≤ 32 := Nat.pow_le_pow_right (n := 2) (by decide) hw.2
 have hg : ∀ q : Nat, q < 2 ^ w → (vcL val m (2 ^ w))[(q : Int).toNat]? = some (amL (val q) m) := fun q hq => zk6 hq
 have hxor : ∀ r, r < 2 ^ w → lfrom k n r < 2 ^ w := fun r hr => by
  unfold lfrom
  split
  ·exact hr
  ·exact Nat.xor_lt_two_pow hr (Nat.pow_lt_pow_right (by decide) hn)
 have hnn : (0 : Int) ≤ (n : Int) := Int.natCast_nonneg _
 have z0 : ((0 : Int) != 0) = false := rfl
 have z1 : ((0 : Int) == 0) = true := rfl
 have k1 : decide ((k : Int) < 1) = false := decide_eq_false (by omega)
 have k12 : decide ((k : Int) > 12) = false := decide_eq_false (by omega)
 have kid : idxOf [(k : Int)] [[(k : Int)]] 0 = some 0 := by simp [idxOf]
 have h01 : decide (((0 : Nat) : Int) < 1) = true := rfl
 have h11 : decide (((1 : Nat) : Int) < 1) = false := rfl
 obtain ⟨N, hN⟩ : ∃ N, N = 2 ^ w := ⟨_, rfl⟩
 rw [← hN] at hl hp hg hxor c158 ⊢
 generalize vcL val m N = V at hl hg c158 ⊢
 subst hl
 refine zb7 (za0 Tryz.func81 chk81) (zaz (K := fun v H _ => ∃ nm, v = .tup [.sl nm 5 0 V.length V.length true, .d (iD 0)] ∧ H.get nm = some (dblk 5 (vcL (appL k n val) m V.length))) (za2 pok Tryz.func81 chk81 ?_) ?_)
 ·conv => whnf
  repeat' first | ((first | refine LookP.mk _ rfl ?_ | refine ShlP.mk _ (by first | (simp only [List.set, over, List.take, List.drop, List.append_eq, List.nil_append, List.cons_append, List.length]; rfl) | rfl) ?_ | refine zaj c158 ?_ | refine zaq c159 ?_ | refine knownB z0 ?_ | refine knownB k1 ?_ | refine knownB k12 ?_ | refine zg0 c160 (.d _) (zia (zh9 rfl)) rfl ?_ | refine HpP.force ?_); conv => whnf)
  refine zar pok (fun q => ⟨[(0, .d (.sl V t)), (3, .ptr 0 4 0 0), (39, .d (.sl [[iD n]] true)), (40, .d (iD 1)), (41, .d (iD q))], [(0, some (.arr 4 [[.d (iD k), .d (.sl [[iD n]] true), .d (iD 0), .d (iD 0)]]))], 2⟩) (1) (fun _ => True) (trivial) ?_ (by kernel_rfl) ?_ ?_
  ·refine zad (by first | exact Nat.zero_le _ | exact Nat.le_of_ble_eq_true rfl) ?_ ?_ trivial
   ·repeat' first | exact trivial | refine ⟨⟨by first | rfl | assumption, rfl⟩, ?_⟩
   ·repeat' first | exact trivial | refine ⟨⟨ltB rfl, _, rfl, by first | rfl | assumption, by first | exact zaf rfl | exact zaa _ _ _ | exact zab rfl⟩, ?_⟩
  ·intro q A_q h_q I_q N_q
   have e_q : iadd .i64 (q : Int) 1 = ((q + 1 : Nat) : Int) := zai (by first | omega | (simp at *; omega))
   obtain rfl : q = 0 := by omega
   conv => whnf
   repeat' first | ((first | refine LookP.mk _ rfl ?_ | refine And.intro (by first | exact ⟨Nat.zero_le _, by simp, fun el h => by rw [List.mem_singleton.1 h]; rfl⟩ | assumption | exact ⟨by kernel_rfl, rfl⟩ | decide | omega) ?_ | refine knownB h01 ?_ | refine zaj c25 ?_); conv => whnf)
   refine N_q _ ?_ ?_
   ·first | trivial | assumption | omega
   ·refine zad (by first | exact Nat.zero_le _ | exact Nat.le_of_ble_eq_true rfl) ?_ ?_ trivial
    ·repeat' first | exact trivial | refine ⟨⟨by first | rfl | assumption | exact congrArg (fun n => AV.d (iD n)) e_q, rfl⟩, ?_⟩
    ·repeat' first | exact trivial | refine ⟨⟨ltB rfl, _, rfl, by first | rfl | assumption, by first | exact zaf rfl | exact zaa _ _ _ | exact zab rfl⟩, ?_⟩
  ·intro A_last I_last
   conv => whnf
   repeat' first | ((first | refine LookP.mk _ rfl ?_ | refine knownB h11 ?_); conv => whnf)
   refine za9 pok Tryz.func162 chk162 ?_
   conv => whnf
   repeat' first | (refine LookP.mk _ rfl ?_; conv => whnf)
   refine za9 pok Tryz.func226 chk226 ?_
   conv => whnf
   repeat' first | ((first | refine ShlP.mk _ rfl ?_ | (refine And.intro (by first | exact ⟨Int.natCast_nonneg _, rfl, by show 40 * ((V.length : Nat) : Int).toNat ≤ 281474976710656; rw [Int.toNat_natCast]; omega, by decide, by decide⟩ | assumption | exact ⟨by kernel_rfl, rfl⟩ | decide | omega) ?_) | refine zaj c263 ?_ | rw [kid] | refine HpP.force ?_); conv => whnf)
   have hz0 : some (Blk.arr 5 (List.replicate ((V.length : Nat) : Int).toNat [AV.d (iD 0), .d (iD 0), .d (iD 0), .d (iD 0), .d (iD 0)])) = some (dblk 5 (vcL (rowsV (appL k n val) 0 false) m V.length)) := by
    rw [vrow_0, Int.toNat_natCast]
    unfold dblk
    rw [List.map_replicate]; rfl
   have hmat : ∀ b, b < 2 → ([[D.sl (lrow k 0) true], [.sl (lrow k 1) true]] : List (List D))[((b : Nat) : Int).toNat]? = some [.sl (lrow k b) true] := fun b hb => by
    have : b = 0 ∨ b = 1 := by omega
    rcases this with rfl | rfl <;> rfl
   obtain ⟨MT, hMT⟩ : ∃ MT, MT = ([[D.sl (lrow k 0) true], [.sl (lrow k 1) true]] : List (List D)) := ⟨_, rfl⟩
   rw [← hMT] at hmat ⊢
   clear hMT
   refine zar pok (fun r => ⟨[(1, .d (.sl V t)), (5, .ptr 3 4 0 0), (8, .d (.sl MT true)), (9, .sl 4 5 0 V.length V.length true), (31, .d (iD V.length)), (32, .d (iD r))], [(3, some (.arr 4 [[.d (iD k), .d (.sl [[iD n]] true), .d (iD 0), .d (iD 0)]])), (4, some (dblk 5 (vcL (rowsV (appL k n val) r false) m V.length)))], 5⟩) (V.length) (fun _ => True) (trivial) ?_ (by kernel_rfl) ?_ ?_
   ·refine zad (by first | exact Nat.zero_le _ | exact Nat.le_of_ble_eq_true rfl) ?_ ?_ trivial
    ·repeat' first | exact trivial | refine ⟨⟨by first | rfl | assumption, rfl⟩, ?_⟩
    ·repeat' first | exact trivial | refine ⟨⟨ltB rfl, _, rfl, by first | rfl | assumption | exact hz0, by first | exact zaf rfl | exact zaa _ _ _ | exact zab rfl⟩, ?_⟩
   ·intro r A_r h_r I_r N_r
    have e_r : iadd .i64 (r : Int) 1 = ((r + 1 : Nat) : Int) := zai (by first | omega | (simp at *; omega))
    have hin := in81 (r := r) (n := n) (by omega) (by omega)
    have hfm := from81 (r := r) (n := n) (c := lcol k (r.testBit n).toNat) (by omega) (by omega) (zp6 hk (by cases r.testBit n <;> decide))
    rw [lfrom_eq hk rfl] at hfm
    have hgf := hg (lfrom k n r) (hxor r (by omega))
    have hmul := am_mul (k := k) (m := m) (v := val (lfrom k n r)) (h4 _) hm hk (r.testBit n).toNat
    have hap : appL k n val r = (val (lfrom k n r)).map fun p => (p + lun k (r.testBit n).toNat / 2) % 4 := rfl
    rw [← hap] at hmul
    have hset := zyv (appL k n val) m r V.length
    have hat := vrow_at (appL k n val) m h_r
    rw [← zux (appL k n val) m r V.length] at N_r
    generalize vcL (rowsV (appL k n val) r true) m V.length = O1 at hset N_r
    generalize vcL (rowsV (appL k n val) r false) m V.length = O0 at hset hat ⊢
    have hgo : (O0.map fun el => el.map AV.d)[0 + ((r : Nat) : Int).toNat]? = some ((amL none m).map AV.d) := by
     rw [Nat.zero_add, Int.toNat_natCast, List.getElem?_map, hat]; rfl
    have hlt : decide ((r : Int) < (V.length : Int)) = true := decide_eq_true (by omega)
    obtain ⟨b, hb⟩ : ∃ b, b = (r.testBit n).toNat := ⟨_, rfl⟩
    rw [← hb] at hin hfm hmul
    have hb2 : b < 2 := by rw [hb]; cases r.testBit n <;> decide
    have hgm := hmat b hb2
    have hrow := fun c hc => (zwu (c := c) hb2 hk hc).1
    have hrl := (zwu (c := 0) hb2 hk (by decide)).2
    have hlc := zp6 hk hb2
    obtain ⟨u0, u1, u2, u3, u4, hu, huz⟩ := un_nz hb2 hk
    obtain ⟨a0, a1, a2, a3, a4, ha⟩ := zk3 (val (lfrom k n r)) m
    obtain ⟨b0, b1, b2, b3, b4, hbb⟩ := zk3 (appL k n val r) m
    unfold amD at hmul
    rw [ha, hbb, hu] at hmul
    rw [ha] at hgf
    rw [hbb] at hset
    have hset : some (Blk.arr 5 ((O0.map fun el => el.map AV.d).set (0 + ((r : Nat) : Int).toNat) ([iD b0, iD b1, iD b2, iD b3, iD b4].map AV.d))) = some (dblk 5 O1) := by
     unfold dblk
     rw [Nat.zero_add, Int.toNat_natCast, ← List.map_set, hset]
    generalize lcol k b = lc at hrow hlc hfm
    generalize lrow k b = R at hgm hrow hrl
    conv => whnf
    repeat' first | ((first | refine LookP.mk _ rfl ?_ | refine knownB hlt ?_); conv => whnf)
    refine zar pok (fun q => ⟨[(1, .d (.sl V t)), (5, .ptr 3 4 0 0), (8, .d (.sl MT true)), (9, .sl 4 5 0 V.length V.length true), (10, .d (iD r)), (11, .d (iD (twoQ 0 (b : Int) q))), (12, .d (iD (twoQ (r : Int) (rsI r n) q))), (31, .d (iD V.length)), (32, .d (iD r)), (37, .d (.sl [[iD n]] true)), (38, .d (iD 1)), (39, .d (iD q))], [(3, some (.arr 4 [[.d (iD k), .d (.sl [[iD n]] true), .d (iD 0), .d (iD 0)]])), (4, some (dblk 5 O0))], 5⟩) (1) (fun _ => True) (trivial) ?_ (by kernel_rfl) ?_ ?_
    ·refine zad (by first | exact Nat.zero_le _ | exact Nat.le_of_ble_eq_true rfl) ?_ ?_ trivial
     ·repeat' first | exact trivial | refine ⟨⟨by first | rfl | assumption, rfl⟩, ?_⟩
     ·repeat' first | exact trivial | refine ⟨⟨ltB rfl, _, rfl, by first | rfl | assumption, by first | exact zaf rfl | exact zaa _ _ _ | exact zab rfl⟩, ?_⟩
    ·intro q A_q h_q I_q N_q
     have e_q : iadd .i64 (q : Int) 1 = ((q + 1 : Nat) : Int) := zai (by first | omega | (simp at *; omega))
     obtain rfl : q = 0 := by omega
     conv => whnf
     repeat' first | ((first | refine LookP.mk _ rfl ?_ | refine And.intro (by first | exact hnn | exact Int.natCast_nonneg _ | assumption | exact ⟨by kernel_rfl, rfl⟩ | decide | omega) ?_ | refine knownB h01 ?_); conv => whnf)
     refine N_q _ ?_ ?_
     ·first | trivial | assumption | omega
     ·refine zad (by first | exact Nat.zero_le _ | exact Nat.le_of_ble_eq_true rfl) ?_ ?_ trivial
      ·repeat' first | exact trivial | refine ⟨⟨by first | rfl | assumption | exact congrArg (fun n => AV.d (iD n)) e_q | exact congrArg (fun n => AV.d (iD n)) hin, rfl⟩, ?_⟩
      ·repeat' first | exact trivial | refine ⟨⟨ltB rfl, _, rfl, by first | rfl | assumption, by first | exact zaf rfl | exact zaa _ _ _ | exact zab rfl⟩, ?_⟩
    ·intro A_last I_last
     conv => whnf
     repeat' first | ((first | refine LookP.mk _ (by first | rfl | exact hgm) ?_ | refine And.intro (by first | exact Int.natCast_nonneg _ | assumption | exact ⟨by kernel_rfl, rfl⟩ | decide | omega) ?_ | refine knownB h11 ?_); conv => whnf)
     refine zar pok (fun c => ⟨[(1, .d (.sl V t)), (5, .ptr 3 4 0 0), (8, .d (.sl MT true)), (9, .sl 4 5 0 V.length V.length true), (10, .d (iD r)), (12, .d (iD (rsI r n))), (15, .d (.bool (Nat.ble c lc))), (31, .d (iD V.length)), (32, .d (iD r)), (60, .d (.sl R true)), (61, .d (iD R.length)), (62, .d (iD c))], [(3, some (.arr 4 [[.d (iD k), .d (.sl [[iD n]] true), .d (iD 0), .d (iD 0)]])), (4, some (dblk 5 (if Nat.ble c lc = true then O0 else O1)))], 5⟩) (2) (fun _ => True) (trivial) ?_ (by kernel_rfl) ?_ ?_
     ·refine zad (by first | exact Nat.zero_le _ | exact Nat.le_of_ble_eq_true rfl) ?_ ?_ trivial
      ·repeat' first | exact trivial | refine ⟨⟨by first | rfl | assumption, rfl⟩, ?_⟩
      ·repeat' first | exact trivial | refine ⟨⟨ltB rfl, _, rfl, by first | rfl | assumption, by first | exact zaf rfl | exact zaa _ _ _ | exact zab rfl⟩, ?_⟩
     ·intro c A_c h_c I_c N_c
      have e_c : iadd .i64 (c : Int) 1 = ((c + 1 : Nat) : Int) := zai (by first | omega | (simp at *; omega))
      have hc2 : decide ((c : Int) < (R.length : Int)) = true := decide_eq_true (by omega)
      have hgc := hrow c (by omega)
      by_cases ec : c = lc
      ·have hT : Nat.ble c lc = true := Nat.ble_eq_true_of_le (by omega)
       have hF : Nat.ble (c + 1) lc = false := Bool.eq_false_iff.2 fun q => by have := Nat.le_of_ble_eq_true q; omega
       rw [if_pos ec, hu] at hgc
       rw [hF, if_neg (by decide)] at N_c
       rw [hT, if_pos rfl]
       rw [← ec] at hfm
       conv => whnf
       repeat' first | ((first | refine LookP.mk _ (by first | rfl | exact hgc) ?_ | refine ShlP.mk _ (by first | (simp only [List.set, over, List.take, List.drop, List.append_eq, List.nil_append, List.cons_append, List.length]; rfl) | rfl) ?_ | refine And.intro (by first | exact Int.natCast_nonneg _ | assumption | exact ⟨by kernel_rfl, rfl⟩ | decide | omega) ?_ | refine knownB hc2 ?_ | refine knownB huz ?_ | refine HpP.force ?_); conv => whnf)
       refine zar pok (fun q => ⟨[(1, .d (.sl V t)), (5, .ptr 3 4 0 0), (8, .d (.sl MT true)), (9, .sl 4 5 0 V.length V.length true), (10, .d (iD r)), (12, .d (iD (rsI r n))), (15, .d (.bool true)), (16, .d (iD c)), (17, .ptr 5 5 0 0), (18, .d (iD (twoQ (rsI r n) ((lfrom k n r : Nat) : Int) q))), (31, .d (iD V.length)), (32, .d (iD r)), (60, .d (.sl R true)), (61, .d (iD R.length)), (62, .d (iD c)), (72, .d (.sl [[iD n]] true)), (73, .d (iD 1)), (74, .d (iD q))], [(3, some (.arr 4 [[.d (iD k), .d (.sl [[iD n]] true), .d (iD 0), .d (iD 0)]])), (4, some (dblk 5 O0)), (5, some (.arr 5 [[iD u0, iD u1, iD u2, iD u3, iD u4].map AV.d]))], 6⟩) (1) (fun _ => True) (trivial) ?_ (by kernel_rfl) ?_ ?_
       ·refine zad (by first | exact Nat.zero_le _ | exact Nat.le_of_ble_eq_true rfl) ?_ ?_ trivial
        ·repeat' first | exact trivial | refine ⟨⟨by first | rfl | assumption, rfl⟩, ?_⟩
        ·repeat' first | exact trivial | refine ⟨⟨ltB rfl, _, rfl, by first | rfl | assumption, by first | exact zaf rfl | exact zaa _ _ _ | exact zab rfl⟩, ?_⟩
       ·intro q A_q h_q I_q N_q
        have e_q : iadd .i64 (q : Int) 1 = ((q + 1 : Nat) : Int) := zai (by first | omega | (simp at *; omega))
        obtain rfl : q = 0 := by omega
        conv => whnf
        repeat' first | ((first | refine LookP.mk _ rfl ?_ | refine And.intro (by first | exact hnn | exact Int.natCast_nonneg _ | assumption | exact ⟨by kernel_rfl, rfl⟩ | decide | omega) ?_ | refine knownB h01 ?_); conv => whnf)
        refine N_q _ ?_ ?_
        ·first | trivial | assumption | omega
        ·refine zad (by first | exact Nat.zero_le _ | exact Nat.le_of_ble_eq_true rfl) ?_ ?_ trivial
         ·repeat' first | exact trivial | refine ⟨⟨by first | rfl | assumption | exact congrArg (fun n => AV.d (iD n)) e_q | exact congrArg (fun n => AV.d (iD n)) hfm, rfl⟩, ?_⟩
         ·repeat' first | exact trivial | refine ⟨⟨ltB rfl, _, rfl, by first | rfl | assumption, by first | exact zaf rfl | exact zaa _ _ _ | exact zab rfl⟩, ?_⟩
       ·intro A_last I_last
        conv => whnf
        repeat' first | ((first | refine LookP.mk _ (by first | rfl | exact hgf | exact hgo) ?_ | refine ShlP.mk _ (by first | (simp only [List.set, over, List.take, List.drop, List.append_eq, List.nil_append, List.cons_append, List.length]; rfl) | rfl) ?_ | refine And.intro (by first | exact ⟨Int.natCast_nonneg _, by omega⟩ | exact Int.natCast_nonneg _ | assumption | exact ⟨by kernel_rfl, rfl⟩ | decide | omega) ?_ | refine knownB h11 ?_ | refine zaq hmul ?_ | refine knownB z1 ?_ | refine HpP.force ?_); conv => whnf)
        refine N_c _ ?_ ?_
        ·first | trivial | assumption | omega
        ·refine zad (by first | exact Nat.zero_le _ | exact Nat.le_of_ble_eq_true rfl) ?_ ?_ trivial
         ·repeat' first | exact trivial | refine ⟨⟨by first | rfl | assumption | exact congrArg (fun n => AV.d (iD n)) e_c, rfl⟩, ?_⟩
         ·repeat' first | exact trivial | refine ⟨⟨ltB rfl, _, rfl, by first | rfl | assumption | exact hset, by first | exact zaf rfl | exact zaa _ _ _ | exact zab rfl⟩, ?_⟩
      ·have hT : Nat.ble (c + 1) lc = Nat.ble c lc := by
        rw [Bool.eq_iff_iff, Nat.ble_eq, Nat.ble_eq]; omega
       have zz : ([(0 : Int), 0, 0, 0, 0] == [0, 0, 0, 0, 0]) = true := rfl
       rw [if_neg ec, show amL none 0 = [iD 0, iD 0, iD 0, iD 0, iD 0] from rfl] at hgc
       rw [hT] at N_c
       generalize Nat.ble c lc = bb at N_c ⊢
       generalize (if bb = true then O0 else O1) = OO at N_c ⊢
       conv => whnf
       repeat' first | ((first | refine LookP.mk _ (by first | rfl | exact hgc) ?_ | refine ShlP.mk _ (by first | (simp only [List.set, over, List.take, List.drop, List.append_eq, List.nil_append, List.cons_append, List.length]; rfl) | rfl) ?_ | refine And.intro (by first | exact Int.natCast_nonneg _ | assumption | exact ⟨by kernel_rfl, rfl⟩ | decide | omega) ?_ | refine knownB hc2 ?_ | refine knownB zz ?_ | refine HpP.force ?_); conv => whnf)
       refine N_c _ ?_ ?_
       ·first | trivial | assumption | omega
       ·refine zad (by first | exact Nat.zero_le _ | exact Nat.le_of_ble_eq_true rfl) ?_ ?_ trivial
        ·repeat' first | exact trivial | refine ⟨⟨by first | rfl | assumption | exact congrArg (fun n => AV.d (iD n)) e_c, rfl⟩, ?_⟩
        ·repeat' first | exact trivial | refine ⟨⟨ltB rfl, _, rfl, by first | rfl | assumption, by first | exact zaf rfl | exact zaa _ _ _ | exact zab rfl⟩, ?_⟩
     ·intro A_last I_last
      have h22 : decide (((2 : Nat) : Int) < (R.length : Int)) = false := decide_eq_false (by omega)
      have hF : Nat.ble 2 lc = false := Bool.eq_false_iff.2 fun q => by have := Nat.le_of_ble_eq_true q; omega
      rw [hF, if_neg (by decide)]
      conv => whnf
      repeat' first | (refine knownB h22 ?_; conv => whnf)
      refine N_r _ ?_ ?_
      ·first | trivial | assumption | omega
      ·refine zad (by first | exact Nat.zero_le _ | exact Nat.le_of_ble_eq_true rfl) ?_ ?_ trivial
       ·repeat' first | exact trivial | refine ⟨⟨by first | rfl | assumption | exact congrArg (fun n => AV.d (iD n)) e_r, rfl⟩, ?_⟩
       ·repeat' first | exact trivial | refine ⟨⟨ltB rfl, _, rfl, by first | rfl | assumption, by first | exact zaf rfl | exact zaa _ _ _ | exact zab rfl⟩, ?_⟩
   ·intro A_last I_last
    rw [zyw]
    have hnl : decide ((V.length : Int) < (V.length : Int)) = false := decide_eq_false (by omega)
    conv => whnf
    repeat' first | (refine knownB hnl ?_; conv => whnf)
    exact fin ⟨4, rfl, rfl⟩
 ·rintro v H _ ⟨nm, rfl, hg⟩
  refine .tup _ _ rfl fun j v d h1 h2 => ?_
  match j, h1, h2 with
  | 0, h1, h2 => simp at h1 h2; subst h1 h2; exact zgl hg (by simp)
  | 1, h1, h2 => simp at h1 h2; subst h1 h2; exact .d _
  | j + 2, h1, _ => simp at h1
end Go.Tz
namespace Go.Tz
open Go Go.AL Go.Proofs
variable {val val' : Nat → Option Nat} {m w P lst : Nat}
theorem chk82 : chkFn Tryz.f82 = true := by kernel_rfl
def omL (k : Nat) (v : Option Nat) (m : Nat) : List D := match v with
 | none => amL none m
 | some q => unL ((k + 2 * q) % 8) m
theorem om_mul {k : Nat} {v : Option Nat} (hv : ∀ p, v = some p → p < 4) (hm : m ≤ 5) (hk : k < 8) : PC Pr GK 75 [.agg (unL k 0), amD v m] (.tup [.agg (omL k v m), iD 0]) := by
 cases v with
 | none => exact up (mul75z hk)
 | some p => exact up (mul75u hk (hv p rfl) hm)
theorem om_ex (k : Nat) (v : Option Nat) (m : Nat) : ∃ a b c d e : Int, omL k v m = [iD a, iD b, iD c, iD d, iD e] := by
 cases v <;> exact ⟨_, _, _, _, _, rfl⟩
theorem om_eq {v v' : Option Nat} (hv : ∀ p, v' = some p → p < 4) (hP : P < 4) (h : v'.map (fun p => (p + P) % 4) = v) : omL (2 * P) v' m = amL v m := by
 subst h
 cases v' with
 | none => rfl
 | some q =>
  have := hv q rfl
  show unL ((2 * P + 2 * q) % 8) m = amL (some ((q + P) % 4)) m
  rw [← un_am (Nat.mod_lt _ (by decide)), show (2 * P + 2 * q) % 8 = 2 * ((q + P) % 4) by omega]
theorem om_ne {k q : Nat} (hk : k < 2 * P) (hP : P < 4) (hq : q < 4) (h : (q + P) % 4 = 0) {a b c d e : Int} (he : omL k (some q) m = [iD a, iD b, iD c, iD d, iD e]) : a ≠ 1 := by
 have hj : (k + 2 * q) % 8 ≠ 0 ∧ (k + 2 * q) % 8 < 8 := by omega
 have he : unL ((k + 2 * q) % 8) m = [iD a, iD b, iD c, iD d, iD e] := he
 generalize (k + 2 * q) % 8 = j at hj he
 unfold unL nmD at he
 have h1 := congrArg List.head? he
 simp only [List.head?_cons, Option.some.injEq, D.int.injEq, true_and] at h1
 rw [← h1]
 split
 ·omega
 ·split <;> decide
theorem phase82 (hw : w ≤ 5) (hm : m ≤ 5) (h4 : V4 val) (h4' : V4 val') (hP : P < 4) (t t' : Bool) (hl : lst < 2 ^ w) (h0 : val lst = some 0) (hb : ∀ k, k < lst → val k = none) (h : ∀ k, k < 2 ^ w → (val' k).map (fun p => (p + P) % 4) = val k) :
  PC Pr GK 82 [.sl (vcL val m (2 ^ w)) t, .sl (vcL val' m (2 ^ w)) t'] (.tup [iD (2 * P : Nat), iD 0]) := by
 have c1 := zs2 h4 hm hw t
 have c2 := zs2 h4' hm hw t'
 have c3 := zwz h4 hm hw t
 have l1 := zjh val m (2 ^ w)
 have l2 := zjh val' m (2 ^ w)
 have hp : 2 ^ w ≤ 32 := Nat.pow_le_pow_right (n := 2) (by decide) hw
 have g1 : ∀ q : Nat, q < 2 ^ w → (vcL val m (2 ^ w))[(q : Int).toNat]? = some (amL (val q) m) := fun q hq => zk6 hq
 have g2 : ∀ q : Nat, q < 2 ^ w → (vcL val' m (2 ^ w))[(q : Int).toNat]? = some (amL (val' q) m) := fun q hq => zk6 hq
 have z0 : ((0 : Int) != 0) = false := rfl
 obtain ⟨q0, hq0, hq4⟩ : ∃ q, val' lst = some q ∧ (q + P) % 4 = 0 := by
  have := h lst hl
  rw [h0] at this
  cases e : val' lst with
  | none => rw [e] at this; cases this
  | some q => rw [e] at this; exact ⟨q, rfl, Option.some.inj this⟩
 generalize vcL val m (2 ^ w) = V at c1 c3 l1 g1 ⊢
 generalize vcL val' m (2 ^ w) = U at c2 l2 g2 ⊢
 have hne : (((V.length : Nat) : Int) != ((U.length : Nat) : Int)) = false := by rw [l1, l2]; simp
 refine zak pok Tryz.func82 chk82 ?_
 conv => whnf
 repeat' first | ((first | refine zaj c1 ?_ | refine zaj c2 ?_ | refine zaj c3 ?_ | refine knownB z0 ?_ | refine knownB hne ?_); conv => whnf)
 refine zdq (σ := { k : Nat // k ≤ 2 * P }) (fun s => ⟨[(1, .d (.sl U t')), (8, .d (.sl V true)), (31, .d (iD s.1))], [], 0⟩) (fun s => 2 * P - s.1) ⟨0, Nat.zero_le _⟩ ?_ (by kernel_rfl) ?_
 ·refine zad (by first | exact Nat.zero_le _ | exact Nat.le_of_ble_eq_true rfl) ?_ ?_ trivial
  ·repeat' first | exact trivial | refine ⟨⟨by first | rfl | assumption, rfl⟩, ?_⟩
  ·repeat' first | exact trivial | refine ⟨⟨ltB rfl, _, rfl, by first | rfl | assumption, by first | exact zaf rfl | exact zaa _ _ _ | exact zab rfl⟩, ?_⟩
 ·rintro ⟨k, hk⟩ A hA
  dsimp only at hA ⊢
  have e1 : iadd .i64 (k : Int) 1 = ((k + 1 : Nat) : Int) := zai (b := 1) (by omega)
  have h8 : decide ((k : Int) < 8) = true := decide_eq_true (by omega)
  have cO := up (zcp (k := k) (by omega))
  by_cases ek : k = 2 * P
  ·conv => whnf
   repeat' first | (refine knownB h8 ?_; conv => whnf)
   refine zar pok (fun i => ⟨[(1, .d (.sl U t')), (8, .d (.sl V true)), (9, .d (iD k)), (31, .d (iD k)), (34, .d (.sl U t')), (35, .d (iD U.length)), (36, .d (iD i))], [], 0⟩) (U.length) (fun _ => True) (trivial) ?_ (by kernel_rfl) ?_ ?_
   ·refine zad (by first | exact Nat.zero_le _ | exact Nat.le_of_ble_eq_true rfl) ?_ ?_ trivial
    ·repeat' first | exact trivial | refine ⟨⟨by first | rfl | assumption, rfl⟩, ?_⟩
    ·repeat' first | exact trivial | refine ⟨⟨ltB rfl, _, rfl, by first | rfl | assumption, by first | exact zaf rfl | exact zaa _ _ _ | exact zab rfl⟩, ?_⟩
   ·intro i A_i h_i I_i N_i
    have e_i : iadd .i64 (i : Int) 1 = ((i + 1 : Nat) : Int) := zai (by first | omega | (simp at *; omega))
    have hgu := g2 i (by omega)
    have hgv := g1 i (by omega)
    have cM := om_mul (m := m) (v := val' i) (k := k) (h4' i) hm (by omega)
    have heq := om_eq (m := m) (h4' i) hP (h i (by omega))
    rw [← ek] at heq
    obtain ⟨a0, a1, a2, a3, a4, ha⟩ := zk3 (val' i) m
    obtain ⟨b0, b1, b2, b3, b4, hbb⟩ := zk3 (val i) m
    rw [hbb] at heq hgv
    rw [heq] at cM
    unfold amD at cM
    rw [ha] at cM hgu
    conv => whnf
    repeat (refine LookP.mk _ rfl ?_; conv => whnf)
    intro t ht
    cases t
    ·exfalso; first | (simp at ht; done) | (simp at ht; omega)
    conv => whnf
    repeat' first | ((first | refine LookP.mk _ (by first | rfl | exact hgu | exact hgv) ?_ | refine ShlP.mk _ (by first | (simp only [List.set, over, List.take, List.drop, List.append_eq, List.nil_append, List.cons_append, List.length]; rfl) | rfl) ?_ | refine And.intro (by first | exact Int.natCast_nonneg _ | assumption | exact ⟨by kernel_rfl, rfl⟩ | decide | omega) ?_ | refine zaq cO ?_ | refine zaq cM ?_ | refine HpP.force ?_); conv => whnf) | (intro t ht; cases t <;> conv => whnf)
    ·refine N_i _ ?_ ?_
     ·first | trivial | assumption | omega
     ·refine zad (by first | exact Nat.zero_le _ | exact Nat.le_of_ble_eq_true rfl) ?_ ?_ trivial
      ·repeat' first | exact trivial | refine ⟨⟨by first | rfl | assumption | exact congrArg (fun n => AV.d (iD n)) e_i, rfl⟩, ?_⟩
      ·repeat' first | exact trivial | refine ⟨⟨ltB rfl, _, rfl, by first | rfl | assumption, by first | exact zaf rfl | exact zaa _ _ _ | exact zab rfl⟩, ?_⟩
    ·exfalso; simp at ht
   ·intro A_last I_last
    conv => whnf
    repeat (refine LookP.mk _ rfl ?_; conv => whnf)
    intro t ht
    cases t
    rotate_left
    ·exfalso; first | (simp at ht; done) | (simp at ht; omega)
    conv => whnf
    skip
    subst ek
    exact fin rfl
  ·conv => whnf
   repeat' first | (refine knownB h8 ?_; conv => whnf)
   refine zdq (σ := { i : Nat // i ≤ lst }) (fun s => ⟨[(1, .d (.sl U t')), (8, .d (.sl V true)), (9, .d (iD k)), (31, .d (iD k)), (34, .d (.sl U t')), (35, .d (iD U.length)), (36, .d (iD s.1))], [], 0⟩) (fun s => lst - s.1) ⟨0, Nat.zero_le _⟩ ?_ (by kernel_rfl) ?_
   ·refine zad (by first | exact Nat.zero_le _ | exact Nat.le_of_ble_eq_true rfl) ?_ ?_ trivial
    ·repeat' first | exact trivial | refine ⟨⟨by first | rfl | assumption, rfl⟩, ?_⟩
    ·repeat' first | exact trivial | refine ⟨⟨ltB rfl, _, rfl, by first | rfl | assumption, by first | exact zaf rfl | exact zaa _ _ _ | exact zab rfl⟩, ?_⟩
   ·rintro ⟨i, hi⟩ B hB
    dsimp only at hB ⊢
    have e2 : iadd .i64 (i : Int) 1 = ((i + 1 : Nat) : Int) := zai (b := 1) (by omega)
    have hlt : decide ((i : Int) < (U.length : Int)) = true := decide_eq_true (by omega)
    have hgu := g2 i (by omega)
    have hgv := g1 i (by omega)
    have cM := om_mul (m := m) (v := val' i) (k := k) (h4' i) hm (by omega)
    by_cases ei : i = lst
    ·subst ei
     obtain ⟨a0, a1, a2, a3, a4, ha⟩ := zk3 (val' i) m
     obtain ⟨b0, b1, b2, b3, b4, hbb⟩ := om_ex k (val' i) m
     unfold amD at cM
     rw [ha, hbb] at cM
     rw [ha] at hgu
     rw [hq0] at hbb
     have hn1 := om_ne (by omega) hP (h4' i q0 hq0) hq4 hbb
     rw [h0, show amL (some 0) m = [iD 1, iD 0, iD 0, iD 0, iD m] from rfl] at hgv
     conv => whnf
     repeat' first | ((first | refine LookP.mk _ (by first | rfl | exact hgu | exact hgv) ?_ | refine ShlP.mk _ (by first | (simp only [List.set, over, List.take, List.drop, List.append_eq, List.nil_append, List.cons_append, List.length]; rfl) | rfl) ?_ | refine And.intro (by first | exact Int.natCast_nonneg _ | assumption | exact ⟨by kernel_rfl, rfl⟩ | decide | omega) ?_ | refine knownB hlt ?_ | refine zaq cO ?_ | refine zaq cM ?_ | refine HpP.force ?_); conv => whnf) | (intro t ht; cases t <;> conv => whnf)
     ·exfalso; simp [hn1] at ht
     ·refine hA _ ⟨k + 1, by omega⟩ ?_ (by show 2 * P - (k + 1) < 2 * P - k; omega)
      refine zad (by first | exact Nat.zero_le _ | exact Nat.le_of_ble_eq_true rfl) ?_ ?_ trivial
      ·repeat' first | exact trivial | refine ⟨⟨by first | rfl | assumption | exact congrArg (fun n => AV.d (iD n)) e1, rfl⟩, ?_⟩
      ·repeat' first | exact trivial | refine ⟨⟨ltB rfl, _, rfl, by first | rfl | assumption, by first | exact zaf rfl | exact zaa _ _ _ | exact zab rfl⟩, ?_⟩
    ·have hv := hb i (by omega)
     have hv' : val' i = none := by
      have := h i (by omega)
      rw [hv] at this
      exact Option.map_eq_none_iff.1 this
     unfold amD at cM
     rw [hv', show amL none m = [iD 0, iD 0, iD 0, iD 0, iD 0] from rfl] at hgu
     rw [hv, show amL none m = [iD 0, iD 0, iD 0, iD 0, iD 0] from rfl] at hgv
     rw [hv'] at cM
     have cM : PC Pr GK 75 [.agg (unL k 0), .agg [iD 0, iD 0, iD 0, iD 0, iD 0]] (.tup [.agg [iD 0, iD 0, iD 0, iD 0, iD 0], iD 0]) := cM
     conv => whnf
     repeat' first | ((first | refine LookP.mk _ (by first | rfl | exact hgu | exact hgv) ?_ | refine ShlP.mk _ (by first | (simp only [List.set, over, List.take, List.drop, List.append_eq, List.nil_append, List.cons_append, List.length]; rfl) | rfl) ?_ | refine And.intro (by first | exact Int.natCast_nonneg _ | assumption | exact ⟨by kernel_rfl, rfl⟩ | decide | omega) ?_ | refine knownB hlt ?_ | refine zaq cO ?_ | refine zaq cM ?_ | refine HpP.force ?_); conv => whnf) | (intro t ht; cases t <;> conv => whnf)
     ·refine hB _ ⟨i + 1, by omega⟩ ?_ (by show lst - (i + 1) < lst - i; omega)
      refine zad (by first | exact Nat.zero_le _ | exact Nat.le_of_ble_eq_true rfl) ?_ ?_ trivial
      ·repeat' first | exact trivial | refine ⟨⟨by first | rfl | assumption | exact congrArg (fun n => AV.d (iD n)) e2, rfl⟩, ?_⟩
      ·repeat' first | exact trivial | refine ⟨⟨ltB rfl, _, rfl, by first | rfl | assumption, by first | exact zaf rfl | exact zaa _ _ _ | exact zab rfl⟩, ?_⟩
     ·exfalso; simp at ht
end Go.Tz
namespace Go.Tz
open Go Go.AL Go.Proofs Go.Ma
variable {w m lst : Nat} {l : List Ps} {val : Nat → Option Nat}
theorem act4 (e : E) (val : Nat → Option Nat) : V4 (actV e val) := fun k p h => by
 unfold actV at h
 cases hv : val (k ^^^ xv e.2) with
 | none => rw [hv] at h; cases h
 | some q =>
  rw [hv] at h
  have := Option.some.inj h
  rw [← this]
  exact Nat.mod_lt _ (by decide)
theorem xv_eL {n : Nat} (hn : n < 12) (x z : Bool) : xv (eL n x z).2 = cd x (2 ^ n) := by
 have e : (eL n x z).2 = cd x (2 ^ n) ^^^ cd z (2 ^ (12 + n)) := rfl
 rw [e, zf1]
 have h1 : xv (cd x (2 ^ n)) = cd x (2 ^ n) := by
  cases x
  ·rfl
  ·exact Nat.mod_eq_of_lt (Nat.pow_lt_pow_right (by decide) hn)
 have h2 : xv (cd z (2 ^ (12 + n))) = 0 := by
  cases z
  ·rfl
  ·show 2 ^ (12 + n) % 4096 = 0
   rw [Nat.pow_add]
   exact Nat.mul_mod_right _ _
 rw [h1, h2, Nat.xor_zero]
theorem ph_eL {n : Nat} (hn : n < 12) (x z : Bool) (b : Nat) : phE (eL n x z) b = ((x && z).toNat + 2 * (z && b.testBit n).toNat) % 4 := by
 have e : (eL n x z).2 = cd x (2 ^ n) ^^^ cd z (2 ^ (12 + n)) := rfl
 unfold phE
 rw [e, zb9, zf7, zf7, zhf hn, zit hn, Bool.and_false, Bool.false_bne]; rfl
theorem app_act {k n : Nat} (hn : n < 12) (hk : k = 1 ∨ k = 2 ∨ k = 3) (val : Nat → Option Nat) : appL k n val = actV (eL n (decide (k = 1) || decide (k = 2)) (decide (k = 2) || decide (k = 3))) val := by
 funext r
 unfold appL actV
 have hx : lfrom k n r = r ^^^ xv (eL n (decide (k = 1) || decide (k = 2)) (decide (k = 2) || decide (k = 3))).2 := by
  rw [xv_eL hn]
  rcases hk with rfl | rfl | rfl
  ·rfl
  ·rfl
  ·exact (Nat.xor_zero r).symm
 rw [← hx]
 cases val (lfrom k n r) with
 | none => rfl
 | some p =>
  show some _ = some _
  congr 1
  show (p + _) % 4 = (p + _) % 4
  rw [ph_eL hn]
  have ht : (r ^^^ 2 ^ n).testBit n = !r.testBit n := by rw [Nat.testBit_xor, Nat.testBit_two_pow_self]; simp
  rcases hk with rfl | rfl | rfl
  ·simp [lun]
  ·show (p + lun 2 (r.testBit n).toNat / 2) % 4 = (p + (1 + 2 * ((r ^^^ 2 ^ n).testBit n).toNat) % 4) % 4
   rw [ht]
   cases r.testBit n <;> simp [lun]
  ·show (p + lun 3 (r.testBit n).toNat / 2) % 4 = (p + (0 + 2 * (r.testBit n).toNat) % 4) % 4
   cases r.testBit n <;> simp [lun]
def wayV (w X Z : Nat) (val : Nat → Option Nat) (n : Nat) : Nat → Option Nat := actV (nf (ptS w X Z 0 n)) val
theorem way_0 (X Z : Nat) (h : V4 val) : wayV w X Z val 0 = val := by
 have e : nf (ptS w X Z 0 0) = e1 := by
  unfold ptS
  rw [zbz, Nat.pow_zero, Nat.mod_one, Nat.mod_one]; decide
 unfold wayV
 rw [e]
 exact zyn h
theorem zq0 {n X Z : Nat} (hn : n < 12) (hX : X < 4096) (hZ : Z < 4096) : wayV w X Z val (n + 1) = actV (eL n (X.testBit n) (Z.testBit n)) (wayV w X Z val n) := by
 unfold wayV
 rw [act_mul, nf_pt hn, zb0]
 have e : (eL n (X.testBit n) (Z.testBit n)).2 = cd (X.testBit n) (2 ^ n) ^^^ cd (Z.testBit n) (2 ^ (12 + n)) := rfl
 have hb : ∀ Y : Nat, (Y % 2 ^ n).testBit n = false := fun Y => by rw [Nat.testBit_mod_two_pow]; simp
 have hXl : X % 2 ^ n < 4096 := Nat.lt_of_le_of_lt (Nat.mod_le _ _) hX
 have v1 : (nf (ptS w X Z 0 n)).2.testBit n = false := by
  unfold ptS
  rw [zbz]
  show ((X % 2 ^ n) + 4096 * (Z % 2 ^ n)).testBit n = false
  rw [zcw hXl, if_pos hn, hb]
 have v2 : (nf (ptS w X Z 0 n)).2.testBit (12 + n) = false := by
  unfold ptS
  rw [zbz]
  show ((X % 2 ^ n) + 4096 * (Z % 2 ^ n)).testBit (12 + n) = false
  rw [zcw hXl, if_neg (by omega), Nat.add_sub_cancel_left, hb]
 unfold ecom
 rw [e, zb9, zb3, zf7, zf7, zf6, zf6, zhf hn, zit hn, ze0 hn, zf5, v1, v2]
theorem way_app {k n X Z : Nat} (hn : n < 12) (hX : X < 4096) (hZ : Z < 4096) (hk : k = 1 ∨ k = 2 ∨ k = 3) (hx : X.testBit n = (decide (k = 1) || decide (k = 2))) (hz : Z.testBit n = (decide (k = 2) || decide (k = 3))) : wayV w X Z val (n + 1) = appL k n (wayV w X Z val n) := by
 rw [zq0 hn hX hZ, app_act hn hk, hx, hz]
theorem zyu {n X Z : Nat} (hn : n < 12) (hX : X < 4096) (hZ : Z < 4096) (hx : X.testBit n = false) (hz : Z.testBit n = false) : wayV w X Z val (n + 1) = wayV w X Z val n := by
 rw [zq0 hn hX hZ, hx, hz, show eL n false false = e1 by simp [eL, cd, e1]]
 exact zyn (act4 _ _)
theorem way_end (hs : SOk w l) (ha : Amp (l.map nf) w lst m val) {X Z P : Nat} (hX : X < 2 ^ w) (hZ : Z < 2 ^ w) (hg : Gen (l.map nf) (nf (mk w X Z P))) : ∀ r, r < 2 ^ w → (wayV w X Z val w r).map (fun p => (p + P) % 4) = val r := fun r hr => by
 have hp : (2 : Nat) ^ w ≤ 2 ^ 12 := Nat.pow_le_pow_right (by decide) hs.hi
 unfold wayV
 rw [pt_all hX hZ, zym (g := nf (mk w X Z P)) (by rw [zbz, zbz]) (by rw [zbz, zbz]; show ((0 + _) % 4 + P) % 4 = (P + _) % 4 % 4; omega)]
 refine act_own (zbs hs).good ha hg ?_ r hr
 rw [zbz]
 show (X + 4096 * Z) % 4096 < 2 ^ w
 rw [Nat.add_mul_mod_self_left, Nat.mod_eq_of_lt (by omega)]
 exact hX
def cutV (w : Nat) (val : Nat → Option Nat) (k : Nat) : Option Nat := if k < 2 ^ w then val k else none
theorem cut_vc (w : Nat) (val : Nat → Option Nat) (m : Nat) : vcL (cutV w val) m (2 ^ w) = vcL val m (2 ^ w) := by
 refine List.map_congr_left fun k hk => ?_
 unfold cutV
 rw [if_pos (List.mem_range.1 hk)]
theorem cut_amp {L : List E} (ha : Amp L w lst m val) : Amp L w lst m (cutV w val) := by
 refine ⟨ha.sup, ha.lt, ha.min, fun b p hb h => ha.has b p hb ?_, fun b hb h => ha.no b hb ?_, ha.rank⟩
 ·unfold cutV at h; rwa [if_pos hb] at h
 ·unfold cutV at h; rwa [if_pos hb] at h
theorem cut_4 {L : List E} (ha : Amp L w lst m val) : V4 (cutV w val) := fun k p h => by
 unfold cutV at h
 split at h
 ·rename_i hk
  obtain ⟨g, _, _, e⟩ := ha.has k p hk h
  rw [← e]; exact zrw _ _
 ·cases h
theorem gen_xv (hs : SOk w l) : ∀ g, Gen (l.map nf) g → xv g.2 < 2 ^ w := fun g hg => by
 have hin : inV w g.2 := by
  have := zcq hg
  refine zjo _ _ (fun a ha => ?_) _ this
  obtain ⟨x, hx, rfl⟩ := List.mem_map.1 ha
  exact (zbs hs).inv x hx
 refine Nat.lt_pow_two_of_testBit _ fun j hj => ?_
 unfold xv
 rw [show 4096 = 2 ^ 12 from rfl, Nat.testBit_mod_two_pow]
 by_cases h12 : j < 12
 ·rw [zew _ (zqu (.inl ⟨hj, h12⟩)) _ hin, Bool.and_false]
 ·rw [decide_eq_false h12]; rfl
end Go.Tz
namespace Go.Tz
open Go Go.AL Go.Proofs Go.Ma
def cntV (val : Nat → Option Nat) (i : Nat) : Nat := ((List.range i).filter fun k => (val k).isSome).length
theorem cnt_some {val : Nat → Option Nat} {i p : Nat} (h : val i = some p) : cntV val (i + 1) = cntV val i + 1 := by
 unfold cntV
 rw [List.range_succ, List.filter_append, List.length_append, List.filter_cons, h]; rfl
theorem cnt_none {val : Nat → Option Nat} {i : Nat} (h : val i = none) : cntV val (i + 1) = cntV val i := by
 unfold cntV
 rw [List.range_succ, List.filter_append, List.length_append, List.filter_cons, h]; rfl
theorem cnt_pos {val : Nat → Option Nat} {i k p : Nat} (hk : k < i) (h : val k = some p) : 0 < cntV val i := by
 unfold cntV
 exact List.length_pos_of_mem (List.mem_filter.2 ⟨List.mem_range.2 hk, by rw [h]; rfl⟩)
theorem zxy (val : Nat → Option Nat) (i : Nat) : cntV val i ≤ i := by
 have := List.length_filter_le (fun k => (val k).isSome) (List.range i)
 rwa [List.length_range] at this
def fstL (n m : Nat) : List D := match n with
 | 0 => amL none 0
 | _ + 1 => amL (some 0) m
theorem am_nz {p m : Nat} (hp : p < 4) {a b c d e : Int} (he : amL (some p) m = [iD a, iD b, iD c, iD d, iD e]) : ([a, b, c, d, e] == [0, 0, 0, 0, 0]) = false := by
 have : p = 0 ∨ p = 1 ∨ p = 2 ∨ p = 3 := by omega
 rcases this with rfl | rfl | rfl | rfl <;> (simp [amL, nmD] at he; obtain ⟨rfl, rfl, rfl, rfl, rfl⟩ := he; simp)
theorem fst_am {n m : Nat} (h : 0 < n) : fstL n m = amL (some 0) m := by
 cases n with
 | zero => omega
 | succ n => rfl
theorem zmf {f : FuncId} {d1 a b c d : D} {Y : Nat} {x : Int} {H : AHeap} {nx : Nat} {k : AV → AHeap → Nat → Prop} (h : PC Pr GK f [d1, .agg [a, .sl [[iD x]] true, b, c]] d) (hg : H.get Y = some (dblk 1 [[iD x]])) (hk : k (.d d) (dels [Y] H) nx) : CallVC Pr GK f [.d d1, .agg [.d a, .sl Y 1 0 1 1 true, .d b, .d c]] H nx k := by
 refine zwb (L := [Y]) (HL := [(Y, some (dblk 1 [[iD x]]))]) h rfl (zmt hg) (fun i v d h1 h2 => ?_) hk
 match i, h1, h2 with
 | 0, h1, h2 => simp at h1 h2; subst h1 h2; exact .d _
 | 1, h1, h2 =>
  simp at h1 h2; subst h1 h2
  refine .agg _ _ rfl fun j v d h1 h2 => ?_
  match j, h1, h2 with
  | 0, h1, h2 => simp at h1 h2; subst h1 h2; exact .d _
  | 1, h1, h2 => simp at h1 h2; subst h1 h2; exact zgl (zae _ _ _) rfl
  | 2, h1, h2 => simp at h1 h2; subst h1 h2; exact .d _
  | 3, h1, h2 => simp at h1 h2; subst h1 h2; exact .d _
  | j + 4, h1, _ => simp at h1
 | i + 2, h1, _ => simp at h1
theorem chk13 : chkFn Tryz.f13 = true := by kernel_rfl
set_option maxHeartbeats 8000000 in
theorem zo3 (bs : List Int) (t : Bool) : PC Pr GK 13 [bytesD bs t] (.bool true) := by
 have c15 := up awake_c
 refine zak pok Tryz.func13 chk13 ?_
 conv => whnf
 skip
 refine of_useN ?_
 intro b u hb
 conv => whnf
 skip
 have k1 := (sc63 b u 1 5 (by decide) (by omega) (by decide) (by decide)).k
 refine zvg (sn := 0) (nx := 0) (st := 2463534242) k1 (by decide) (by decide) rfl ?_
 intro w st1 nx1 b1 hw8
 conv => whnf
 skip
 have hw : 1 ≤ w ∧ w ≤ 12 := ⟨hw8.1, by omega⟩
 have hw5 : 1 ≤ w ∧ w ≤ 5 := hw8
 have k2 := sk64r b u w 20 hw (by decide) (by omega)
 refine zvg (sn := 0) (nx := nx1) (st := st1) k2 (by decide) (by omega) rfl ?_
 rintro ⟨l, lt⟩ st2 nx2 b2 ⟨hs, hred⟩
 dsimp only at hs hred ⊢
 have hlen := hs.len
 have hpg := (pg_ok hs).amp
 rw [hred] at hpg
 have c20 := up (zyy lt hs (by omega))
 have c21 := fun B (hB : B < 2 ^ w) => up (zqt lt B hs hB)
 have ha := cut_amp hpg
 have h4 := cut_4 hpg
 have hcv := cut_vc w (valW w (pgA w l) (pgL w l)) (pgA w l).length
 have hce : ∀ B : Nat, B < 2 ^ w → valW w (pgA w l) (pgL w l) B = cutV w (valW w (pgA w l) (pgL w l)) B := fun B hB => by unfold cutV; rw [if_pos hB]
 rw [← hcv] at c20
 have c21 : ∀ B : Nat, B < 2 ^ w → PC Pr GK 21 [stD w l lt, iD B] (.tup [amD (cutV w (valW w (pgA w l) (pgL w l)) B) (pgA w l).length, iD 0]) := fun B hB => by
  rw [← hce B hB]; exact c21 B hB
 clear hcv hce hpg
 generalize cutV w (valW w (pgA w l) (pgL w l)) = val at ha h4 c20 c21
 generalize (pgA w l).length = m at ha c20 c21
 generalize pgL w l = lst at ha
 have hcount := zyh ha (gen_xv hs)
 have hcount : cntV val (2 ^ w) = 2 ^ m := hcount
 have hmw : m ≤ w := by
  have := zxy val (2 ^ w)
  rw [hcount] at this
  exact pow_le this
 have hm : m ≤ 5 := by omega
 have hp32 : 2 ^ w ≤ 32 := Nat.pow_le_pow_right (n := 2) (by decide) hw5.2
 have hl0 := amp_lst ha (zbs hs).good
 have hlb := fun k (hk : k < lst) => zuq ha (zbs hs).good hk
 have z0 : ((0 : Int) != 0) = false := rfl
 have hsh : ishl .i64 1 (w : Int) = ((2 ^ w : Nat) : Int) := zbw (by omega)
 have hvl := zjh val m (2 ^ w)
 have hne : ((((vcL val m (2 ^ w)).length : Nat) : Int) != ((2 ^ w : Nat) : Int)) = false := by rw [hvl]; simp
 have hg : ∀ q : Nat, q < 2 ^ w → (vcL val m (2 ^ w))[(q : Int).toNat]? = some (amL (val q) m) := fun q hq => zk6 hq
 have c79 := clone79d val m w hw5.2
 have c82 := fun (val' : Nat → Option Nat) (h4' : V4 val') (P : Nat) (hP : P < 4) (t' : Bool) (h : ∀ k, k < 2 ^ w → (val' k).map (fun p => (p + P) % 4) = val k) => phase82 (m := m) hw5.2 hm h4 h4' hP false t' ha.lt hl0 hlb h
 have c81 := fun (val' : Nat → Option Nat) (h4' : V4 val') (n k : Nat) (hk : k = 1 ∨ k = 2 ∨ k = 3) (hn : n < w) (t' : Bool) => apply81 (m := m) hk hw5 hn h4' hm t'
 conv => whnf
 generalize hV : vcL val m (2 ^ w) = V at c20 hvl hne hg c79 c82
 repeat' first | ((first | refine LookP.mk _ rfl ?_ | refine ShlP.mk _ (by first | (simp only [List.set, over, List.take, List.drop, List.append_eq, List.nil_append, List.cons_append, List.length]; rfl) | rfl) ?_ | refine And.intro (by first | exact Int.natCast_nonneg _ | assumption | exact ⟨by kernel_rfl, rfl⟩ | decide | omega) ?_ | refine zaj c20 ?_ | refine knownB z0 ?_ | rw [hsh] | refine knownB hne ?_ | refine HpP.force ?_); conv => whnf)
 refine zar pok (fun i => ⟨[(4, .d (iD w)), (5, .ptr 1 2 0 0), (7, .d (.sl V false)), (9, .d (iD (cntV val i : Nat))), (10, .ptr 2 5 0 0), (11, .ptr 3 5 0 0), (59, .d (.sl V false)), (60, .d (iD V.length)), (61, .d (iD i))], [(1, some (.arr 2 [[.d (iD w), .d (rowsD l lt)]])), (2, some (dblk 5 [fstL (cntV val i) m])), (3, some (dblk 5 [fstL (cntV val i) (2 * m)]))], 4⟩) (V.length) (fun _ => True) (trivial) ?_ (by kernel_rfl) ?_ ?_
 ·refine zad (by first | exact Nat.zero_le _ | exact Nat.le_of_ble_eq_true rfl) ?_ ?_ trivial
  ·repeat' first | exact trivial | refine ⟨⟨by first | rfl | assumption, rfl⟩, ?_⟩
  ·repeat' first | exact trivial | refine ⟨⟨ltB rfl, _, rfl, by first | rfl | assumption, by first | exact zaf rfl | exact zaa _ _ _ | exact zab rfl⟩, ?_⟩
 ·intro i A_i h_i I_i N_i
  have e_i : iadd .i64 (i : Int) 1 = ((i + 1 : Nat) : Int) := zai (by first | omega | (simp at *; omega))
  have hgi := hg i (by omega)
  have cA := c21 i (by omega)
  have hcnt := zxy val i
  unfold amD at cA
  cases hv : val i with
  | none =>
   rw [cnt_none hv] at N_i
   rw [hv, show amL none m = [iD 0, iD 0, iD 0, iD 0, iD 0] from rfl] at hgi cA
   generalize cntV val i = c at N_i ⊢
   generalize fstL c m = F1 at N_i ⊢
   generalize fstL c (2 * m) = F2 at N_i ⊢
   have zz : ([(0 : Int), 0, 0, 0, 0] == [0, 0, 0, 0, 0]) = true := rfl
   have zn : (!([(0 : Int), 0, 0, 0, 0] == [0, 0, 0, 0, 0])) = false := rfl
   conv => whnf
   repeat (refine LookP.mk _ rfl ?_; conv => whnf)
   intro t ht
   cases t
   ·exfalso; first | (simp at ht; done) | (simp at ht; omega)
   conv => whnf
   repeat' first | ((first | refine LookP.mk _ (by first | rfl | exact hgi) ?_ | refine ShlP.mk _ (by first | (simp only [List.set, over, List.take, List.drop, List.append_eq, List.nil_append, List.cons_append, List.length]; rfl) | rfl) ?_ | refine And.intro (by first | assumption | exact ⟨by kernel_rfl, rfl⟩ | decide | omega) ?_ | refine zaj cA ?_ | refine knownB z0 ?_ | refine knownB zz ?_ | refine HpP.force ?_); conv => whnf)
   refine N_i _ ?_ ?_
   ·first | trivial | assumption | omega
   ·refine zad (by first | exact Nat.zero_le _ | exact Nat.le_of_ble_eq_true rfl) ?_ ?_ trivial
    ·repeat' first | exact trivial | refine ⟨⟨by first | rfl | assumption | exact congrArg (fun n => AV.d (iD n)) e_i, rfl⟩, ?_⟩
    ·repeat' first | exact trivial | refine ⟨⟨ltB rfl, _, rfl, by first | rfl | assumption, by first | exact zaf rfl | exact zaa _ _ _ | exact zab rfl⟩, ?_⟩
  | some p =>
   have hp4 := h4 i p hv
   obtain ⟨a0, a1, a2, a3, a4, hx⟩ := zk3 (some p) m
   obtain ⟨n0, n1, n2, n3, n4, hn⟩ := zk3 (some 0) (2 * m)
   have c77 := up (norm77 hp4 hm)
   unfold amD at c77
   rw [hx, hn] at c77
   have hnz := am_nz hp4 hx
   rw [hv, hx] at hgi cA
   rw [cnt_some hv] at N_i
   have hc0 : cntV val i = 0 → p = 0 := fun hc => by
    have : i = lst := by
     refine Nat.le_antisymm (Nat.not_lt.1 fun hlt => ?_) (Nat.not_lt.1 fun hlt => ?_)
     ·have := cnt_pos hlt hl0; omega
     ·rw [hlb i hlt] at hv; cases hv
    rw [this, hl0] at hv
    exact (Option.some.inj hv).symm
   have zx : (!([a0, a1, a2, a3, a4] == [a0, a1, a2, a3, a4])) = false := by simp
   have zn : (!([n0, n1, n2, n3, n4] == [n0, n1, n2, n3, n4])) = false := by simp
   have e1 : iadd .i64 (cntV val i : Int) 1 = ((cntV val i + 1 : Nat) : Int) := zai (b := 1) (by omega)
   generalize cntV val i = c at e1 hc0 N_i ⊢
   have hN2 : fstL (c + 1) (2 * m) = [iD n0, iD n1, iD n2, iD n3, iD n4] := hn
   cases c with
   | zero =>
    have hp0 := hc0 rfl
    subst hp0
    have hN1 : fstL (0 + 1) m = [iD a0, iD a1, iD a2, iD a3, iD a4] := hx
    rw [hN1, hN2] at N_i
    have h11 : (((0 + 1 : Nat) : Int) == 1) = true := rfl
    conv => whnf
    repeat (refine LookP.mk _ rfl ?_; conv => whnf)
    intro t ht
    cases t
    ·exfalso; first | (simp at ht; done) | (simp at ht; omega)
    conv => whnf
    repeat' first | ((first | refine LookP.mk _ (by first | rfl | exact hgi) ?_ | refine ShlP.mk _ (by first | (simp only [List.set, over, List.take, List.drop, List.append_eq, List.nil_append, List.cons_append, List.length]; rfl) | rfl) ?_ | refine And.intro (by first | assumption | exact ⟨by kernel_rfl, rfl⟩ | decide | omega) ?_ | refine zaj cA ?_ | refine zaj c77 ?_ | rw [e1] | refine knownB z0 ?_ | refine knownB hnz ?_ | refine knownB zx ?_ | refine knownB h11 ?_ | refine knownB zn ?_ | refine HpP.force ?_); conv => whnf)
    refine N_i _ ?_ ?_
    ·first | trivial | assumption | omega
    ·refine zad (by first | exact Nat.zero_le _ | exact Nat.le_of_ble_eq_true rfl) ?_ ?_ trivial
     ·repeat' first | exact trivial | refine ⟨⟨by first | rfl | assumption | exact congrArg (fun n => AV.d (iD n)) e_i, rfl⟩, ?_⟩
     ·repeat' first | exact trivial | refine ⟨⟨ltB rfl, _, rfl, by first | rfl | assumption, by first | exact zaf rfl | exact zaa _ _ _ | exact zab rfl⟩, ?_⟩
   | succ c =>
    have hN1 : fstL (c + 1 + 1) m = fstL (c + 1) m := rfl
    have hN3 : fstL (c + 1 + 1) (2 * m) = fstL (c + 1) (2 * m) := rfl
    have hN4 : fstL (c + 1) (2 * m) = [iD n0, iD n1, iD n2, iD n3, iD n4] := hn
    rw [hN1, hN3, hN4] at N_i
    rw [hN4]
    generalize fstL (c + 1) m = F1 at N_i ⊢
    have h11 : (((c + 1 + 1 : Nat) : Int) == 1) = false := beq_false_of_ne (by omega)
    conv => whnf
    repeat (refine LookP.mk _ rfl ?_; conv => whnf)
    intro t ht
    cases t
    ·exfalso; first | (simp at ht; done) | (simp at ht; omega)
    conv => whnf
    repeat' first | ((first | refine LookP.mk _ (by first | rfl | exact hgi) ?_ | refine ShlP.mk _ (by first | (simp only [List.set, over, List.take, List.drop, List.append_eq, List.nil_append, List.cons_append, List.length]; rfl) | rfl) ?_ | refine And.intro (by first | assumption | exact ⟨by kernel_rfl, rfl⟩ | decide | omega) ?_ | refine zaj cA ?_ | refine zaj c77 ?_ | rw [e1] | refine knownB z0 ?_ | refine knownB hnz ?_ | refine knownB zx ?_ | refine knownB zn ?_ | refine HpP.force ?_); conv => whnf)
    refine N_i _ ?_ ?_
    ·first | trivial | assumption | omega
    ·refine zad (by first | exact Nat.zero_le _ | exact Nat.le_of_ble_eq_true rfl) ?_ ?_ trivial
     ·repeat' first | exact trivial | refine ⟨⟨by first | rfl | assumption | exact congrArg (fun n => AV.d (iD n)) e_i, rfl⟩, ?_⟩
     ·repeat' first | exact trivial | refine ⟨⟨ltB rfl, _, rfl, by first | rfl | assumption, by first | exact zaf rfl | exact zaa _ _ _ | exact zab rfl⟩, ?_⟩
 ·intro A_last I_last
  have hcl : cntV val V.length = 2 ^ m := by rw [hvl]; exact hcount
  have hpm := Nat.two_pow_pos m
  rw [hcl, fst_am hpm, fst_am hpm]
  obtain ⟨f0, f1, f2, f3, f4, hf⟩ := zk3 (some 0) m
  have c78 := up (zvr (m := m) (by omega))
  unfold amD at c78
  rw [hf] at c78
  rw [hf]
  have hp6 : 2 ^ m ≤ 32 := Nat.le_trans (Nat.pow_le_pow_right (by decide) hmw) hp32
  generalize amL (some 0) (2 * m) = F2
  conv => whnf
  repeat (refine LookP.mk _ rfl ?_; conv => whnf)
  intro t ht
  cases t
  rotate_left
  ·exfalso; first | (simp at ht; done) | (simp at ht; omega)
  conv => whnf
  skip
  refine zdq (σ := { k : Nat // k ≤ m }) (fun s => ⟨[(4, .d (iD w)), (5, .ptr 1 2 0 0), (7, .d (.sl V false)), (9, .d (iD (2 ^ m : Nat))), (10, .ptr 2 5 0 0), (18, .d (iD s.1))], [(1, some (.arr 2 [[.d (iD w), .d (rowsD l lt)]])), (2, some (dblk 5 [[iD f0, iD f1, iD f2, iD f3, iD f4]]))], 3⟩) (fun s => m - s.1) ⟨0, Nat.zero_le _⟩ ?_ (by kernel_rfl) ?_
  ·refine zad (by first | exact Nat.zero_le _ | exact Nat.le_of_ble_eq_true rfl) ?_ ?_ trivial
   ·repeat' first | exact trivial | refine ⟨⟨by first | rfl | assumption, rfl⟩, ?_⟩
   ·repeat' first | exact trivial | refine ⟨⟨ltB rfl, _, rfl, by first | rfl | assumption, by first | exact zaf rfl | exact zaa _ _ _ | exact zab rfl⟩, ?_⟩
  ·rintro ⟨k, hk⟩ A hA
   dsimp only at hA ⊢
   have e1 : iadd .i64 (k : Int) 1 = ((k + 1 : Nat) : Int) := zai (b := 1) (by omega)
   have hsk : ishl .i64 1 (k : Int) = ((2 ^ k : Nat) : Int) := zbw (by omega)
   have hk0 : (0 : Int) ≤ (k : Int) := Int.natCast_nonneg _
   by_cases ek : k = m
   ·have hlt : decide (((2 ^ k : Nat) : Int) < ((2 ^ m : Nat) : Int)) = false := decide_eq_false (by rw [ek]; omega)
    have hnm : (((2 ^ m : Nat) : Int) != ((2 ^ k : Nat) : Int)) = false := by rw [ek]; simp
    have hff : (!([f0, f1, f2, f3, f4] == [f0, f1, f2, f3, f4])) = false := by simp
    have c78 : PC Pr GK 78 [iD k] (.tup [.agg [iD f0, iD f1, iD f2, iD f3, iD f4], iD 0]) := by rw [ek]; exact c78
    have h0l : 0 < l.length := by rw [hlen]; exact hw.1
    have hl00 : (l.map Ps.l)[(0 : Int).toNat]? = some l[0].l := zkc (k := 0) h0l
    have hq0 : InG w l l[0] := ⟨hs.vl _ (List.getElem_mem _), za7 (zbs hs).good (List.mem_map.2 ⟨_, List.getElem_mem _, rfl⟩)⟩
    generalize l[0] = p0 at hl00 hq0
    conv => whnf
    repeat' first | ((first | refine LookP.mk _ (by first | rfl | exact hl00) ?_ | refine ShlP.mk _ (by first | (simp only [List.set, over, List.take, List.drop, List.append_eq, List.nil_append, List.cons_append, List.length]; rfl) | rfl) ?_ | refine And.intro (by first | exact hk0 | assumption | exact ⟨by kernel_rfl, rfl⟩ | decide | omega) ?_ | rw [hsk] | refine knownB hlt ?_ | refine zaj c78 ?_ | refine knownB z0 ?_ | refine knownB hnm ?_ | refine knownB hff ?_ | refine HpP.force ?_); conv => whnf)
    refine zdq (σ := { s : Nat × Ps // s.1 ≤ l.length ∧ InG w l s.2 }) (fun s => ⟨[(4, .d (iD w)), (7, .d (.sl V false)), (20, .ptr 4 4 0 0), (130, .d (rowsD l lt)), (131, .d (iD (l.map Ps.l).length)), (132, .d (iD s.1.1))], [(4, some (.arr 4 [s.1.2.l.map AV.d]))], 5⟩) (fun s => l.length - s.1.1) ⟨(0, p0), Nat.zero_le _, hq0⟩ ?_ (by kernel_rfl) ?_
    ·refine zad (by first | exact Nat.zero_le _ | exact Nat.le_of_ble_eq_true rfl) ?_ ?_ trivial
     ·repeat' first | exact trivial | refine ⟨⟨by first | rfl | assumption, rfl⟩, ?_⟩
     ·repeat' first | exact trivial | refine ⟨⟨ltB rfl, _, rfl, by first | rfl | assumption, by first | exact zaf rfl | exact zaa _ _ _ | exact zab rfl⟩, ?_⟩
    ·rintro ⟨⟨i, p⟩, hi, hpG⟩ B hB
     dsimp only at hi hpG hB ⊢
     have e1 : iadd .i64 (i : Int) 1 = ((i + 1 : Nat) : Int) := zai (b := 1) (by omega)
     by_cases hil : i < l.length
     ·have hgq := zkc hil
      have hqm : l[i] ∈ l := List.getElem_mem hil
      have hqG : InG w l l[i] := ⟨hs.vl _ hqm, za7 (zbs hs).good (List.mem_map.2 ⟨_, hqm, rfl⟩)⟩
      have c66 := mul66v hw hpG.1 hqG.1
      have hnx := ing_mul hs hpG hqm
      generalize timS p l[i] = pq at c66 hnx
      generalize l[i] = q at c66 hgq hqG
      conv => whnf
      repeat (refine LookP.mk _ rfl ?_; conv => whnf)
      intro t ht
      cases t
      ·exfalso; first | (simp at ht; done) | (simp at ht; omega)
      conv => whnf
      repeat' first | ((first | refine LookP.mk _ (by first | rfl | exact hgq) ?_ | refine ShlP.mk _ (by first | (simp only [List.set, over, List.take, List.drop, List.append_eq, List.nil_append, List.cons_append, List.length]; rfl) | rfl) ?_ | refine And.intro (by first | assumption | exact ⟨by kernel_rfl, rfl⟩ | decide | omega) ?_ | refine HpP.force ?_); conv => whnf)
      refine zar pok (fun j => ⟨[(4, .d (iD w)), (7, .d (.sl V false)), (20, .ptr 4 4 0 0), (22, .ptr 5 4 0 0), (130, .d (rowsD l lt)), (131, .d (iD (l.map Ps.l).length)), (132, .d (iD i)), (138, .sl 6 4 0 2 2 true), (139, .d (iD 2)), (140, .d (iD j))], [(4, some (.arr 4 [p.l.map AV.d])), (5, some (.arr 4 [q.l.map AV.d])), (6, some (dblk 4 [q.l, p.l]))], 7⟩) (2) (fun _ => True) (trivial) ?_ (by kernel_rfl) ?_ ?_
      ·refine zad (by first | exact Nat.zero_le _ | exact Nat.le_of_ble_eq_true rfl) ?_ ?_ trivial
       ·repeat' first | exact trivial | refine ⟨⟨by first | rfl | assumption, rfl⟩, ?_⟩
       ·repeat' first | exact trivial | refine ⟨⟨ltB rfl, _, rfl, by first | rfl | assumption, by first | exact zaf rfl | exact zaa _ _ _ | exact zab rfl⟩, ?_⟩
      ·intro j A_j h_j I_j N_j
       have e_j : iadd .i64 (j : Int) 1 = ((j + 1 : Nat) : Int) := zai (by first | omega | (simp at *; omega))
       obtain ⟨r, hr, hrG⟩ : ∃ r : Ps, (([q.l, p.l] : List (List D)).map fun el => el.map AV.d)[0 + ((j : Nat) : Int).toNat]? = some (r.l.map AV.d) ∧ InG w l r := by
        have hj : j = 0 ∨ j = 1 := by omega
        rcases hj with rfl | rfl
        ·exact ⟨q, rfl, hqG⟩
        ·exact ⟨p, rfl, hpG⟩
       obtain ⟨⟨X, Z, P, rfl, hX, hZ, hP⟩, hgen⟩ := hrG
       have hp12 : 2 ^ w ≤ 4096 := Nat.pow_le_pow_right (n := 2) (by decide) hw.2
       have hend := way_end hs ha hX hZ hgen
       have hj2 : decide ((j : Int) < 2) = true := decide_eq_true (by omega)
       conv => whnf
       repeat' first | ((first | refine LookP.mk _ (by first | rfl | exact hr) ?_ | refine ShlP.mk _ (by first | (simp only [List.set, over, List.take, List.drop, List.append_eq, List.nil_append, List.cons_append, List.length]; rfl) | rfl) ?_ | refine And.intro (by first | exact ⟨Int.natCast_nonneg _, by omega⟩ | assumption | exact ⟨by kernel_rfl, rfl⟩ | decide | omega) ?_ | refine knownB hj2 ?_ | refine zaj c79 ?_ | refine HpP.force ?_); conv => whnf)
       have e2P : imul .i64 2 (P : Int) = ((2 * P : Nat) : Int) := zd2 (a := 2) (by omega)
       have hPP : (((2 * P : Nat) : Int) != ((2 * P : Nat) : Int)) = false := by simp
       refine zdq (σ := { s : Nat × Bool // s.1 ≤ w }) (fun s => ⟨[(4, .d (iD w)), (7, .d (.sl V false)), (20, .ptr 4 4 0 0), (22, .ptr 5 4 0 0), (24, .ptr 7 4 0 0), (25, .d (.sl (vcL (wayV w X Z val s.1.1) m (2 ^ w)) s.1.2)), (130, .d (rowsD l lt)), (131, .d (iD (l.map Ps.l).length)), (132, .d (iD i)), (138, .sl 6 4 0 2 2 true), (139, .d (iD 2)), (140, .d (iD j)), (146, .d (iD w)), (147, .d (iD s.1.1))], [(4, some (.arr 4 [p.l.map AV.d])), (5, some (.arr 4 [q.l.map AV.d])), (6, some (dblk 4 [q.l, p.l])), (7, some (.arr 4 [(mk w X Z P).l.map AV.d]))], 8⟩) (fun s => w - s.1.1) ⟨(0, false), Nat.zero_le _⟩ ?_ (by kernel_rfl) ?_
       ·refine zad (by first | exact Nat.zero_le _ | exact Nat.le_of_ble_eq_true rfl) ?_ ?_ trivial
        ·repeat' first | exact trivial | refine ⟨⟨by first | rfl | assumption | (show AV.d (D.sl V false) = AV.d (D.sl (vcL (wayV w X Z val 0) m (2 ^ w)) false); rw [way_0 _ _ h4, hV]), rfl⟩, ?_⟩
        ·repeat' first | exact trivial | refine ⟨⟨ltB rfl, _, rfl, by first | rfl | assumption, by first | exact zaf rfl | exact zaa _ _ _ | exact zab rfl⟩, ?_⟩
       ·rintro ⟨⟨n, tg⟩, hn⟩ B' hB'
        dsimp only at hn hB' ⊢
        have e3 : iadd .i64 (n : Int) 1 = ((n + 1 : Nat) : Int) := zai (b := 1) (by omega)
        by_cases hnw : n < w
        ·have c80 := letter80 hw hX hZ hP hnw
         have hltn : decide ((n : Int) < (w : Int)) = true := decide_eq_true (by omega)
         rw [zcx (by omega) (by omega) (by omega)] at c80
         have hst := fun k hk => c81 (wayV w X Z val n) (act4 _ _) n k hk hnw tg
         have hsame := zyu (w := w) (val := val) (n := n) (X := X) (Z := Z) (by omega) (by omega) (by omega)
         have happ := fun k => way_app (w := w) (val := val) (k := k) (n := n) (X := X) (Z := Z) (by omega) (by omega) (by omega)
         have z10 : decide ((1 : Int) < 0) = false := rfl
         have z20 : decide ((2 : Int) < 0) = false := rfl
         have z30 : decide ((3 : Int) < 0) = false := rfl
         have z00 : decide ((0 : Int) < 0) = false := rfl
         have z13 : decide ((1 : Int) > 3) = false := rfl
         have z23 : decide ((2 : Int) > 3) = false := rfl
         have z33 : decide ((3 : Int) > 3) = false := rfl
         have z03 : decide ((0 : Int) > 3) = false := rfl
         have p1 : decide ((1 : Int) > 0) = true := rfl
         have p2 : decide ((2 : Int) > 0) = true := rfl
         have p3 : decide ((3 : Int) > 0) = true := rfl
         have p0 : decide ((0 : Int) > 0) = false := rfl
         cases hx : X.testBit n <;> cases hz : Z.testBit n
         all_goals rw [hx, hz] at c80
         ·have c80 : PC Pr GK 80 [(mk w X Z P).d, iD n] (.tup [iD 0, iD 0]) := c80
          have hs0 := hsame hx hz
          rw [← hs0]
          generalize hW1 : vcL (wayV w X Z val (n + 1)) m (2 ^ w) = W1
          have hent : AV.d (D.sl W1 tg) = AV.d (D.sl (vcL (wayV w X Z val (n + 1)) m (2 ^ w)) tg) := by rw [hW1]
          conv => whnf
          repeat' first | ((first | refine LookP.mk _ rfl ?_ | refine knownB hltn ?_ | refine zaj c80 ?_ | refine knownB z0 ?_); conv => whnf)
          refine hB' _ ⟨(n + 1, tg), hnw⟩ ?_ (by show w - (n + 1) < w - n; omega)
          refine zad (by first | exact Nat.zero_le _ | exact Nat.le_of_ble_eq_true rfl) ?_ ?_ trivial
          ·repeat' first | exact trivial | refine ⟨⟨by first | rfl | assumption | exact congrArg (fun n => AV.d (iD n)) e3 | exact hent, rfl⟩, ?_⟩
          ·repeat' first | exact trivial | refine ⟨⟨ltB rfl, _, rfl, by first | rfl | assumption, by first | exact zaf rfl | exact zaa _ _ _ | exact zab rfl⟩, ?_⟩
         ·have c80 : PC Pr GK 80 [(mk w X Z P).d, iD n] (.tup [iD 3, iD 0]) := c80
          have cL := hst 3 (by decide)
          rw [← happ 3 (by decide) hx hz] at cL
          generalize hW0 : vcL (wayV w X Z val n) m (2 ^ w) = W0 at cL ⊢
          generalize hW1 : vcL (wayV w X Z val (n + 1)) m (2 ^ w) = W1 at cL
          have cL : PC Pr GK 81 [.sl W0 tg, .agg [iD 3, .sl [[iD n]] true, iD 0, iD 0]] (.tup [.sl W1 true, iD 0]) := cL
          have hent : AV.d (D.sl W1 true) = AV.d (D.sl (vcL (wayV w X Z val (n + 1)) m (2 ^ w)) true) := by rw [hW1]
          conv => whnf
          repeat' first | ((first | refine LookP.mk _ rfl ?_ | refine ShlP.mk _ (by first | (simp only [List.set, over, List.take, List.drop, List.append_eq, List.nil_append, List.cons_append, List.length]; rfl) | rfl) ?_ | refine knownB hltn ?_ | refine zaj c80 ?_ | refine knownB z0 ?_ | refine knownB p3 ?_ | refine zmf cL rfl ?_); conv => whnf)
          refine hB' _ ⟨(n + 1, true), hnw⟩ ?_ (by show w - (n + 1) < w - n; omega)
          refine zad (by first | exact Nat.zero_le _ | exact Nat.le_of_ble_eq_true rfl) ?_ ?_ trivial
          ·repeat' first | exact trivial | refine ⟨⟨by first | rfl | assumption | exact congrArg (fun n => AV.d (iD n)) e3 | exact hent, rfl⟩, ?_⟩
          ·repeat' first | exact trivial | refine ⟨⟨ltB rfl, _, rfl, by first | rfl | assumption, by first | exact zaf rfl | exact zaa _ _ _ | exact zab rfl⟩, ?_⟩
         ·have c80 : PC Pr GK 80 [(mk w X Z P).d, iD n] (.tup [iD 1, iD 0]) := c80
          have cL := hst 1 (by decide)
          rw [← happ 1 (by decide) hx hz] at cL
          generalize hW0 : vcL (wayV w X Z val n) m (2 ^ w) = W0 at cL ⊢
          generalize hW1 : vcL (wayV w X Z val (n + 1)) m (2 ^ w) = W1 at cL
          have cL : PC Pr GK 81 [.sl W0 tg, .agg [iD 1, .sl [[iD n]] true, iD 0, iD 0]] (.tup [.sl W1 true, iD 0]) := cL
          have hent : AV.d (D.sl W1 true) = AV.d (D.sl (vcL (wayV w X Z val (n + 1)) m (2 ^ w)) true) := by rw [hW1]
          conv => whnf
          repeat' first | ((first | refine LookP.mk _ rfl ?_ | refine ShlP.mk _ (by first | (simp only [List.set, over, List.take, List.drop, List.append_eq, List.nil_append, List.cons_append, List.length]; rfl) | rfl) ?_ | refine knownB hltn ?_ | refine zaj c80 ?_ | refine knownB z0 ?_ | refine knownB p1 ?_ | refine zmf cL rfl ?_); conv => whnf)
          refine hB' _ ⟨(n + 1, true), hnw⟩ ?_ (by show w - (n + 1) < w - n; omega)
          refine zad (by first | exact Nat.zero_le _ | exact Nat.le_of_ble_eq_true rfl) ?_ ?_ trivial
          ·repeat' first | exact trivial | refine ⟨⟨by first | rfl | assumption | exact congrArg (fun n => AV.d (iD n)) e3 | exact hent, rfl⟩, ?_⟩
          ·repeat' first | exact trivial | refine ⟨⟨ltB rfl, _, rfl, by first | rfl | assumption, by first | exact zaf rfl | exact zaa _ _ _ | exact zab rfl⟩, ?_⟩
         ·have c80 : PC Pr GK 80 [(mk w X Z P).d, iD n] (.tup [iD 2, iD 0]) := c80
          have cL := hst 2 (by decide)
          rw [← happ 2 (by decide) hx hz] at cL
          generalize hW0 : vcL (wayV w X Z val n) m (2 ^ w) = W0 at cL ⊢
          generalize hW1 : vcL (wayV w X Z val (n + 1)) m (2 ^ w) = W1 at cL
          have cL : PC Pr GK 81 [.sl W0 tg, .agg [iD 2, .sl [[iD n]] true, iD 0, iD 0]] (.tup [.sl W1 true, iD 0]) := cL
          have hent : AV.d (D.sl W1 true) = AV.d (D.sl (vcL (wayV w X Z val (n + 1)) m (2 ^ w)) true) := by rw [hW1]
          conv => whnf
          repeat' first | ((first | refine LookP.mk _ rfl ?_ | refine ShlP.mk _ (by first | (simp only [List.set, over, List.take, List.drop, List.append_eq, List.nil_append, List.cons_append, List.length]; rfl) | rfl) ?_ | refine knownB hltn ?_ | refine zaj c80 ?_ | refine knownB z0 ?_ | refine knownB p2 ?_ | refine zmf cL rfl ?_); conv => whnf)
          refine hB' _ ⟨(n + 1, true), hnw⟩ ?_ (by show w - (n + 1) < w - n; omega)
          refine zad (by first | exact Nat.zero_le _ | exact Nat.le_of_ble_eq_true rfl) ?_ ?_ trivial
          ·repeat' first | exact trivial | refine ⟨⟨by first | rfl | assumption | exact congrArg (fun n => AV.d (iD n)) e3 | exact hent, rfl⟩, ?_⟩
          ·repeat' first | exact trivial | refine ⟨⟨ltB rfl, _, rfl, by first | rfl | assumption, by first | exact zaf rfl | exact zaa _ _ _ | exact zab rfl⟩, ?_⟩
        ·have hnl : decide ((n : Int) < (w : Int)) = false := decide_eq_false (by omega)
         obtain rfl : n = w := by omega
         have cP := c82 (wayV n X Z val n) (act4 _ _) P hP tg hend
         generalize vcL (wayV n X Z val n) m (2 ^ n) = W0 at cP ⊢
         have hP2 : (((2 * P : Nat) : Int) != imul .i64 2 (mk n X Z P).p) = false := by
          rw [show imul .i64 2 (mk n X Z P).p = ((2 * P : Nat) : Int) from e2P]
          exact hPP
         conv => whnf
         repeat' first | ((first | refine LookP.mk _ rfl ?_ | refine knownB hnl ?_ | refine zaj cP ?_ | refine knownB z0 ?_ | refine knownB hP2 ?_); conv => whnf)
         refine N_j _ ?_ ?_
         ·first | trivial | assumption | omega
         ·refine zad (by first | exact Nat.zero_le _ | exact Nat.le_of_ble_eq_true rfl) ?_ ?_ trivial
          ·repeat' first | exact trivial | refine ⟨⟨by first | rfl | assumption | exact congrArg (fun n => AV.d (iD n)) e_j, rfl⟩, ?_⟩
          ·repeat' first | exact trivial | refine ⟨⟨ltB rfl, _, rfl, by first | rfl | assumption, by first | exact zaf rfl | exact zaa _ _ _ | exact zab rfl⟩, ?_⟩
      ·intro A_last I_last
       have hj2 : decide (((2 : Nat) : Int) < 2) = false := rfl
       conv => whnf
       repeat' first | ((first | refine LookP.mk _ rfl ?_ | refine ShlP.mk _ (by first | (simp only [List.set, over, List.take, List.drop, List.append_eq, List.nil_append, List.cons_append, List.length]; rfl) | rfl) ?_ | refine knownB hj2 ?_ | refine zaj c66 ?_ | refine HpP.force ?_); conv => whnf)
       refine hB _ ⟨(i + 1, pq), hil, hnx⟩ ?_ (by show l.length - (i + 1) < l.length - i; omega)
       refine zad (by first | exact Nat.zero_le _ | exact Nat.le_of_ble_eq_true rfl) ?_ ?_ trivial
       ·repeat' first | exact trivial | refine ⟨⟨by first | rfl | assumption | exact congrArg (fun n => AV.d (iD n)) e1, rfl⟩, ?_⟩
       ·repeat' first | exact trivial | refine ⟨⟨ltB rfl, _, rfl, by first | rfl | assumption, by first | exact zaf rfl | exact zaa _ _ _ | exact zab rfl⟩, ?_⟩
     ·conv => whnf
      repeat (refine LookP.mk _ rfl ?_; conv => whnf)
      intro t ht
      cases t
      rotate_left
      ·exfalso; first | (simp at ht; done) | (simp at ht; omega)
      conv => whnf
      repeat' first | (refine zaj c15 ?_; conv => whnf)
      exact fin rfl
   ·have hlt : decide (((2 ^ k : Nat) : Int) < ((2 ^ m : Nat) : Int)) = true := decide_eq_true (by
     have : 2 ^ k < 2 ^ m := Nat.pow_lt_pow_right (by decide) (by omega)
     omega)
    conv => whnf
    repeat' first | ((first | refine And.intro (by first | exact hk0 | assumption | exact ⟨by kernel_rfl, rfl⟩ | decide | omega) ?_ | rw [hsk] | refine knownB hlt ?_); conv => whnf)
    refine hA _ ⟨k + 1, by omega⟩ ?_ (by show m - (k + 1) < m - k; omega)
    refine zad (by first | exact Nat.zero_le _ | exact Nat.le_of_ble_eq_true rfl) ?_ ?_ trivial
    ·repeat' first | exact trivial | refine ⟨⟨by first | rfl | assumption | exact congrArg (fun n => AV.d (iD n)) e1, rfl⟩, ?_⟩
    ·repeat' first | exact trivial | refine ⟨⟨ltB rfl, _, rfl, by first | rfl | assumption, by first | exact zaf rfl | exact zaa _ _ _ | exact zab rfl⟩, ?_⟩
end Go.Tz
