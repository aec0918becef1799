/- CeilLeast: the plain law. -/
import Derived.Test.YtflkbheginhfiaaHG
import Derived.Test.YtflkbheginhfiaaHJ
namespace Go.Proofs.Ytflkbheginhfiaa.XA
set_option linter.unusedVariables false
set_option linter.unusedSimpArgs false
open Go.RowKit Go.WideMaps Go.Maps Go.Proofs.YtflkbheginhfiaaW.PrintWords Go.Proofs.YtflkbheginhfiaaW.PrintLast Go.Proofs.YtflkbheginhfiaaW.PrintMore
theorem has_mem {l : List Int} {x : Int} : hasF l x = true ↔ x ∈ l := by
  unfold hasF
  rw [List.any_eq_true]
  constructor
  · rintro ⟨y, hy, h⟩
    rw [← show y = x by simpa using h]
    exact hy
  · intro h
    exact ⟨x, h, beq_self_eq_true _⟩
theorem group_mem {rs : List S73} {q n : Nat} {p : Int} : p ∈ groupN rs q n ↔ ∃ i : Nat, i < n ∧ p = i ∧ rootOf rs i = rootOf rs q := by
  unfold groupN
  rw [List.mem_map]
  constructor
  · rintro ⟨i, hi, rfl⟩
    have := List.mem_filter.mp hi
    exact ⟨i, List.mem_range.mp this.1, rfl, by simpa using this.2⟩
  · rintro ⟨i, h1, rfl, h2⟩
    exact ⟨i, List.mem_filter.mpr ⟨List.mem_range.mpr h1, by simp [h2]⟩, rfl⟩
theorem uses_congr {rs : List S73} {a b : Nat} (h : rootOf rs a = rootOf rs b) (l : List Int) : usesF rs a l = usesF rs b l := by
  unfold usesF
  rw [h]
theorem ceil_congr {ts : List S64} {rs : List S73} {is : List S66} {a b : Nat} (h : rootOf rs a = rootOf rs b) : ceilF ts rs is a = ceilF ts rs is b := by
  unfold ceilF taskUsers isrUsers
  simp only [uses_congr h]
theorem uses_yes {rs : List S73} {q p : Nat} (h : rootOf rs p = rootOf rs q) {l : List Int} (hm : (p : Int) ∈ l) : usesF rs q l = true := List.any_eq_true.mpr ⟨_, hm, by simpa using h⟩
theorem top_le : ∀ (L : List (Bool × Nat × Int)) (s : Int × Bool), (s.2 = true → s.1 ≤ (L.foldl (fun s u => topF s u.2.2) s).1) ∧ ∀ u ∈ L, u.2.2 ≤ (L.foldl (fun s u => topF s u.2.2) s).1
  | [], s => ⟨fun _ => Int.le_refl _, fun u hu => by cases hu⟩
  | v :: L, s => by
    obtain ⟨h1, h2⟩ := top_le L (topF s v.2.2)
    have h3 := h1 rfl
    rw [List.foldl_cons]
    refine ⟨fun hs => ?_, fun u hu => ?_⟩
    · refine Int.le_trans ?_ h3
      unfold topF
      rw [hs]
      simp
      omega
    · rcases List.mem_cons.mp hu with rfl | hu
      · refine Int.le_trans ?_ h3
        unfold topF
        dsimp only
        split <;> omega
      · exact h2 u hu
theorem top_one : ∀ (L : List (Bool × Nat × Int)) (s : Int × Bool), (L.foldl (fun s u => topF s u.2.2) s).1 = s.1 ∧ (L = [] ∨ s.2 = true) ∨ ∃ u ∈ L, u.2.2 = (L.foldl (fun s u => topF s u.2.2) s).1
  | [], s => .inl ⟨rfl, .inl rfl⟩
  | v :: L, s => by
    rw [List.foldl_cons]
    rcases top_one L (topF s v.2.2) with ⟨h1, _⟩ | ⟨u, hu, h⟩
    · rw [h1]
      unfold topF
      dsimp only
      split
      · rename_i hs
        rcases Int.le_total s.1 v.2.2 with h | h
        · exact .inr ⟨v, List.mem_cons_self, by omega⟩
        · exact .inl ⟨by omega, .inr hs⟩
      · exact .inr ⟨v, List.mem_cons_self, rfl⟩
    · exact .inr ⟨u, List.mem_cons_of_mem _ hu, h⟩
def allUsers (ts : List S64) (rs : List S73) (is : List S66) (q : Nat) : List (Bool × Nat × Int) := taskUsers rs ts q ts.length ++ isrUsers rs is q is.length
theorem ceil_ge {ts : List S64} {rs : List S73} {is : List S66} {q : Nat} : ∀ u ∈ allUsers ts rs is q, u.2.2 ≤ ceilF ts rs is q := (top_le _ _).2
theorem ceil_at {ts : List S64} {rs : List S73} {is : List S66} {q : Nat} : allUsers ts rs is q = [] ∧ ceilF ts rs is q = -1 ∨ ∃ u ∈ allUsers ts rs is q, u.2.2 = ceilF ts rs is q := by
  rcases top_one (allUsers ts rs is q) (-1, false) with ⟨h1, h2⟩ | h
  · rcases h2 with h2 | h2
    · exact .inl ⟨h2, h1⟩
    · cases h2
  · exact .inr h
theorem task_user {ts : List S64} {rs : List S73} {is : List S66} {q k : Nat} (hk : k < ts.length) (h : usesF rs q (ts.getD k z64).f5 = true) : (false, k, (ts.getD k z64).f1) ∈ allUsers ts rs is q :=
  List.mem_append_left _ (List.mem_filterMap.mpr ⟨k, List.mem_range.mpr hk, by rw [if_pos h]⟩)
theorem isr_user {ts : List S64} {rs : List S73} {is : List S66} {q k : Nat} (hk : k < is.length) (h : usesF rs q (is.getD k z66).f3 = true) : (true, k, (is.getD k z66).f2) ∈ allUsers ts rs is q :=
  List.mem_append_right _ (List.mem_filterMap.mpr ⟨k, List.mem_range.mpr hk, by rw [if_pos h]⟩)
theorem user_of {ts : List S64} {rs : List S73} {is : List S66} {q : Nat} {u : Bool × Nat × Int} (h : u ∈ allUsers ts rs is q) : (∃ k, k < ts.length ∧ u = (false, k, (ts.getD k z64).f1) ∧ usesF rs q (ts.getD k z64).f5 = true) ∨ ∃ k, k < is.length ∧ u = (true, k, (is.getD k z66).f2) ∧ usesF rs q (is.getD k z66).f3 = true := by
  rcases List.mem_append.mp h with h | h
  · obtain ⟨k, hk, hs⟩ := List.mem_filterMap.mp h
    split at hs
    · injection hs with hs
      exact .inl ⟨k, List.mem_range.mp hk, hs.symm, by assumption⟩
    · cases hs
  · obtain ⟨k, hk, hs⟩ := List.mem_filterMap.mp h
    split at hs
    · injection hs with hs
      exact .inr ⟨k, List.mem_range.mp hk, hs.symm, by assumption⟩
    · cases hs
/-! ### 'met' -/
def hitT (ts : List S64) (top gi : Int) (k : Nat) : Bool := hasF (ts.getD k z64).f5 gi && ((ts.getD k z64).f1 == top)
def hitI (is : List S66) (top gi : Int) (k : Nat) : Bool := hasF (is.getD k z66).f3 gi && ((is.getD k z66).f2 == top)
def anyF (f : Nat → Bool) (k : Nat) : Bool := (List.range k).any f
theorem any_succ (f : Nat → Bool) (k : Nat) : anyF f (k + 1) = (anyF f k || f k) := by
  unfold anyF
  rw [List.range_succ, List.any_append]
  simp
theorem any_iff {f : Nat → Bool} {k : Nat} : anyF f k = true ↔ ∃ j, j < k ∧ f j = true := by
  unfold anyF
  rw [List.any_eq_true]
  constructor
  · rintro ⟨j, hj, h⟩
    exact ⟨j, List.mem_range.mp hj, h⟩
  · rintro ⟨j, hj, h⟩
    exact ⟨j, List.mem_range.mpr hj, h⟩
def metG (ts : List S64) (is : List S66) (top : Int) (g : List Int) (a : Nat) : Bool := anyF (hitT ts top (g.getD a 0)) ts.length || anyF (hitI is top (g.getD a 0)) is.length
theorem met_users {ts : List S64} {rs : List S73} {is : List S66} {q : Nat} (hin : RefsOk ts rs is) (hq : q < rs.length) :
    anyF (metG ts is (ceilF ts rs is q) (groupN rs q rs.length)) (groupN rs q rs.length).length = true ↔ allUsers ts rs is q ≠ [] := by
  rw [any_iff]
  constructor
  · rintro ⟨a, ha, h⟩
    have hmem : (groupN rs q rs.length).getD a 0 ∈ groupN rs q rs.length := by rw [List.getD_eq_getElem?_getD, List.getElem?_eq_getElem ha]; exact List.getElem_mem ha
    obtain ⟨p, hp, he, hr⟩ := group_mem.mp hmem
    unfold metG at h
    rw [Bool.or_eq_true] at h
    intro e
    rcases h with h | h
    · obtain ⟨k, hk, h⟩ := any_iff.mp h
      unfold hitT at h
      rw [Bool.and_eq_true] at h
      have := has_mem.mp h.1
      rw [he] at this
      have := task_user (is := is) hk (uses_yes hr this)
      rw [e] at this
      cases this
    · obtain ⟨k, hk, h⟩ := any_iff.mp h
      unfold hitI at h
      rw [Bool.and_eq_true] at h
      have := has_mem.mp h.1
      rw [he] at this
      have := isr_user (ts := ts) hk (uses_yes hr this)
      rw [e] at this
      cases this
  · intro hne
    have conv : ∀ l : List Int, (∀ r ∈ l, -1 < r ∧ r < rs.length) → usesF rs q l = true → ∃ a, a < (groupN rs q rs.length).length ∧ hasF l ((groupN rs q rs.length).getD a 0) = true := by
      intro l hl hu
      obtain ⟨r, hr, he⟩ := List.any_eq_true.mp hu
      have hrr := hl r hr
      have hm : r ∈ groupN rs q rs.length := group_mem.mpr ⟨r.toNat, by omega, by omega, by simpa using he⟩
      obtain ⟨a, ha, e⟩ := List.getElem_of_mem hm
      refine ⟨a, ha, ?_⟩
      rw [List.getD_eq_getElem?_getD, List.getElem?_eq_getElem ha]
      exact has_mem.mpr (by rw [Option.getD_some, e]; exact hr)
    rcases ceil_at (ts := ts) (rs := rs) (is := is) (q := q) with ⟨h, _⟩ | ⟨u, hu, he⟩
    · exact absurd h hne
    · rcases user_of hu with ⟨k, hk, rfl, hus⟩ | ⟨k, hk, rfl, hus⟩
      · obtain ⟨a, ha, hh⟩ := conv _ (rises_range _ _ _ (hin.t k hk)) hus
        refine ⟨a, ha, ?_⟩
        unfold metG
        rw [Bool.or_eq_true]
        exact .inl (any_iff.mpr ⟨k, hk, by unfold hitT; rw [hh, Bool.true_and]; simpa using he⟩)
      · obtain ⟨a, ha, hh⟩ := conv _ (rises_range _ _ _ (hin.i k hk)) hus
        refine ⟨a, ha, ?_⟩
        unfold metG
        rw [Bool.or_eq_true]
        exact .inr (any_iff.mpr ⟨k, hk, by unfold hitI; rw [hh, Bool.true_and]; simpa using he⟩)
theorem users_len {ts : List S64} {rs : List S73} {is : List S66} {q : Nat} : 0 < (tuL rs ts q ts.length).length + (iuL rs is q is.length).length ↔ allUsers ts rs is q ≠ [] := by
  have h1 := tasks_tu rs ts q ts.length
  have h2 := isrs_iu rs is q is.length
  constructor
  · intro h e
    have e1 : taskUsers rs ts q ts.length = [] := (List.append_eq_nil_iff.mp e).1
    have e2 : isrUsers rs is q is.length = [] := (List.append_eq_nil_iff.mp e).2
    rw [e1] at h1
    rw [e2] at h2
    rw [← h1.1, ← h2.1] at h
    simp [tasksOf, isrsOf] at h
  · intro hne
    rcases Nat.eq_zero_or_pos ((tuL rs ts q ts.length).length + (iuL rs is q is.length).length) with h | h
    · exfalso
      obtain ⟨u, hu⟩ := List.exists_mem_of_ne_nil _ hne
      rcases user_of hu with ⟨k, hk, _, hus⟩ | ⟨k, hk, _, hus⟩
      · have : (k : Int) ∈ tuL rs ts q ts.length := List.mem_map.mpr ⟨k, List.mem_filter.mpr ⟨List.mem_range.mpr hk, hus⟩, rfl⟩
        have := List.length_pos_of_mem this
        omega
      · have : (k : Int) ∈ iuL rs is q is.length := List.mem_map.mpr ⟨k, List.mem_filter.mpr ⟨List.mem_range.mpr hk, hus⟩, rfl⟩
        have := List.length_pos_of_mem this
        omega
    · exact h
end Go.Proofs.Ytflkbheginhfiaa.XA
/- CeilLeast: the walk. -/
namespace Go.Proofs.Ytflkbheginhfiaa.XA
set_option linter.unusedVariables false
set_option linter.unusedSimpArgs false
open Go.RowKit Go.WideMaps Go.Maps Go.Proofs.YtflkbheginhfiaaW.PrintWords Go.Proofs.YtflkbheginhfiaaW.PrintLast Go.Proofs.YtflkbheginhfiaaW.PrintMore
theorem reckonV_er (ts : List S64) (rs : List S73) (is : List S66) (b : Bool) : (reckonV ts rs is b).er = checkV ts rs is := by
  unfold reckonV
  by_cases h : checkV ts rs is ≠ 0
  · rw [if_pos h]
  · rw [if_neg h]
    exact (Classical.not_not.mp h).symm
theorem ceils_at {ts : List S64} {rs : List S73} {is : List S66} (p : Nat) (h : p < rs.length) : (ceilsF ts rs is rs.length).getD p 0 = ceilF ts rs is p := ceils_get ts rs is _ p h
set_option maxRecDepth 1000000 in
set_option maxHeartbeats 4000000 in
theorem least_calls (x : CV) (AT : Option Addr) (cT : Nat) (AR : Option Addr) (cR : Nat) (AI : Option Addr) (cI : Nat) (ts : List S64) (rs : List S73) (is : List S66) (r : Int) (w : World) (g : Good AT cT AR cR AI cI ts rs is w) : Calls Try.prog 6 #[.agg #[.string x.s0, .string x.s1, .bool x.b2, .bool x.b3, .bool x.b4, .bool x.b5, .bool x.b6, .bool x.b7, .bool x.b8, .bool x.b9, .slice x.A10 x.n10 x.c10, .slice AT ts.length cT, .slice AR rs.length cR, .slice x.A13 x.n13 x.c13, .slice x.A14 x.n14 x.c14, .slice x.A15 x.n15 x.c15, .slice AI is.length cI, .slice x.A17 x.n17 x.c17], .int .i64 r] w fun e w' => e = .returned (.bool true) ∧ Below w.heap.size w w' := by
  have HI := Aside0.mk (in_made x AT cT AR cR AI cI ts rs is w g)
  have hsz := g.r
  have ht := g.t
  have hi := g.i
  clear g
  go_enter Try.func6, Try.ntmps6
  go_wp2_with (first | ((with_reducible refine gate_dst (N := 20) rfl ?_); refine load36 HI.out.box rfl (.tmp 2) rfl rfl ?_))
  generalize w.alloc (.cells #[.string x.s0, .string x.s1, .bool x.b2, .bool x.b3, .bool x.b4, .bool x.b5, .bool x.b6, .bool x.b7, .bool x.b8, .bool x.b9, .slice x.A10 x.n10 x.c10, .slice AT ts.length cT, .slice AR rs.length cR, .slice x.A13 x.n13 x.c13, .slice x.A14 x.n14 x.c14, .slice x.A15 x.n15 x.c15, .slice AI is.length cI, .slice x.A17 x.n17 x.c17] 36) = w0 at *
  refine (reckon_c x AT cT AR cR AI cI ts rs is w0 HI.out.good).mono ?_
  have HER := Aside0.mk (reckonV_er ts rs is x.b9)
  have HRV := Aside0.mk (show checkV ts rs is = 0 → (reckonV ts rs is x.b9).l0 = ceilsF ts rs is rs.length from fun h => by unfold reckonV; rw [if_neg (fun e => e h)])
  generalize reckonV ts rs is x.b9 = R at *
  rintro e w1 ⟨v0, v2, v3, v4, rfl, r0, r2, r3, r4, B1⟩
  obtain ⟨A0, c0, e0, _, hC0⟩ := r0
  obtain ⟨A2, c2, e2, _, _⟩ := r2
  obtain ⟨A3, c3, e3, _, _⟩ := r3
  obtain ⟨A4, c4, e4, _, _⟩ := r4
  subst e0 e2 e3 e4
  have hbx : Below w1.heap.size w1 (w1.alloc (.cells #[.slice A0 R.l0.length c0, .int .i64 R.s, .slice A2 R.l2.length c2, .slice A3 R.l3.length c3, .slice A4 R.l4.length c4] 41)) := (Below.refl _ _).alloc (Nat.le_refl _) _
  have H1 := Aside0.mk ((HI.out.below x AT cT AR cR AI cI ts rs is B1).below x AT cT AR cR AI cI ts rs is hbx)
  have HK := Aside0.mk (show (w1.alloc (.cells #[.slice A0 R.l0.length c0, .int .i64 R.s, .slice A2 R.l2.length c2, .slice A3 R.l3.length c3, .slice A4 R.l4.length c4] 41)).cell? ⟨w1.heap.size, 0, none⟩ = some (.slice A0 R.l0.length c0) by rw [World.cell?_alloc_new]; rfl)
  have HC0 := Aside0.mk (Kd.C_below hC0 hbx)
  clear hC0 HI B1 hbx
  go_wp2_with (first | ((with_reducible refine gate_dst (N := 25) rfl ?_); refine load36 H1.out.box rfl (.tmp 2) rfl rfl ?_))
  generalize w1.alloc (.cells #[.slice A0 R.l0.length c0, .int .i64 R.s, .slice A2 R.l2.length c2, .slice A3 R.l3.length c3, .slice A4 R.l4.length c4] 41) = w2 at *
  generalize w1.heap.size = P at *
  refine (group_c x AT cT AR cR AI cI ts rs is r w2 H1.out.good).mono ?_
  rintro e w3 ⟨vg, rfl, rg, B3⟩
  have H3 := Aside0.mk (H1.out.below x AT cT AR cR AI cI ts rs is B3)
  have HK3 := Aside0.mk ((B3.cell (World.block_lt_of_cell? w2 _ HK.out)).trans HK.out)
  have HC3 := Aside0.mk (Kd.C_below HC0.out B3)
  obtain ⟨AG, cG, eg, _, hCG⟩ := rg
  subst eg
  have HCG := Aside0.mk hCG
  have HGV := Aside0.mk (show groupV ts rs is r = groupV ts rs is r from rfl)
  clear H1 HK HC0 hCG B3
  by_cases hc : checkV ts rs is = 0
  · have HZ := Aside0.mk (says_zero (by have h := v_says ts rs is; rw [hc] at h; exact h))
    have HCZ := Aside0.mk hc
    by_cases hr : r < 0 ∨ (rs.length : Int) ≤ r
    · have hgv : groupV ts rs is r = ([], 2) := by unfold groupV; rw [if_neg (fun e => e hc), if_pos hr]
      rw [hgv]
      rw [hgv] at HCG
      have he : (R.er != 0) = false := by rw [HER.out, hc]; rfl
      have he2 : (R.er == 0) = true := by rw [HER.out, hc]; rfl
      have HXo := Aside0.mk H3.out.box
      clear hgv hc hr
      go_wp2_with fail
      refine (num_calls _ _).mono ?_
      rintro e w' ⟨rfl, rfl⟩
      go_wp2_with fail
      refine (num_calls _ _).mono ?_
      rintro e w' ⟨rfl, rfl⟩
      go_wp2_with fail
      refine start_ (n := 17) (S := fun w_ => Below w3.heap.size w3 w_) (ds := []) #[false, false, false, false, false, false, false, false, false, false, false, false, false, false, false, false, false] (by kernel_rfl) rfl rfl (drew_below w3) (fun hHeld => ?_)
      have HH := Aside0.mk hHeld
      clear hHeld
      generalize w3.drew = wv at HH ⊢
      refine pure_ (i := 0) (N := some 38) (v := ?_) (a' := ?_) #[true, false, false, false, false, false, false, false, false, false, false, false, false, false, false, false, false] rfl rfl (by kernel_rfl) (fun _ _ _ h => h) (Or.inl ⟨by rfl, ?_⟩) ?_ ?_
      rotate_left
      · intro w_
        go_simp
        with_reducible rfl
      rotate_left
      · simp only [Act.put, List.setIfInBounds_toArray, List.set_cons_zero, List.set_cons_succ, i64_w, i32_w]
        rfl
      refine take_ (i := 3) (N := some 41) (v := ?_) (a' := ?_) #[true, false, false, true, false, false, false, false, false, false, false, false, false, false, false, false, false] rfl rfl (by kernel_rfl) (fun _ _ _ h => h) (Or.inl ⟨by rfl, ?_⟩) HH.out ?_ ?_
      rotate_left
      · rintro w_ s
        refine run36 (HXo.out.below s) (.tmp 2) ?_ ?_ <;> rfl
      rotate_left
      · simp only [Act.put, List.setIfInBounds_toArray, List.set_cons_zero, List.set_cons_succ, i64_w, i32_w]
        rfl
      refine one_ (i := 1) (N := some 39) #[true, true, false, true, false, false, false, false, false, false, false, false, false, false, false, false, false] rfl rfl (by kernel_rfl) (by decide) (fun K hK => ?_)
      refine goes_ Try.func9 (by kernel_rfl) rfl #[.int .i64 R.er] (by rfl) rfl rfl (by first | rfl | (simp only [List.map_toArray, List.map_cons, List.map_nil]; rfl) | simp) ?_
      refine (num_calls _ _).mono ?_
      rintro e wb ⟨rfl, rfl⟩
      have B2 := Below.refl wv.heap.size wv
      refine ⟨_, rfl, ?_⟩
      have HH2 := Aside0.mk (HH.out.trans (B2.mono HH.out.size))
      clear HH B2
      have HH := HH2
      clear HH2
      refine hK.out _ _ HH.out (fun _ => ?_)
      clear hK K
      refine norm_ (a' := ?_) ?_ ?_
      rotate_left
      · show Act.put _ (some 39) _ = _
        simp only [Act.put, List.setIfInBounds_toArray, List.set_cons_zero, List.set_cons_succ, i64_w, i32_w]
        rfl
      refine pure_ (i := 2) (N := some 40) (v := ?_) (a' := ?_) #[true, true, true, true, false, false, false, false, false, false, false, false, false, false, false, false, false] rfl rfl (by kernel_rfl) (fun _ _ _ h => h) (Or.inl ⟨by rfl, ?_⟩) ?_ ?_
      rotate_left
      · intro w_
        go_simp
        with_reducible rfl
      rotate_left
      · simp only [Act.put, List.setIfInBounds_toArray, List.set_cons_zero, List.set_cons_succ, i64_w, i32_w]
        rfl
      refine one_ (i := 4) (N := some 42) #[true, true, true, true, true, false, false, false, false, false, false, false, false, false, false, false, false] rfl rfl (by kernel_rfl) (by decide) (fun K hK => ?_)
      refine goes_ Try.func11 (by kernel_rfl) rfl #[.agg #[.string x.s0, .string x.s1, .bool x.b2, .bool x.b3, .bool x.b4, .bool x.b5, .bool x.b6, .bool x.b7, .bool x.b8, .bool x.b9, .slice x.A10 x.n10 x.c10, .slice AT ts.length cT, .slice AR rs.length cR, .slice x.A13 x.n13 x.c13, .slice x.A14 x.n14 x.c14, .slice x.A15 x.n15 x.c15, .slice AI is.length cI, .slice x.A17 x.n17 x.c17]] (by rfl) rfl rfl (by first | rfl | (simp only [List.map_toArray, List.map_cons, List.map_nil]; rfl) | simp) ?_
      refine (check_c x AT cT AR cR AI cI ts rs is wv (H3.out.below x AT cT AR cR AI cI ts rs is HH.out).good).mono ?_
      rintro e wb ⟨rfl, B2⟩
      rw [HCZ.out]
      refine ⟨_, rfl, ?_⟩
      have HH2 := Aside0.mk (HH.out.trans (B2.mono HH.out.size))
      clear HH B2
      have HH := HH2
      clear HH2
      refine hK.out _ _ HH.out (fun _ => ?_)
      clear hK K
      refine norm_ (a' := ?_) ?_ ?_
      rotate_left
      · show Act.put _ (some 42) _ = _
        simp only [Act.put, List.setIfInBounds_toArray, List.set_cons_zero, List.set_cons_succ, i64_w, i32_w]
        rfl
      refine one_ (i := 5) (N := some 43) #[true, true, true, true, true, true, false, false, false, false, false, false, false, false, false, false, false] rfl rfl (by kernel_rfl) (by decide) (fun K hK => ?_)
      refine goes_ Try.func9 (by kernel_rfl) rfl #[.int .i64 0] (by rfl) rfl rfl (by first | rfl | (simp only [List.map_toArray, List.map_cons, List.map_nil]; rfl) | simp) ?_
      refine (num_calls _ _).mono ?_
      rintro e wc ⟨rfl, rfl⟩
      have B2 := Below.refl wb.heap.size wb
      refine ⟨_, rfl, ?_⟩
      have HH2 := Aside0.mk (HH.out.trans (B2.mono HH.out.size))
      clear HH B2
      have HH := HH2
      clear HH2
      refine hK.out _ _ HH.out (fun _ => ?_)
      clear hK K
      refine norm_ (a' := ?_) ?_ ?_
      rotate_left
      · show Act.put _ (some 43) _ = _
        simp only [Act.put, List.setIfInBounds_toArray, List.set_cons_zero, List.set_cons_succ, i64_w, i32_w]
        rfl
      refine pure_ (i := 6) (N := some 44) (v := ?_) (a' := ?_) #[true, true, true, true, true, true, true, false, false, false, false, false, false, false, false, false, false] rfl rfl (by kernel_rfl) (fun _ _ _ h => h) (Or.inl ⟨by rfl, ?_⟩) ?_ ?_
      rotate_left
      · intro w_
        go_simp
        with_reducible rfl
      rotate_left
      · simp only [Act.put, List.setIfInBounds_toArray, List.set_cons_zero, List.set_cons_succ, i64_w, i32_w]
        rfl
      refine pure_ (i := 7) (N := some 45) (v := ?_) (a' := ?_) #[true, true, true, true, true, true, true, true, false, false, false, false, false, false, false, false, false] rfl rfl (by kernel_rfl) (fun _ _ _ h => h) (Or.inl ⟨by rfl, ?_⟩) ?_ ?_
      rotate_left
      · intro w_
        go_simp
        with_reducible rfl
      rotate_left
      · simp only [Act.put, List.setIfInBounds_toArray, List.set_cons_zero, List.set_cons_succ, i64_w, i32_w]
        rfl
      refine pure_ (i := 8) (N := some 46) (v := ?_) (a' := ?_) #[true, true, true, true, true, true, true, true, true, false, false, false, false, false, false, false, false] rfl rfl (by kernel_rfl) (fun _ _ _ h => h) (Or.inl ⟨by rfl, ?_⟩) ?_ ?_
      rotate_left
      · intro w_
        go_simp
        with_reducible rfl
      rotate_left
      · simp only [Act.put, List.setIfInBounds_toArray, List.set_cons_zero, List.set_cons_succ, i64_w, i32_w]
        rfl
      refine pure_ (i := 9) (N := some 47) (v := ?_) (a' := ?_) #[true, true, true, true, true, true, true, true, true, true, false, false, false, false, false, false, false] rfl rfl (by kernel_rfl) (fun _ _ _ h => h) (Or.inl ⟨by rfl, ?_⟩) ?_ ?_
      rotate_left
      · intro w_
        go_simp
        with_reducible rfl
      rotate_left
      · simp only [Act.put, List.setIfInBounds_toArray, List.set_cons_zero, List.set_cons_succ, i64_w, i32_w]
        rfl
      refine pure_ (i := 10) (N := some 48) (v := ?_) (a' := ?_) #[true, true, true, true, true, true, true, true, true, true, true, false, false, false, false, false, false] rfl rfl (by kernel_rfl) (fun _ _ _ h => h) (Or.inl ⟨by rfl, ?_⟩) ?_ ?_
      rotate_left
      · intro w_
        go_simp
        with_reducible rfl
      rotate_left
      · simp only [Act.put, List.setIfInBounds_toArray, List.set_cons_zero, List.set_cons_succ, i64_w, i32_w]
        rfl
      refine pure_ (i := 11) (N := some 49) (v := ?_) (a' := ?_) #[true, true, true, true, true, true, true, true, true, true, true, true, false, false, false, false, false] rfl rfl (by kernel_rfl) (fun _ _ _ h => h) (Or.inl ⟨by rfl, ?_⟩) ?_ ?_
      rotate_left
      · intro w_
        go_simp
        with_reducible rfl
      rotate_left
      · simp only [Act.put, List.setIfInBounds_toArray, List.set_cons_zero, List.set_cons_succ, i64_w, i32_w]
        rfl
      refine pure_ (i := 12) (N := some 50) (v := ?_) (a' := ?_) #[true, true, true, true, true, true, true, true, true, true, true, true, true, false, false, false, false] rfl rfl (by kernel_rfl) (fun _ _ _ h => h) (Or.inl ⟨by rfl, ?_⟩) ?_ ?_
      rotate_left
      · intro w_
        go_simp
        with_reducible rfl
      rotate_left
      · simp only [Act.put, List.setIfInBounds_toArray, List.set_cons_zero, List.set_cons_succ, i64_w, i32_w]
        rfl
      refine pure_ (i := 13) (N := some 51) (v := ?_) (a' := ?_) #[true, true, true, true, true, true, true, true, true, true, true, true, true, true, false, false, false] rfl rfl (by kernel_rfl) (fun _ _ _ h => h) (Or.inl ⟨by rfl, ?_⟩) ?_ ?_
      rotate_left
      · intro w_
        go_simp
        with_reducible rfl
      rotate_left
      · simp only [Act.put, List.setIfInBounds_toArray, List.set_cons_zero, List.set_cons_succ, i64_w, i32_w]
        rfl
      refine one_ (i := 14) (N := some 52) #[true, true, true, true, true, true, true, true, true, true, true, true, true, true, true, false, false] rfl rfl (by kernel_rfl) (by decide) (fun K hK => ?_)
      refine goes_ Try.func17 (by kernel_rfl) rfl #[] (by rfl) rfl rfl (by first | rfl | (simp only [List.map_toArray, List.map_cons, List.map_nil]; rfl) | simp) ?_
      refine (alive_calls wb).mono ?_
      rintro e wc ⟨rfl, B2⟩
      refine ⟨_, rfl, ?_⟩
      have HH2 := Aside0.mk (HH.out.trans (B2.mono HH.out.size))
      clear HH B2
      have HH := HH2
      clear HH2
      refine hK.out _ _ HH.out (fun _ => ?_)
      clear hK K
      refine norm_ (a' := ?_) ?_ ?_
      rotate_left
      · show Act.put _ (some 52) _ = _
        simp only [Act.put, List.setIfInBounds_toArray, List.set_cons_zero, List.set_cons_succ, i64_w, i32_w]
        rfl
      refine pure_ (i := 15) (N := some 53) (v := ?_) (a' := ?_) #[true, true, true, true, true, true, true, true, true, true, true, true, true, true, true, true, false] rfl rfl (by kernel_rfl) (fun _ _ _ h => h) (Or.inl ⟨by rfl, ?_⟩) ?_ ?_
      rotate_left
      · intro w_
        go_simp
        with_reducible rfl
      rotate_left
      · simp only [Act.put, List.setIfInBounds_toArray, List.set_cons_zero, List.set_cons_succ, i64_w, i32_w]
        rfl
      refine pure_ (i := 16) (N := some 4) (v := ?_) (a' := ?_) #[true, true, true, true, true, true, true, true, true, true, true, true, true, true, true, true, true] rfl rfl (by kernel_rfl) (fun _ _ _ h => h) (Or.inl ⟨by rfl, ?_⟩) ?_ ?_
      rotate_left
      · intro w_
        go_simp
        with_reducible rfl
      rotate_left
      · simp only [Act.put, List.setIfInBounds_toArray, List.set_cons_zero, List.set_cons_succ, i64_w, i32_w]
        rfl
      refine done_ (by kernel_rfl) ?_
      go_wp2_with fail
      go_ret
      exact ⟨rfl, H3.out.bel.trans (HH.out.mono H3.out.bel.size)⟩
    · obtain ⟨q, rfl⟩ := Int.eq_ofNat_of_zero_le (by omega : 0 ≤ r)
      have hq : q < rs.length := by omega
      have hgv : groupV ts rs is (q : Int) = (groupN rs q rs.length, 0) := by unfold groupV; rw [if_neg (fun e => e hc), if_neg hr]; rfl
      rw [hgv]
      rw [hgv] at HCG
      have he : (R.er != 0) = false := by rw [HER.out, hc]; rfl
      have he2 : (R.er == 0) = true := by rw [HER.out, hc]; rfl
      have HL0 := Aside0.mk (HRV.out hc)
      have HQ := Aside0.mk hq
      rw [HL0.out, ceils_len] at HK3
      rw [HL0.out] at HC3
      have HC3 := Aside0.mk (show (Kd.int .i64).C w3 A0 rs.length (ceilsF ts rs is rs.length) by have h := HC3.out; rw [ceils_len] at h; exact h)
      have HMU := Aside0.mk (met_users (ts := ts) (rs := rs) (is := is) (q := q) HZ.out.1 hq)
      have HUL := Aside0.mk (users_len (ts := ts) (rs := rs) (is := is) (q := q))
      have HAT := Aside0.mk (ceil_at (ts := ts) (rs := rs) (is := is) (q := q))
      have HUV := Aside0.mk (show usersV ts rs is (q : Int) = (tuL rs ts q ts.length, iuL rs is q is.length, 0) by unfold usersV; rw [if_neg (fun e => e hc), if_neg hr, Int.toNat_natCast])
      have HHAS := Aside0.mk (show hasF (groupN rs q rs.length) (q : Int) = true from has_mem.mpr (group_mem.mpr ⟨q, hq, rfl, rfl⟩))
      have HGA := Aside0.mk (show ∀ a, a < (groupN rs q rs.length).length → ∃ p : Nat, (groupN rs q rs.length).getD a 0 = (p : Int) ∧ p < rs.length ∧ rootOf rs p = rootOf rs q from fun a ha => by
        obtain ⟨p, h1, h2, h3⟩ := group_mem.mp (show (groupN rs q rs.length).getD a 0 ∈ groupN rs q rs.length by rw [List.getD_eq_getElem?_getD, List.getElem?_eq_getElem ha]; exact List.getElem_mem ha)
        exact ⟨p, h2, h1, h3⟩)
      have hgl : (groupN rs q rs.length).length ≤ 4398046511104 := Nat.le_trans (group_len rs q _) hsz
      generalize groupN rs q rs.length = gl at *
      have hlb : ((rs.length : Int) != (rs.length : Int)) = false := by simp
      obtain ⟨ac, eac, hcc⟩ := HC3.out.2.2 (show 0 < rs.length by omega)
      subst eac
      obtain ⟨adc, eadc, hcq⟩ := (Kd.reads_of_C (d := (0 : Int)) HC3.out).2.2 (by omega)
      injection eadc with eadc
      subst eadc
      have hzq := hcq q hq
      rw [ceils_at q hq] at hzq
      have HCQ := Aside0.mk (show ∀ p, p < rs.length → w3.cell? (ac.add p) = some (.int .i64 (ceilF ts rs is p)) from fun p hp => by have h := hcq p hp; rw [ceils_at p hp] at h; exact h)
      obtain ⟨top, htop⟩ : ∃ top, ceilF ts rs is q = top := ⟨_, rfl⟩
      rw [htop] at hzq HMU HAT
      have HTOP := Aside0.mk htop
      clear htop
      have hk3 := HK3.out
      have q12 := H3.out.box.res
      clear hgv hcc hcq hc hr HGV HRV HL0
      go_wp2_with fail
      refine (num_calls _ _).mono ?_
      rintro e w' ⟨rfl, rfl⟩
      go_wp2_with fail
      refine (num_calls _ _).mono ?_
      rintro e w' ⟨rfl, rfl⟩
      go_wp2_with fail
      refine (has_calls AG cG gl (q : Int) w3 HCG.out).mono ?_
      rintro e w' ⟨rfl, rfl⟩
      rw [HHAS.out]
      go_wp2_with fail
      clear hzq hk3 q12 hlb he he2
      obtain ⟨ws, rfl⟩ : ∃ ws : World, ws = w3 := ⟨_, rfl⟩
      have HIs := Aside0.mk H3.out
      clear H3
      go_loopw [10, 11, 12, 13, 14, 15] (fun mm i _ _ _ _ wr => ∃ (a : Nat) (m : Bool), a ≤ gl.length ∧ i = .int .i64 a ∧ mm = .bool m ∧ Aside0 (m = anyF (metG ts is (top) gl) a) ∧ Aside0 (Below ws.heap.size ws wr)) (fun _ i _ _ _ _ _ => gl.length - (intOf i).toNat)
      case atStart => exact ⟨0, false, by omega, rfl, rfl, ⟨rfl⟩, ⟨Below.refl _ _⟩⟩
      case round =>
        obtain ⟨a, m, ha, rfl, rfl, HM, HW⟩ := hrel
        obtain ⟨wo, rfl⟩ : ∃ wo : World, wo = wr := ⟨_, rfl⟩
        by_cases hla : a < gl.length
        · have hda : decide ((a : Int) < (gl.length : Int)) = true := decide_eq_true (by omega)
          have HLTa := Aside0.mk (Nat.succ_le_of_lt hla)
          obtain ⟨p, hp, hpl, hpr⟩ := HGA.out a hla
          have HPE := Aside0.mk hp
          have HPR := Aside0.mk hpr
          obtain ⟨ag, eag, hgc0⟩ := (Kd.reads_of_C (d := (0 : Int)) HCG.out).2.2 (by omega)
          subst eag
          have hgc1 := hgc0 a hla
          rw [hp] at hgc1
          have HGC := Aside0.mk hgc1
          have hgc := (HW.out.cell (World.block_lt_of_cell? ws _ hgc1)).trans hgc1
          have hz1 := HCQ.out p hpl
          rw [ceil_congr hpr, HTOP.out] at hz1
          have hz := (HW.out.cell (World.block_lt_of_cell? ws _ hz1)).trans hz1
          have hkk := (HW.out.cell (World.block_lt_of_cell? ws _ HK3.out)).trans HK3.out
          have q12 := (HIs.out.box.below HW.out).res
          have t1 : decide ((p : Int) < 0) = false := decide_eq_false (by omega)
          have t2 : decide ((rs.length : Int) ≤ (p : Int)) = false := decide_eq_false (by omega)
          have t2n : decide (rs.length ≤ p) = false := decide_eq_false (by omega)
          have t3 : (top != top) = false := by simp
          have HXo := Aside0.mk HIs.out.box
          clear hp hpr hgc0 hgc1 hz1
          go_wp2_with fail
          repeat (go_quiet (fail))
          go_wp2_with fail
          clear hgc hz hkk q12 t1 t2 t2n t3
          go_loopw [10, 12, 13] (fun mm i _ wr => ∃ (k : Nat) (m : Bool), k ≤ ts.length ∧ i = .int .i64 k ∧ mm = .bool m ∧ Aside0 (m = (anyF (metG ts is (top) gl) a || anyF (hitT ts (top) (gl.getD a 0)) k)) ∧ Aside0 (Below ws.heap.size ws wr)) (fun _ i _ _ => ts.length - (intOf i).toNat)
          case atStart => exact ⟨0, m, by omega, rfl, rfl, ⟨by rw [show anyF (hitT ts (top) (gl.getD a 0)) 0 = false from rfl, Bool.or_false]; exact HM.out⟩, ⟨HW.out.trans ((drewN_below _ _).mono HW.out.size)⟩⟩
          case round =>
            clear HW
            obtain ⟨k, m, hk, rfl, rfl, HM, HW⟩ := hrel
            obtain ⟨wi, rfl⟩ : ∃ wi : World, wi = wr := ⟨_, rfl⟩
            have HIi := Aside0.mk (HIs.out.below x AT cT AR cR AI cI ts rs is HW.out)
            have q11 := HIi.out.box.tasks
            by_cases hlt : k < ts.length
            · have hd : decide ((k : Int) < (ts.length : Int)) = true := decide_eq_true (by omega)
              have HLT := Aside0.mk (Nat.succ_le_of_lt hlt)
              obtain ⟨ad, A5, c5, eA, h1, h5, l5, g5⟩ := task_f HIi.out.good.cfg.t k hlt
              subst eA
              have HG := Aside0.mk g5
              have hgc := (HW.out.cell (World.block_lt_of_cell? ws _ HGC.out)).trans HGC.out
              have HST := Aside0.mk (any_succ (hitT ts (top) (gl.getD a 0)) k)
              have HLE := Aside0.mk (show hasF (ts.getD k z64).f5 (gl.getD a 0) = true → (ts.getD k z64).f1 ≤ top from fun h => HTOP.out ▸ ceil_ge _ (task_user (is := is) hlt (uses_yes HPR.out (by rw [← HPE.out]; exact has_mem.mp h))))
              have HHT := Aside0.mk (show hitT ts (top) (gl.getD a 0) k = (hasF (ts.getD k z64).f5 (p : Int) && ((ts.getD k z64).f1 == top)) from by unfold hitT; rw [HPE.out])
              clear l5 g5
              generalize ts.getD k z64 = t at *
              rw [HPE.out] at HLE
              have HWd := Aside0.mk (HW.out.trans ((drew_below wi).mono HW.out.size))
              go_wp2_with fail
              refine wp_region_still_tail 10 (by kernel_rfl) (by kernel_rfl) ?_
              simp only [List.take_succ_cons, List.take_zero, List.drop_succ_cons, List.drop_zero]
              change wpStill _ _ wi.drew _ _ _
              repeat (first | (refine still_of_run rfl (run36 HXo.out (.tmp 1) rfl rfl) ?_) | still_step)
              refine wpStill_nil ?_
              change wpList _ _ _ _ _ wi.drew
              have HGd := Aside0.mk (Kd.C_below HG.out (drew_below wi))
              have h1d := (show wi.drew.cell? _ = _ from h1)
              have q11d := (show wi.drew.cell? _ = _ from q11)
              clear h1 q11 h5 hgc HIi HG HW
              generalize wi.drew = wd at *
              go_wp2_with fail
              refine (has_calls A5 c5 t.f5 p wd HGd.out).mono ?_
              rintro e w' ⟨rfl, rfl⟩
              generalize hhf : hasF t.f5 p = b at *
              clear hhf
              cases b with
              | false =>
                have HN := Aside0.mk (show m = (anyF (metG ts is top gl) a || anyF (hitT ts top (gl.getD a 0)) (k + 1)) by rw [HST.out, HHT.out, Bool.false_and, Bool.or_false]; exact HM.out)
                cases m with
                | true =>
                  go_wp2_with fail
                  go_roundw
                  case rel => exact ⟨k + 1, true, HLT.out, by go_num, rfl, HN, HWd⟩
                  case measure => have := HLT.out; simp [intOf]; omega
                | false =>
                  go_wp2_with fail
                  go_roundw
                  case rel => exact ⟨k + 1, false, HLT.out, by go_num, rfl, HN, HWd⟩
                  case measure => have := HLT.out; simp [intOf]; omega
              | true =>
                have hle : decide (top < t.f1) = false := decide_eq_false (by have := HLE.out rfl; omega)
                cases m with
                | true =>
                  have HN := Aside0.mk (show true = (anyF (metG ts is top gl) a || anyF (hitT ts top (gl.getD a 0)) (k + 1)) by rw [HST.out, ← Bool.or_assoc, ← HM.out, Bool.true_or])
                  go_wp2_with fail
                  go_roundw
                  case rel => exact ⟨k + 1, true, HLT.out, by go_num, rfl, HN, HWd⟩
                  case measure => have := HLT.out; simp [intOf]; omega
                | false =>
                  have HN := Aside0.mk (show (t.f1 == top) = (anyF (metG ts is top gl) a || anyF (hitT ts top (gl.getD a 0)) (k + 1)) by rw [HST.out, ← Bool.or_assoc, ← HM.out, HHT.out, Bool.true_and, Bool.false_or])
                  generalize hqb : (t.f1 == top) = b at *
                  cases b with
                  | true =>
                    go_wp2_with fail
                    go_roundw
                    case rel => exact ⟨k + 1, true, HLT.out, by go_num, rfl, HN, HWd⟩
                    case measure => have := HLT.out; simp [intOf]; omega
                  | false =>
                    go_wp2_with fail
                    go_roundw
                    case rel => exact ⟨k + 1, false, HLT.out, by go_num, rfl, HN, HWd⟩
                    case measure => have := HLT.out; simp [intOf]; omega
            · have hd : decide ((k : Int) < (ts.length : Int)) = false := decide_eq_false (by omega)
              obtain rfl : k = ts.length := by omega
              go_wp2_with fail
              clear q11 HIi
              go_loopw [10, 14, 15] (fun mm i _ wr => ∃ (k : Nat) (m : Bool), k ≤ is.length ∧ i = .int .i64 k ∧ mm = .bool m ∧ Aside0 (m = ((anyF (metG ts is (top) gl) a || anyF (hitT ts (top) (gl.getD a 0)) ts.length) || anyF (hitI is (top) (gl.getD a 0)) k)) ∧ Aside0 (Below ws.heap.size ws wr)) (fun _ i _ _ => is.length - (intOf i).toNat)
              case atStart => exact ⟨0, m, by omega, rfl, rfl, ⟨by rw [show anyF (hitI is (top) (gl.getD a 0)) 0 = false from rfl, Bool.or_false]; exact HM.out⟩, HW⟩
              case round =>
                clear HW
                obtain ⟨k, m, hk, rfl, rfl, HM, HW⟩ := hrel
                obtain ⟨wi, rfl⟩ : ∃ wi : World, wi = wr := ⟨_, rfl⟩
                have HIi := Aside0.mk (HIs.out.below x AT cT AR cR AI cI ts rs is HW.out)
                have q16 := HIi.out.box.isrs
                by_cases hlt : k < is.length
                · have hd : decide ((k : Int) < (is.length : Int)) = true := decide_eq_true (by omega)
                  have HLT := Aside0.mk (Nat.succ_le_of_lt hlt)
                  obtain ⟨ad, A5, c5, eA, h1, h5, l5, g5⟩ := isr_f HIi.out.good.cfg.i k hlt
                  subst eA
                  have HG := Aside0.mk g5
                  have hgc := (HW.out.cell (World.block_lt_of_cell? ws _ HGC.out)).trans HGC.out
                  have HST := Aside0.mk (any_succ (hitI is (top) (gl.getD a 0)) k)
                  have HLE := Aside0.mk (show hasF (is.getD k z66).f3 (gl.getD a 0) = true → (is.getD k z66).f2 ≤ top from fun h => HTOP.out ▸ ceil_ge _ (isr_user (ts := ts) hlt (uses_yes HPR.out (by rw [← HPE.out]; exact has_mem.mp h))))
                  have HHT := Aside0.mk (show hitI is (top) (gl.getD a 0) k = (hasF (is.getD k z66).f3 (p : Int) && ((is.getD k z66).f2 == top)) from by unfold hitI; rw [HPE.out])
                  clear l5 g5
                  generalize is.getD k z66 = t at *
                  rw [HPE.out] at HLE
                  have HWd := Aside0.mk (HW.out.trans ((drew_below wi).mono HW.out.size))
                  go_wp2_with fail
                  refine wp_region_still_tail 10 (by kernel_rfl) (by kernel_rfl) ?_
                  simp only [List.take_succ_cons, List.take_zero, List.drop_succ_cons, List.drop_zero]
                  change wpStill _ _ wi.drew _ _ _
                  repeat (first | (refine still_of_run rfl (run36 HXo.out (.tmp 1) rfl rfl) ?_) | still_step)
                  refine wpStill_nil ?_
                  change wpList _ _ _ _ _ wi.drew
                  have HGd := Aside0.mk (Kd.C_below HG.out (drew_below wi))
                  have h1d := (show wi.drew.cell? _ = _ from h1)
                  have q16d := (show wi.drew.cell? _ = _ from q16)
                  clear h1 q16 h5 hgc HIi HG HW
                  generalize wi.drew = wd at *
                  go_wp2_with fail
                  refine (has_calls A5 c5 t.f3 p wd HGd.out).mono ?_
                  rintro e w' ⟨rfl, rfl⟩
                  generalize hhf : hasF t.f3 p = b at *
                  clear hhf
                  cases b with
                  | false =>
                    have HN := Aside0.mk (show m = ((anyF (metG ts is top gl) a || anyF (hitT ts top (gl.getD a 0)) ts.length) || anyF (hitI is top (gl.getD a 0)) (k + 1)) by rw [HST.out, HHT.out, Bool.false_and, Bool.or_false]; exact HM.out)
                    cases m with
                    | true =>
                      go_wp2_with fail
                      go_roundw
                      case rel => exact ⟨k + 1, true, HLT.out, by go_num, rfl, HN, HWd⟩
                      case measure => have := HLT.out; simp [intOf]; omega
                    | false =>
                      go_wp2_with fail
                      go_roundw
                      case rel => exact ⟨k + 1, false, HLT.out, by go_num, rfl, HN, HWd⟩
                      case measure => have := HLT.out; simp [intOf]; omega
                  | true =>
                    have hle : decide (top < t.f2) = false := decide_eq_false (by have := HLE.out rfl; omega)
                    cases m with
                    | true =>
                      have HN := Aside0.mk (show true = ((anyF (metG ts is top gl) a || anyF (hitT ts top (gl.getD a 0)) ts.length) || anyF (hitI is top (gl.getD a 0)) (k + 1)) by rw [HST.out, ← Bool.or_assoc, ← HM.out, Bool.true_or])
                      go_wp2_with fail
                      go_roundw
                      case rel => exact ⟨k + 1, true, HLT.out, by go_num, rfl, HN, HWd⟩
                      case measure => have := HLT.out; simp [intOf]; omega
                    | false =>
                      have HN := Aside0.mk (show (t.f2 == top) = ((anyF (metG ts is top gl) a || anyF (hitT ts top (gl.getD a 0)) ts.length) || anyF (hitI is top (gl.getD a 0)) (k + 1)) by rw [HST.out, ← Bool.or_assoc, ← HM.out, HHT.out, Bool.true_and, Bool.false_or])
                      generalize hqb : (t.f2 == top) = b at *
                      cases b with
                      | true =>
                        go_wp2_with fail
                        go_roundw
                        case rel => exact ⟨k + 1, true, HLT.out, by go_num, rfl, HN, HWd⟩
                        case measure => have := HLT.out; simp [intOf]; omega
                      | false =>
                        go_wp2_with fail
                        go_roundw
                        case rel => exact ⟨k + 1, false, HLT.out, by go_num, rfl, HN, HWd⟩
                        case measure => have := HLT.out; simp [intOf]; omega
                · have hd : decide ((k : Int) < (is.length : Int)) = false := decide_eq_false (by omega)
                  obtain rfl : k = is.length := by omega
                  go_wp2_with fail
                  clear q16 HIi
                  have HN := Aside0.mk (show m = anyF (metG ts is (top) gl) (a + 1) by rw [any_succ, HM.out]; unfold metG; rw [Bool.or_assoc])
                  go_roundw
                  case rel => exact ⟨a + 1, m, HLTa.out, by go_num, rfl, HN, HW⟩
                  case measure => have := HLTa.out; simp [intOf]; omega

        · have hda : decide ((a : Int) < (gl.length : Int)) = false := decide_eq_false (by omega)
          obtain rfl : a = gl.length := by omega
          have HE := Aside0.mk (HIs.out.below x AT cT AR cR AI cI ts rs is HW.out)
          have HMD := Aside0.mk (show m = decide (0 < (tuL rs ts q ts.length).length + (iuL rs is q is.length).length) by
            rw [HM.out, Bool.eq_iff_iff, HMU.out, decide_eq_true_iff, HUL.out])
          have HTP := Aside0.mk (show m = false → top = -1 from fun h => by
            rcases HAT.out with ⟨_, h1⟩ | ⟨u, hu, _⟩
            · exact h1
            · exfalso
              have h2 : allUsers ts rs is q ≠ [] := fun e => by rw [e] at hu; cases hu
              rw [HM.out, HMU.out.mpr h2] at h
              cases h)
          clear HM HMU HUL HAT
          go_wp2_with (first | ((with_reducible refine gate_dst (N := 192) rfl ?_); refine load36 HE.out.box rfl (.tmp 2) rfl rfl ?_))
          refine (users_c x AT cT AR cR AI cI ts rs is (q : Int) wo HE.out.good).mono ?_
          rw [HUV.out]
          have htl := tu_len rs ts q ts.length
          have hil := iu_len rs is q is.length
          generalize tuL rs ts q ts.length = tl at *
          generalize iuL rs is q is.length = il at *
          rintro e w5 ⟨u1, u2, rfl, q1, q2, B5⟩
          obtain ⟨U1, k1, e1, _, _⟩ := q1
          obtain ⟨U2, k2, e2, _, _⟩ := q2
          subst e1 e2
          have HB5 := Aside0.mk (HE.out.bel.trans (B5.mono HE.out.bel.size))
          clear B5 HE
          have hsum : decide ((0 : Int) < (tl.length : Int) + (il.length : Int)) = m := by
            rw [HMD.out, Bool.eq_iff_iff, decide_eq_true_iff, decide_eq_true_iff]
            omega
          cases m with
          | true =>
            clear HMD HTP
            go_wp2_with fail
            refine (num_calls _ _).mono ?_
            rintro e w' ⟨rfl, rfl⟩
            go_wp2_with fail
            refine (alive_calls _).mono ?_
            rintro e w6 ⟨rfl, B6⟩
            have HB6 := Aside0.mk (HB5.out.trans (B6.mono HB5.out.size))
            clear B6
            go_wp2_with fail
            go_ret
            exact ⟨rfl, HB6.out⟩
          | false =>
            have htp : (top == -1) = true := by rw [HTP.out rfl]; rfl
            clear HMD HTP
            go_wp2_with fail
            refine (num_calls _ _).mono ?_
            rintro e w' ⟨rfl, rfl⟩
            go_wp2_with fail
            refine (alive_calls _).mono ?_
            rintro e w6 ⟨rfl, B6⟩
            have HB6 := Aside0.mk (HB5.out.trans (B6.mono HB5.out.size))
            clear B6
            go_wp2_with fail
            go_ret
            exact ⟨rfl, HB6.out⟩
  · have hgv : groupV ts rs is r = ([], checkV ts rs is) := by unfold groupV; rw [if_pos hc]
    rw [hgv]
    rw [hgv] at HCG
    have he : (R.er != 0) = true := by rw [HER.out]; simpa using hc
    have he2 : (R.er == 0) = false := by rw [HER.out]; simpa using hc
    have he3 : (checkV ts rs is == 0) = false := by simpa using hc
    have HXo := Aside0.mk H3.out.box
    clear hgv hc
    go_wp2_with fail
    refine (num_calls _ _).mono ?_
    rintro e w' ⟨rfl, rfl⟩
    go_wp2_with fail
    refine start_ (n := 17) (S := fun w_ => Below w3.heap.size w3 w_) (ds := []) #[false, false, false, false, false, false, false, false, false, false, false, false, false, false, false, false, false] (by kernel_rfl) rfl rfl (drew_below w3) (fun hHeld => ?_)
    have HH := Aside0.mk hHeld
    clear hHeld
    generalize w3.drew = wv at HH ⊢
    refine pure_ (i := 0) (N := some 38) (v := ?_) (a' := ?_) #[true, false, false, false, false, false, false, false, false, false, false, false, false, false, false, false, false] rfl rfl (by kernel_rfl) (fun _ _ _ h => h) (Or.inl ⟨by rfl, ?_⟩) ?_ ?_
    rotate_left
    · intro w_
      go_simp
      with_reducible rfl
    rotate_left
    · simp only [Act.put, List.setIfInBounds_toArray, List.set_cons_zero, List.set_cons_succ, i64_w, i32_w]
      rfl
    refine take_ (i := 3) (N := some 41) (v := ?_) (a' := ?_) #[true, false, false, true, false, false, false, false, false, false, false, false, false, false, false, false, false] rfl rfl (by kernel_rfl) (fun _ _ _ h => h) (Or.inl ⟨by rfl, ?_⟩) HH.out ?_ ?_
    rotate_left
    · rintro w_ s
      refine run36 (HXo.out.below s) (.tmp 2) ?_ ?_ <;> rfl
    rotate_left
    · simp only [Act.put, List.setIfInBounds_toArray, List.set_cons_zero, List.set_cons_succ, i64_w, i32_w]
      rfl
    refine one_ (i := 1) (N := some 39) #[true, true, false, true, false, false, false, false, false, false, false, false, false, false, false, false, false] rfl rfl (by kernel_rfl) (by decide) (fun K hK => ?_)
    refine goes_ Try.func9 (by kernel_rfl) rfl #[.int .i64 R.er] (by rfl) rfl rfl (by first | rfl | (simp only [List.map_toArray, List.map_cons, List.map_nil]; rfl) | simp) ?_
    refine (num_calls _ _).mono ?_
    rintro e wb ⟨rfl, rfl⟩
    have B2 := Below.refl wv.heap.size wv
    refine ⟨_, rfl, ?_⟩
    have HH2 := Aside0.mk (HH.out.trans (B2.mono HH.out.size))
    clear HH B2
    have HH := HH2
    clear HH2
    refine hK.out _ _ HH.out (fun _ => ?_)
    clear hK K
    refine norm_ (a' := ?_) ?_ ?_
    rotate_left
    · show Act.put _ (some 39) _ = _
      simp only [Act.put, List.setIfInBounds_toArray, List.set_cons_zero, List.set_cons_succ, i64_w, i32_w]
      rfl
    refine pure_ (i := 2) (N := some 40) (v := ?_) (a' := ?_) #[true, true, true, true, false, false, false, false, false, false, false, false, false, false, false, false, false] rfl rfl (by kernel_rfl) (fun _ _ _ h => h) (Or.inl ⟨by rfl, ?_⟩) ?_ ?_
    rotate_left
    · intro w_
      go_simp
      with_reducible rfl
    rotate_left
    · simp only [Act.put, List.setIfInBounds_toArray, List.set_cons_zero, List.set_cons_succ, i64_w, i32_w]
      rfl
    refine one_ (i := 4) (N := some 42) #[true, true, true, true, true, false, false, false, false, false, false, false, false, false, false, false, false] rfl rfl (by kernel_rfl) (by decide) (fun K hK => ?_)
    refine goes_ Try.func11 (by kernel_rfl) rfl #[.agg #[.string x.s0, .string x.s1, .bool x.b2, .bool x.b3, .bool x.b4, .bool x.b5, .bool x.b6, .bool x.b7, .bool x.b8, .bool x.b9, .slice x.A10 x.n10 x.c10, .slice AT ts.length cT, .slice AR rs.length cR, .slice x.A13 x.n13 x.c13, .slice x.A14 x.n14 x.c14, .slice x.A15 x.n15 x.c15, .slice AI is.length cI, .slice x.A17 x.n17 x.c17]] (by rfl) rfl rfl (by first | rfl | (simp only [List.map_toArray, List.map_cons, List.map_nil]; rfl) | simp) ?_
    refine (check_c x AT cT AR cR AI cI ts rs is wv (H3.out.below x AT cT AR cR AI cI ts rs is HH.out).good).mono ?_
    rintro e wb ⟨rfl, B2⟩
    refine ⟨_, rfl, ?_⟩
    have HH2 := Aside0.mk (HH.out.trans (B2.mono HH.out.size))
    clear HH B2
    have HH := HH2
    clear HH2
    refine hK.out _ _ HH.out (fun _ => ?_)
    clear hK K
    refine norm_ (a' := ?_) ?_ ?_
    rotate_left
    · show Act.put _ (some 42) _ = _
      simp only [Act.put, List.setIfInBounds_toArray, List.set_cons_zero, List.set_cons_succ, i64_w, i32_w]
      rfl
    refine one_ (i := 5) (N := some 43) #[true, true, true, true, true, true, false, false, false, false, false, false, false, false, false, false, false] rfl rfl (by kernel_rfl) (by decide) (fun K hK => ?_)
    refine goes_ Try.func9 (by kernel_rfl) rfl #[.int .i64 (checkV ts rs is)] (by rfl) rfl rfl (by first | rfl | (simp only [List.map_toArray, List.map_cons, List.map_nil]; rfl) | simp) ?_
    refine (num_calls _ _).mono ?_
    rintro e wc ⟨rfl, rfl⟩
    have B2 := Below.refl wb.heap.size wb
    refine ⟨_, rfl, ?_⟩
    have HH2 := Aside0.mk (HH.out.trans (B2.mono HH.out.size))
    clear HH B2
    have HH := HH2
    clear HH2
    refine hK.out _ _ HH.out (fun _ => ?_)
    clear hK K
    refine norm_ (a' := ?_) ?_ ?_
    rotate_left
    · show Act.put _ (some 43) _ = _
      simp only [Act.put, List.setIfInBounds_toArray, List.set_cons_zero, List.set_cons_succ, i64_w, i32_w]
      rfl
    refine pure_ (i := 6) (N := some 44) (v := ?_) (a' := ?_) #[true, true, true, true, true, true, true, false, false, false, false, false, false, false, false, false, false] rfl rfl (by kernel_rfl) (fun _ _ _ h => h) (Or.inl ⟨by rfl, ?_⟩) ?_ ?_
    rotate_left
    · intro w_
      go_simp
      with_reducible rfl
    rotate_left
    · simp only [Act.put, List.setIfInBounds_toArray, List.set_cons_zero, List.set_cons_succ, i64_w, i32_w]
      rfl
    refine pure_ (i := 7) (N := some 45) (v := ?_) (a' := ?_) #[true, true, true, true, true, true, true, true, false, false, false, false, false, false, false, false, false] rfl rfl (by kernel_rfl) (fun _ _ _ h => h) (Or.inl ⟨by rfl, ?_⟩) ?_ ?_
    rotate_left
    · intro w_
      go_simp
      with_reducible rfl
    rotate_left
    · simp only [Act.put, List.setIfInBounds_toArray, List.set_cons_zero, List.set_cons_succ, i64_w, i32_w]
      rfl
    refine pure_ (i := 8) (N := some 46) (v := ?_) (a' := ?_) #[true, true, true, true, true, true, true, true, true, false, false, false, false, false, false, false, false] rfl rfl (by kernel_rfl) (fun _ _ _ h => h) (Or.inl ⟨by rfl, ?_⟩) ?_ ?_
    rotate_left
    · intro w_
      go_simp
      with_reducible rfl
    rotate_left
    · simp only [Act.put, List.setIfInBounds_toArray, List.set_cons_zero, List.set_cons_succ, i64_w, i32_w]
      rfl
    refine pure_ (i := 9) (N := some 47) (v := ?_) (a' := ?_) #[true, true, true, true, true, true, true, true, true, true, false, false, false, false, false, false, false] rfl rfl (by kernel_rfl) (fun _ _ _ h => h) (Or.inl ⟨by rfl, ?_⟩) ?_ ?_
    rotate_left
    · intro w_
      go_simp
      with_reducible rfl
    rotate_left
    · simp only [Act.put, List.setIfInBounds_toArray, List.set_cons_zero, List.set_cons_succ, i64_w, i32_w]
      rfl
    refine pure_ (i := 10) (N := some 48) (v := ?_) (a' := ?_) #[true, true, true, true, true, true, true, true, true, true, true, false, false, false, false, false, false] rfl rfl (by kernel_rfl) (fun _ _ _ h => h) (Or.inl ⟨by rfl, ?_⟩) ?_ ?_
    rotate_left
    · intro w_
      go_simp
      with_reducible rfl
    rotate_left
    · simp only [Act.put, List.setIfInBounds_toArray, List.set_cons_zero, List.set_cons_succ, i64_w, i32_w]
      rfl
    refine pure_ (i := 11) (N := some 49) (v := ?_) (a' := ?_) #[true, true, true, true, true, true, true, true, true, true, true, true, false, false, false, false, false] rfl rfl (by kernel_rfl) (fun _ _ _ h => h) (Or.inl ⟨by rfl, ?_⟩) ?_ ?_
    rotate_left
    · intro w_
      go_simp
      with_reducible rfl
    rotate_left
    · simp only [Act.put, List.setIfInBounds_toArray, List.set_cons_zero, List.set_cons_succ, i64_w, i32_w]
      rfl
    refine pure_ (i := 12) (N := some 50) (v := ?_) (a' := ?_) #[true, true, true, true, true, true, true, true, true, true, true, true, true, false, false, false, false] rfl rfl (by kernel_rfl) (fun _ _ _ h => h) (Or.inl ⟨by rfl, ?_⟩) ?_ ?_
    rotate_left
    · intro w_
      go_simp
      with_reducible rfl
    rotate_left
    · simp only [Act.put, List.setIfInBounds_toArray, List.set_cons_zero, List.set_cons_succ, i64_w, i32_w]
      rfl
    refine pure_ (i := 13) (N := some 51) (v := ?_) (a' := ?_) #[true, true, true, true, true, true, true, true, true, true, true, true, true, true, false, false, false] rfl rfl (by kernel_rfl) (fun _ _ _ h => h) (Or.inl ⟨by rfl, ?_⟩) ?_ ?_
    rotate_left
    · intro w_
      go_simp
      with_reducible rfl
    rotate_left
    · simp only [Act.put, List.setIfInBounds_toArray, List.set_cons_zero, List.set_cons_succ, i64_w, i32_w]
      rfl
    refine one_ (i := 14) (N := some 52) #[true, true, true, true, true, true, true, true, true, true, true, true, true, true, true, false, false] rfl rfl (by kernel_rfl) (by decide) (fun K hK => ?_)
    refine goes_ Try.func17 (by kernel_rfl) rfl #[] (by rfl) rfl rfl (by first | rfl | (simp only [List.map_toArray, List.map_cons, List.map_nil]; rfl) | simp) ?_
    refine (alive_calls wb).mono ?_
    rintro e wc ⟨rfl, B2⟩
    refine ⟨_, rfl, ?_⟩
    have HH2 := Aside0.mk (HH.out.trans (B2.mono HH.out.size))
    clear HH B2
    have HH := HH2
    clear HH2
    refine hK.out _ _ HH.out (fun _ => ?_)
    clear hK K
    refine norm_ (a' := ?_) ?_ ?_
    rotate_left
    · show Act.put _ (some 52) _ = _
      simp only [Act.put, List.setIfInBounds_toArray, List.set_cons_zero, List.set_cons_succ, i64_w, i32_w]
      rfl
    refine pure_ (i := 15) (N := some 53) (v := ?_) (a' := ?_) #[true, true, true, true, true, true, true, true, true, true, true, true, true, true, true, true, false] rfl rfl (by kernel_rfl) (fun _ _ _ h => h) (Or.inl ⟨by rfl, ?_⟩) ?_ ?_
    rotate_left
    · intro w_
      go_simp
      with_reducible rfl
    rotate_left
    · simp only [Act.put, List.setIfInBounds_toArray, List.set_cons_zero, List.set_cons_succ, i64_w, i32_w]
      rfl
    refine pure_ (i := 16) (N := some 4) (v := ?_) (a' := ?_) #[true, true, true, true, true, true, true, true, true, true, true, true, true, true, true, true, true] rfl rfl (by kernel_rfl) (fun _ _ _ h => h) (Or.inl ⟨by rfl, ?_⟩) ?_ ?_
    rotate_left
    · intro w_
      go_simp
      with_reducible rfl
    rotate_left
    · simp only [Act.put, List.setIfInBounds_toArray, List.set_cons_zero, List.set_cons_succ, i64_w, i32_w]
      rfl
    refine done_ (by kernel_rfl) ?_
    go_wp2_with fail
    go_ret
    exact ⟨rfl, H3.out.bel.trans (HH.out.mono H3.out.bel.size)⟩
end Go.Proofs.Ytflkbheginhfiaa.XA
