/- ceil.Users' closure: a task or an interrupt is put behind its list. -/
import Derived.Test.YtflkbheginhfiaaHB
import Derived.Test.YtflkbheginhfiaaHC
namespace Go.Proofs.Ytflkbheginhfiaa.XA
set_option linter.unusedVariables false
set_option linter.unusedSimpArgs false
open Go.RowKit Go.WideMaps Go.Maps Go.Proofs.YtflkbheginhfiaaW.PrintWords Go.Proofs.YtflkbheginhfiaaW.PrintLast Go.Proofs.YtflkbheginhfiaaW.PrintMore
/-- two rows of the call's own, each in a box -/
structure Two39 (w : World) (B b : Nat) (V : Nat → Value) (L : Nat → List Int) : Prop where
  cell : ∀ i, i < 2 → w.heap[B + i]? = some (.cells #[V i] 39 (0, 0))
  row : ∀ i, i < 2 → (Kd.int .i64).R 3 w b (fun _ => True) (V i) (L i)
  ne : ∀ i j, i < 2 → j < 2 → i ≠ j → ∀ g, (V i).ownBlock = some g → (V j).ownBlock ≠ some g
section
variable {w w1 : World} {B b : Nat} {V : Nat → Value} {L : Nat → List Int}
theorem Two39.off (h : Two39 w B b V L) (i j : Nat) (hi : i < 2) (hj : j < 2) : (V i).ownBlock ≠ some (B + j) := fun e => by
  obtain ⟨_, _, cs, h1⟩ := row_lt (h.row i hi) _ e
  rw [h.cell j hj] at h1
  injection h1 with h1
  injection h1 with _ h1
  cases h1
theorem Two39.lt (h : Two39 w B b V L) (i : Nat) (hi : i < 2) : B + i < w.heap.size := blk_lt (h.cell i hi)
theorem Two39.move (h : Two39 w B b V L) (hm : ∀ k, k < w.heap.size → w1.heap[k]? = w.heap[k]?) : Two39 w1 B b V L :=
  ⟨fun i hi => (hm _ (h.lt i hi)).trans (h.cell i hi), fun i hi => Kd.R_step (h.row i hi) (fun k _ hk => hm k hk), h.ne⟩
theorem Two39.cell0 (h : Two39 w B b V L) : w.cell? ⟨B, 0, none⟩ = some (V 0) ∧ w.cell? ⟨B + 1, 0, none⟩ = some (V 1) := by
  have h1 := h.cell 0 (by omega)
  have h2 := h.cell 1 (by omega)
  rw [Nat.add_zero] at h1
  exact ⟨by simp [World.cell?, h1], by simp [World.cell?, h2]⟩
theorem Two39.after (h : Two39 w B b V L) (i : Nat) (hi : i < 2) (hg : w.grownBy w1 (V i).ownBlock) (j : Nat) (hj : j < 2) : w1.heap[B + j]? = some (.cells #[V j] 39 (0, 0)) :=
  (hg.block _ (h.lt j hj) (fun e => h.off i j hi hj e.symm)).trans (h.cell j hj)
theorem Two39.app (h : Two39 w B b V L) (i : Nat) (hi : i < 2) (v1 : Value) (x : Int) (hr : (Kd.int .i64).R 3 w1 b (fun _ => True) v1 (L i ++ [x])) (hg : w.grownBy w1 (V i).ownBlock) (hat : v1.ownBlock = (V i).ownBlock ∨ ∃ q, v1.ownBlock = some q ∧ w.heap.size ≤ q) :
    Two39 (w1.setCell ⟨B + i, 0, none⟩ v1) B b (upd V i v1) (upd L i (L i ++ [x])) := by
  have hv1 : ∀ j, j < 2 → v1.ownBlock ≠ some (B + j) := fun j hj e => by
    obtain ⟨_, _, cs, h1⟩ := row_lt hr _ e
    rw [h.after i hi hg j hj] at h1
    injection h1 with h1
    injection h1 with _ h1
    cases h1
  have hne1 : ∀ j, j < 2 → j ≠ i → ∀ g, v1.ownBlock = some g → (V j).ownBlock ≠ some g := fun j hj hji g hg1 hg2 => by
    rcases hat with e | ⟨q, e, hq⟩
    · exact h.ne i j hi hj (fun e2 => hji e2.symm) g (by rw [← e]; exact hg1) hg2
    · have := (row_lt (h.row j hj) g hg2).1
      rw [e] at hg1
      injection hg1 with hg1
      omega
  have hrows : ∀ j, j < 2 → (Kd.int .i64).R 3 w1 b (fun _ => True) (upd V i v1 j) (upd L i (L i ++ [x]) j) := fun j hj => by
    by_cases e : j = i
    · subst e
      rw [upd_same, upd_same]
      exact hr
    · rw [upd_other V v1 e, upd_other L _ e]
      exact row_true (Kd.R_grown (row_self (h.row j hj)) hg (fun k hk e2 => h.ne i j hi hj (fun e3 => e e3.symm) k e2.symm hk))
  refine ⟨fun j hj => ?_, fun j hj => row_true (Kd.R_far (row_self (hrows j hj)) (fun k hk e2 => ?_) v1), fun j l hj hl hjl g hg1 hg2 => ?_⟩
  · by_cases e : j = i
    · subst e
      rw [upd_same]
      have h1 := h.after j hi hg j hi
      simp [World.setCell, Array.getElem?_modify, h1]
    · rw [upd_other V v1 e, Below.heap_setCell w1 ⟨B + i, 0, none⟩ v1 (B + j) (by show B + j ≠ B + i; omega)]
      exact h.after i hi hg j hj
  · have e2 : k = B + i := e2
    subst e2
    by_cases e : j = i
    · subst e
      rw [upd_same] at hk
      exact hv1 j hj hk
    · rw [upd_other V v1 e] at hk
      exact h.off j i hj hi hk
  · by_cases e : j = i
    · subst e
      rw [upd_same] at hg1
      rw [upd_other V v1 (fun e => hjl e.symm)] at hg2
      exact hne1 l hl (fun e => hjl e.symm) g hg1 hg2
    · rw [upd_other V v1 e] at hg1
      by_cases e2 : l = i
      · subst e2
        rw [upd_same] at hg2
        exact hne1 j hj e g hg2 hg1
      · rw [upd_other V v1 e2] at hg2
        exact h.ne j l hj hl hjl g hg1 hg2
end
/-- the step changes the i-th box and its row alone -/
structure Step39 (w w' : World) (B i : Nat) (v v' : Value) : Prop where
  os : w'.os = w.os
  tape : w'.tape = w.tape
  output : w'.output = w.output
  size : w.heap.size ≤ w'.heap.size
  block : ∀ k, k < w.heap.size → k ≠ B + i → some k ≠ v.ownBlock → w'.heap[k]? = w.heap[k]?
  own : v'.ownBlock = v.ownBlock ∨ ∃ q, v'.ownBlock = some q ∧ w.heap.size ≤ q
def at39 (b : Bool) : Nat := if b then 1 else 0
set_option maxRecDepth 1000000 in
set_option maxHeartbeats 1000000 in
theorem users1_calls (B b : Nat) (fl : Bool) (i p : Int) (V : Nat → Value) (L : Nat → List Int) (w : World) (h : Two39 w B b V L) (hb : b ≤ w.heap.size) (hl : (L (at39 fl)).length < 8796093022208) :
    Calls Try.prog 39 #[.bool fl, .int .i64 i, .int .i64 p, .pointer (some ⟨B + 1, 0, none⟩), .pointer (some ⟨B, 0, none⟩)] w fun e w' => (∃ v, e = .returned v) ∧ ∃ v1, Two39 w' B b (upd V (at39 fl) v1) (upd L (at39 fl) (L (at39 fl) ++ [i])) ∧ Step39 w w' B (at39 fl) (V (at39 fl)) v1 := by
  have H := Aside0.mk h
  have HL := Aside0.mk hl
  obtain ⟨o0, o1⟩ := h.cell0
  clear h hl
  cases fl with
  | true =>
    go_enter Try.func39, Try.ntmps39
    go_wp2_with ((with_reducible refine gate_builtin (b := .append) (xs := #[.tmp 9, .tmp 11]) rfl ?_); at_builtin; (refine Kd.R_append (Kd.int .i64) (w0 := w) b rfl (.tmp 9) (.tmp 11) 39 3 (.int .i64 0) 8 rfl Try.underlying39 info3 rfl (by decide) (by omega) _ (L 1) i [.int .i64 i] (fun _ => True) (fun _ => False) rfl rfl rfl (fun _ h => h.elim) (fun _ _ => trivial) (H.out.row 1 (by omega)) (Below.refl _ _) hb ?hl ?_; (case hl => have h := HL.out; have h : (L 1).length < 8796093022208 := h; omega); intro v3 w3 HR HB HG HA; obtain ⟨A3, c3, e3⟩ := row_slice HR; subst e3; have tc := H.out.after 1 (by omega) HG 1 (by omega); have t0 : w3.cell? ⟨B + 1, 0, none⟩ = some (V 1) := (by simp [World.cell?, tc]); have tf : w3.frozen? ⟨B + 1, 0, none⟩ = false := (by simp [World.frozen?, tc]); have HN := Aside0.mk (H.out.app 1 (by omega) _ i HR HG HA); have HB2 := Aside0.mk HB; have HG2 := Aside0.mk HG; have HA2 := Aside0.mk HA; clear HR HB HG HA tc o0 o1))
    go_end0
    exact ⟨⟨_, rfl⟩, _, HN.out, ⟨HB2.out.os, HB2.out.tape, HB2.out.output, by rw [World.size_setCell]; exact HG2.out.size, fun k hk h1 h2 => (Below.heap_setCell w3 ⟨B + 1, 0, none⟩ _ k h1).trans (HG2.out.block k hk h2), HA2.out⟩⟩
  | false =>
    go_enter Try.func39, Try.ntmps39
    go_wp2_with ((with_reducible refine gate_builtin (b := .append) (xs := #[.tmp 13, .tmp 15]) rfl ?_); at_builtin; (refine Kd.R_append (Kd.int .i64) (w0 := w) b rfl (.tmp 13) (.tmp 15) 39 3 (.int .i64 0) 8 rfl Try.underlying39 info3 rfl (by decide) (by omega) _ (L 0) i [.int .i64 i] (fun _ => True) (fun _ => False) rfl rfl rfl (fun _ h => h.elim) (fun _ _ => trivial) (H.out.row 0 (by omega)) (Below.refl _ _) hb ?hl ?_; (case hl => have h := HL.out; have h : (L 0).length < 8796093022208 := h; omega); intro v3 w3 HR HB HG HA; obtain ⟨A3, c3, e3⟩ := row_slice HR; subst e3; have tc := H.out.after 0 (by omega) HG 0 (by omega); rw [Nat.add_zero] at tc; have t0 : w3.cell? ⟨B, 0, none⟩ = some (V 0) := (by simp [World.cell?, tc]); have tf : w3.frozen? ⟨B, 0, none⟩ = false := (by simp [World.frozen?, tc]); have HN := Aside0.mk (H.out.app 0 (by omega) _ i HR HG HA); have HB2 := Aside0.mk HB; have HG2 := Aside0.mk HG; have HA2 := Aside0.mk HA; clear HR HB HG HA tc o0 o1))
    go_end0
    exact ⟨⟨_, rfl⟩, _, HN.out, ⟨HB2.out.os, HB2.out.tape, HB2.out.output, by rw [World.size_setCell]; exact HG2.out.size, fun k hk h1 h2 => (Below.heap_setCell w3 ⟨B, 0, none⟩ _ k h1).trans (HG2.out.block k hk h2), HA2.out⟩⟩
/-! ### what users is given -/
def tasksOf (L : List (Bool × Nat × Int)) : List Int := (L.filter fun u => !u.1).map fun u => (u.2.1 : Int)
def isrsOf (L : List (Bool × Nat × Int)) : List Int := (L.filter fun u => u.1).map fun u => (u.2.1 : Int)
def LL (L : List (Bool × Nat × Int)) : Nat → List Int := fun j => if j = 0 then tasksOf L else if j = 1 then isrsOf L else []
theorem LL_len (L : List (Bool × Nat × Int)) (j : Nat) : (LL L j).length ≤ L.length := by
  unfold LL tasksOf isrsOf
  split
  · rw [List.length_map]; exact List.length_filter_le _ _
  · split
    · rw [List.length_map]; exact List.length_filter_le _ _
    · simp
theorem LL_snoc (L : List (Bool × Nat × Int)) (b : Bool) (i : Nat) (p : Int) : upd (LL L) (at39 b) (LL L (at39 b) ++ [(i : Int)]) = LL (L ++ [(b, i, p)]) := by
  funext j
  cases b
  · by_cases h : j = 0
    · subst h
      simp [upd, LL, at39, tasksOf]
    · by_cases h1 : j = 1
      · subst h1
        simp [upd, LL, at39, isrsOf]
      · simp [upd, LL, at39, h, h1]
  · by_cases h : j = 0
    · subst h
      simp [upd, LL, at39, tasksOf]
    · by_cases h1 : j = 1
      · subst h1
        simp [upd, LL, at39, isrsOf]
      · simp [upd, LL, at39, h, h1]
def inv39 (B b : Nat) (K : Nat → Prop) (L : List (Bool × Nat × Int)) (w : World) : Prop :=
  ∃ V, Two39 w B b V (LL L) ∧ b ≤ w.heap.size ∧ ¬ K B ∧ ¬ K (B + 1) ∧ (∀ k, K k → k < w.heap.size) ∧ ∀ i, i < 2 → ∀ g, (V i).ownBlock = some g → ¬ K g
theorem at39_lt (b : Bool) : at39 b < 2 := by cases b <;> decide
theorem do39 (B b : Nat) : DoFn 39 ⟨B + 1, 0, none⟩ ⟨B, 0, none⟩ (inv39 B b) where
  keep := by
    intro K K' L w w' h hB hK
    obtain ⟨V, h, hb, h1, h2, h4, h3⟩ := h
    have l1 := h.lt 0 (by omega)
    have l2 := h.lt 1 (by omega)
    refine ⟨V, h.move hB.block, Nat.le_trans hb hB.size, fun hk => ?_, fun hk => ?_, fun k hk => ?_, fun i hi g hg hk => ?_⟩
    · rcases hK _ hk with h | h
      · exact h1 h
      · omega
    · rcases hK _ hk with h | h
      · exact h2 h
      · omega
    · have := hB.size
      rcases hK _ hk with h | h
      · have := h4 k h
        omega
      · omega
    · have := (row_lt (h.row i hi) g hg).1
      rcases hK _ hk with h | h
      · exact h3 i hi g hg h
      · omega
  call := by
    intro K L w fl i p h hl
    obtain ⟨V, h, hb, h1, h2, h4, h3⟩ := h
    refine (users1_calls B b fl i p V (LL L) w h hb (by have := LL_len L (at39 fl); omega)).mono ?_
    rintro e w' ⟨hv, v1, ht, hs⟩
    rw [LL_snoc L fl i p] at ht
    have lB := h.lt 0 (by omega)
    have lB1 := h.lt 1 (by omega)
    have hi := at39_lt fl
    have hKB : ∀ k, K k → k ≠ B + at39 fl := fun k hk e => by
      subst e
      cases fl
      · exact h1 hk
      · exact h2 hk
    have hown : ∀ k, K k → some k ≠ (V (at39 fl)).ownBlock := fun k hk e => h3 _ hi k e.symm hk
    refine ⟨hv, ⟨_, ht, Nat.le_trans hb hs.size, h1, h2, fun k hk => Nat.lt_of_lt_of_le (h4 k hk) hs.size, fun j hj g hg hk => ?_⟩, ⟨hs.os, hs.tape, hs.output, hs.size, fun k hk hl => hs.block k hl (hKB k hk) (hown k hk)⟩⟩
    by_cases e : j = at39 fl
    · subst e
      rw [upd_same] at hg
      rcases hs.own with e2 | ⟨q, e2, hq⟩
      · rw [e2] at hg
        exact h3 _ hi g hg hk
      · rw [e2] at hg
        injection hg with hg
        have := h4 g hk
        omega
    · rw [upd_other V v1 e] at hg
      exact h3 j hj g hg hk
end Go.Proofs.Ytflkbheginhfiaa.XA
/- ceil.Users: the contract. -/
namespace Go.Proofs.Ytflkbheginhfiaa.XA
set_option linter.unusedVariables false
set_option linter.unusedSimpArgs false
open Go.RowKit Go.WideMaps Go.Maps Go.Proofs.YtflkbheginhfiaaW.PrintWords Go.Proofs.YtflkbheginhfiaaW.PrintLast Go.Proofs.YtflkbheginhfiaaW.PrintMore
def usersL (ts : List S64) (rs : List S73) (is : List S66) (q : Nat) : List (Bool × Nat × Int) := taskUsers rs ts q ts.length ++ isrUsers rs is q is.length
def UsersIs (ts : List S64) (rs : List S73) (is : List S66) (r : Int) (tl il : List Int) (er : Int) : Prop :=
  CheckSays ts rs is er ∧ er ≠ 0 ∧ tl = [] ∧ il = [] ∨ CheckSays ts rs is 0 ∧ (r < 0 ∨ (rs.length : Int) ≤ r) ∧ tl = [] ∧ il = [] ∧ er = 2 ∨ CheckSays ts rs is 0 ∧ ∃ q : Nat, r = q ∧ q < rs.length ∧ tl = tasksOf (usersL ts rs is q) ∧ il = isrsOf (usersL ts rs is q) ∧ er = 0
def zero39 (V : Nat → Value) : Prop := V 0 = .slice none 0 0 ∧ V 1 = .slice none 0 0
theorem two39_made (w : World) (b : Nat) (hb : b ≤ w.heap.size) : Two39 ((w.alloc (.cells #[.slice none 0 0] 39)).alloc (.cells #[.slice none 0 0] 39)) w.heap.size b (fun _ => .slice none 0 0) (LL []) := by
  refine ⟨fun i hi => ?_, fun i hi => ?_, fun i j _ _ _ g hg => by simp [Value.ownBlock] at hg⟩
  · obtain rfl | rfl : i = 0 ∨ i = 1 := by omega
    · rw [heap_alloc_old _ _ (by simp)]
      exact heap_alloc_new w _
    · have h1 := heap_alloc_new (w.alloc (.cells #[.slice none 0 0] 39)) (.cells #[.slice none 0 0] 39)
      rw [World.size_alloc] at h1
      exact h1
  · obtain rfl | rfl : i = 0 ∨ i = 1 := by omega
    · exact Kd.R_nil _ _ _ _ _
    · exact Kd.R_nil _ _ _ _ _
set_option maxRecDepth 1000000 in
set_option maxHeartbeats 4000000 in
theorem users_calls (x : CV) (AT : Option Addr) (cT : Nat) (AR : Option Addr) (cR : Nat) (AI : Option Addr) (cI : Nat) (ts : List S64) (rs : List S73) (is : List S66) (r : Int) (w : World) (hC : Cfg w AT cT AR cR AI cI ts rs is) (hsz : rs.length ≤ 4398046511104) (ht : ts.length ≤ 4398046511104) (hi : is.length ≤ 4398046511104) :
    Calls Try.prog 21 #[.agg #[.string x.s0, .string x.s1, .bool x.b2, .bool x.b3, .bool x.b4, .bool x.b5, .bool x.b6, .bool x.b7, .bool x.b8, .bool x.b9, .slice x.A10 x.n10 x.c10, .slice AT ts.length cT, .slice AR rs.length cR, .slice x.A13 x.n13 x.c13, .slice x.A14 x.n14 x.c14, .slice x.A15 x.n15 x.c15, .slice AI is.length cI, .slice x.A17 x.n17 x.c17], .int .i64 r] w fun e w' => Below w.heap.size w w' ∧ ∃ v1 v2 tl il er, e = .returned (.tuple #[v1, v2, .int .i64 er]) ∧ (Kd.int .i64).R 3 w' w.heap.size (fun _ => True) v1 tl ∧ (Kd.int .i64).R 3 w' w.heap.size (fun _ => True) v2 il ∧ (∀ g, v1.ownBlock = some g → v2.ownBlock ≠ some g) ∧ UsersIs ts rs is r tl il er := by
  have HC := Aside0.mk hC
  clear hC
  have HBX := Aside0.mk (BoxAt.made w x AT cT AR cR AI cI ts.length rs.length is.length)
  have HB0 := Aside0.mk (show Below w.heap.size w (w.alloc (.cells #[.string x.s0, .string x.s1, .bool x.b2, .bool x.b3, .bool x.b4, .bool x.b5, .bool x.b6, .bool x.b7, .bool x.b8, .bool x.b9, .slice x.A10 x.n10 x.c10, .slice AT ts.length cT, .slice AR rs.length cR, .slice x.A13 x.n13 x.c13, .slice x.A14 x.n14 x.c14, .slice x.A15 x.n15 x.c15, .slice AI is.length cI, .slice x.A17 x.n17 x.c17] 36)) from (Below.refl _ _).alloc (Nat.le_refl _) _)
  have HCK := Aside0.mk (check_calls x AT cT AR cR AI cI ts rs is _ (HC.out.below HB0.out) hsz ht hi)
  unfold CV.arr at HBX
  go_enter Try.func21, Try.ntmps21
  go_wp2_with (first | ((with_reducible refine gate_dst (N := 12) rfl ?_); refine load36 HBX.out rfl (.tmp 2) rfl rfl ?_))
  generalize w.alloc (.cells #[.string x.s0, .string x.s1, .bool x.b2, .bool x.b3, .bool x.b4, .bool x.b5, .bool x.b6, .bool x.b7, .bool x.b8, .bool x.b9, .slice x.A10 x.n10 x.c10, .slice AT ts.length cT, .slice AR rs.length cR, .slice x.A13 x.n13 x.c13, .slice x.A14 x.n14 x.c14, .slice x.A15 x.n15 x.c15, .slice AI is.length cI, .slice x.A17 x.n17 x.c17] 36) = w0 at *
  have HBX : Aside0 (BoxAt w0 w.heap.size x AT cT AR cR AI cI ts.length rs.length is.length) := HBX
  refine HCK.out.mono ?_
  rintro e w1 ⟨B1, v, rfl, hsay⟩
  have HX := Aside0.mk (HBX.out.below B1)
  have HB := Aside0.mk (HB0.out.trans (B1.mono HB0.out.size))
  have HS := Aside0.mk hsay
  clear B1 hsay HBX HB0 HCK
  by_cases hv : v = 0
  · subst hv
    have HZ := Aside0.mk (says_zero HS.out)
    have q12 := HX.out.res
    by_cases c1 : r < 0
    · have c1b : decide (r < 0) = true := decide_eq_true c1
      go_wp2_with fail
      go_ret3
      exact ⟨HB.out, _, _, [], [], 2, rfl, Kd.R_nil _ _ _ _ _, Kd.R_nil _ _ _ _ _, fun g hg => by simp [Value.ownBlock] at hg, .inr (.inl ⟨HS.out, .inl c1, rfl, rfl, rfl⟩)⟩
    · have c1b : decide (r < 0) = false := decide_eq_false c1
      by_cases c2 : (rs.length : Int) ≤ r
      · have c2b : decide ((rs.length : Int) ≤ r) = true := decide_eq_true c2
        go_wp2_with fail
        go_ret3
        exact ⟨HB.out, _, _, [], [], 2, rfl, Kd.R_nil _ _ _ _ _, Kd.R_nil _ _ _ _ _, fun g hg => by simp [Value.ownBlock] at hg, .inr (.inl ⟨HS.out, .inr c2, rfl, rfl, rfl⟩)⟩
      · have c2b : decide ((rs.length : Int) ≤ r) = false := decide_eq_false c2
        obtain ⟨q, rfl⟩ := Int.eq_ofNat_of_zero_le (by omega : 0 ≤ r)
        have HQ := Aside0.mk (show q < rs.length by omega)
        have hcw := HC.out.below HB.out
        have HRT := Aside0.mk (roots_calls x AT cT AR cR AI cI ts rs is w1 hcw HZ.out.1.links hsz)
        clear hcw
        go_wp2_with (first | ((with_reducible refine gate_dst (N := 27) rfl ?_); refine load36 HX.out rfl (.tmp 2) rfl rfl ?_))
        refine HRT.out.mono ?_
        rintro e wa ⟨B2, h⟩
        rcases h with ⟨rfl, i0, hi0, hnone⟩ | ⟨Bm, lm, rfl, hm, hr, hlen, hge⟩
        · exact absurd hnone (HZ.out.2.1 i0 hi0)
        · have HXa := Aside0.mk (HX.out.below B2)
          have HBa := Aside0.mk (HB.out.trans (B2.mono HB.out.size))
          have hbx : Below wa.heap.size wa ((wa.alloc (.cells #[.slice none 0 0] 39)).alloc (.cells #[.slice none 0 0] 39)) := ((Below.refl _ _).alloc (Nat.le_refl _) _).alloc (by simp) _
          have HBX := Aside0.mk hbx
          have HXb := Aside0.mk (HXa.out.below hbx)
          have HMb := Aside0.mk (hm.below hbx)
          have hmlt := map_lt hm
          have HIx := Aside0.mk (show inv39 wa.heap.size w.heap.size (fun g => g < wa.heap.size) [] ((wa.alloc (.cells #[.slice none 0 0] 39)).alloc (.cells #[.slice none 0 0] 39)) from
            ⟨fun _ => .slice none 0 0, two39_made wa w.heap.size HBa.out.size, by have := HBa.out.size; rw [World.size_alloc, World.size_alloc]; omega, by omega, by omega, fun k hk => by rw [World.size_alloc, World.size_alloc]; omega, fun i _ g hg => by simp [Value.ownBlock] at hg⟩)
          have HUC := Aside0.mk (users39_calls x AT cT AR cR AI cI ts rs is Bm q lm ⟨wa.heap.size + 1, 0, none⟩ ⟨wa.heap.size, 0, none⟩ (inv39 wa.heap.size w.heap.size) (do39 wa.heap.size w.heap.size) (fun g => g < wa.heap.size) ((wa.alloc (.cells #[.slice none 0 0] 39)).alloc (.cells #[.slice none 0 0] 39)) wa (HC.out.below HBa.out) hbx (fun g hg => hg) hmlt HMb.out hr hlen HQ.out HZ.out.1 ht hi HIx.out)
          clear B2 hm hr hlen hge HX HB HRT hbx hmlt HIx HXa
          go_wp2_with (first | ((with_reducible refine gate_dst (N := 31) rfl ?_); refine load36 HXb.out rfl (.tmp 2) rfl rfl ?_))
          refine HUC.out.mono ?_
          rintro e w2 ⟨⟨vv, rfl⟩, hin, hks⟩
          have hb2 : Below wa.heap.size wa w2 := HBX.out.trans (hks.below (fun g hg => hg) HBX.out.size)
          have HB2 := Aside0.mk (HBa.out.trans (hb2.mono HBa.out.size))
          obtain ⟨V, htw, _, _, _, _, _⟩ := hin
          have HTW := Aside0.mk htw
          obtain ⟨o0, o1⟩ := htw.cell0
          clear hks hb2 HUC HBX HBa htw
          go_wp2_with fail
          repeat (go_quiet (fail))
          go_wp2_with fail
          go_ret3
          exact ⟨HB2.out.trans ⟨rfl, rfl, rfl, Nat.le_refl _, fun _ _ => rfl⟩, _, _, _, _, 0, rfl, Kd.R_step (HTW.out.row 0 (by omega)) (fun _ _ _ => rfl), Kd.R_step (HTW.out.row 1 (by omega)) (fun _ _ _ => rfl), HTW.out.ne 0 1 (by omega) (by omega) (by omega), .inr (.inr ⟨HS.out, q, rfl, HQ.out, rfl, rfl, rfl⟩)⟩
  · have hvb : (v != 0) = true := by simp [hv]
    have HV := Aside0.mk hv
    clear hv
    go_wp2_with fail
    go_ret3
    exact ⟨HB.out, _, _, [], [], v, rfl, Kd.R_nil _ _ _ _ _, Kd.R_nil _ _ _ _ _, fun g hg => by simp [Value.ownBlock] at hg, .inl ⟨HS.out, HV.out, rfl, rfl⟩⟩
end Go.Proofs.Ytflkbheginhfiaa.XA
/- ceil.Blocks: the contract. -/
namespace Go.Proofs.Ytflkbheginhfiaa.XA
set_option linter.unusedVariables false
set_option linter.unusedSimpArgs false
open Go.RowKit Go.WideMaps Go.Maps Go.Proofs.YtflkbheginhfiaaW.PrintWords Go.Proofs.YtflkbheginhfiaaW.PrintLast Go.Proofs.YtflkbheginhfiaaW.PrintMore
theorem task_f {w : World} {A : Option Addr} {ts : List S64} (h : k64.C w A ts.length ts) (k : Nat) (hk : k < ts.length) :
    ∃ ad A5 c5, A = some ad ∧ w.cell? ⟨(ad.add (k * 8)).block, (ad.add (k * 8)).off + 1, none⟩ = some (.int .i64 (ts.getD k z64).f1) ∧ w.cell? ⟨(ad.add (k * 8)).block, (ad.add (k * 8)).off + 5, none⟩ = some (.slice A5 (ts.getD k z64).f5.length c5) ∧ (ts.getD k z64).f5.length ≤ c5 ∧ (Kd.int .i64).C w A5 (ts.getD k z64).f5.length (ts.getD k z64).f5 := by
  obtain ⟨ad, A4, c4, A5, c5, A6, c6, A7, c7, e, _, h1, _, _, _, h5, _, _, _, _, l5, g5, _⟩ := at_T64 h (k : Int) (by omega) (by omega)
  unfold rd_T64 at h1 h5 l5 g5
  rw [Int.toNat_natCast] at h1 h5 l5 g5
  exact ⟨ad, A5, c5, e, h1, h5, l5, g5⟩
def blkF (ts : List S64) (rs : List S73) (is : List S66) (ph : Int) (l : List Int) : List Int := l.filter fun r => kindOf rs r.toNat != 3 && decide (ph ≤ ceilF ts rs is r.toNat)
theorem blk_step (ts : List S64) (rs : List S73) (is : List S66) (ph : Int) (l : List Int) (k : Nat) (h : k < l.length) : blkF ts rs is ph (l.take (k + 1)) = blkF ts rs is ph (l.take k) ++ (if kindOf rs (l.getD k 0).toNat != 3 && decide (ph ≤ ceilF ts rs is (l.getD k 0).toNat) then [l.getD k 0] else []) := by
  unfold blkF
  rw [take_snoc l k h, List.filter_append]
  congr 1
  simp only [List.filter_cons, List.filter_nil]
theorem blk_len (ts : List S64) (rs : List S73) (is : List S66) (ph : Int) (l : List Int) : (blkF ts rs is ph l).length ≤ l.length := List.length_filter_le _ _
def BlocksIs (ts : List S64) (rs : List S73) (is : List S66) (lo hi : Int) (bl : List Int) (er : Int) : Prop :=
  CheckSays ts rs is er ∧ er ≠ 0 ∧ bl = [] ∨ CheckSays ts rs is 0 ∧ (lo < 0 ∨ (ts.length : Int) ≤ lo ∨ hi < 0 ∨ (ts.length : Int) ≤ hi) ∧ bl = [] ∧ er = 2 ∨ CheckSays ts rs is 0 ∧ ∃ l h : Nat, lo = l ∧ hi = h ∧ l < ts.length ∧ h < ts.length ∧ er = 0 ∧ bl = if (ts.getD h z64).f1 ≤ (ts.getD l z64).f1 then [] else blkF ts rs is (ts.getD h z64).f1 (ts.getD l z64).f5
/-- where the walk stands: the box, Reckon's answer at O, its first row -/
structure BSt (x : CV) (AT : Option Addr) (cT : Nat) (AR : Option Addr) (cR : Nat) (AI : Option Addr) (cI : Nat) (nT nR nI : Nat) (O b0 : Nat) (w0 : World) (A0 : Option Addr) (c0 : Nat) (l0 : List Int) (sch : Int) (v2 v3 v4 : Value) (w : World) : Prop where
  box : BoxAt w w0.heap.size x AT cT AR cR AI cI nT nR nI
  cell : w.heap[O]? = some (.cells #[.slice A0 l0.length c0, .int .i64 sch, v2, v3, v4] 41 (0, 0))
  row : (Kd.int .i64).R 3 w b0 (fun g => (Value.slice A0 l0.length c0).ownBlock = some g) (.slice A0 l0.length c0) l0
  bel : Below w0.heap.size w0 w
section
variable {x : CV} {AT : Option Addr} {cT : Nat} {AR : Option Addr} {cR : Nat} {AI : Option Addr} {cI : Nat} {nT nR nI O b0 : Nat} {w0 w w1 : World} {A0 : Option Addr} {c0 : Nat} {l0 : List Int} {sch : Int} {v2 v3 v4 : Value}
theorem BSt.below (h : BSt x AT cT AR cR AI cI nT nR nI O b0 w0 A0 c0 l0 sch v2 v3 v4 w) (hB : Below w.heap.size w w1) : BSt x AT cT AR cR AI cI nT nR nI O b0 w0 A0 c0 l0 sch v2 v3 v4 w1 :=
  ⟨h.box.below hB, (hB.block _ (blk_lt h.cell)).trans h.cell, Kd.R_step h.row (fun k _ hk => hB.block k hk), h.bel.trans (hB.mono h.bel.size)⟩
/-- a block that a row of the call's own may not be -/
def Far (O : Nat) (B : Nat) (v : Value) (g : Nat) : Prop := g ≠ O ∧ g ≠ B ∧ some g ≠ v.ownBlock
theorem BSt.far (h : BSt x AT cT AR cR AI cI nT nR nI O b0 w0 A0 c0 l0 sch v2 v3 v4 w) (g : Nat) (hg : w.heap.size ≤ g) : Far O w0.heap.size (.slice A0 l0.length c0) g :=
  ⟨by have := blk_lt h.cell; omega, by have := h.box.lt; omega, fun e => by have := (row_lt h.row g e.symm).1; omega⟩
theorem BSt.grown {u : Value} {us : List Int} (h : BSt x AT cT AR cR AI cI nT nR nI O b0 w0 A0 c0 l0 sch v2 v3 v4 w) (hu : (Kd.int .i64).R 3 w w0.heap.size (Far O w0.heap.size (.slice A0 l0.length c0)) u us) (hg : w.grownBy w1 u.ownBlock) (hb : Below w0.heap.size w0 w1) : BSt x AT cT AR cR AI cI nT nR nI O b0 w0 A0 c0 l0 sch v2 v3 v4 w1 :=
  ⟨h.box.grown hg (fun e => (hu.1 _ e.symm).2.1 rfl), (hg.block _ (blk_lt h.cell) (fun e => (hu.1 _ e.symm).1 rfl)).trans h.cell, Kd.R_grown h.row hg (fun k hk e => (hu.1 k e.symm).2.2 hk.symm), hb⟩
end
set_option maxRecDepth 1000000 in
set_option maxHeartbeats 4000000 in
theorem blocks_calls (x : CV) (AT : Option Addr) (cT : Nat) (AR : Option Addr) (cR : Nat) (AI : Option Addr) (cI : Nat) (ts : List S64) (rs : List S73) (is : List S66) (lo hi : Int) (w : World) (hC : Cfg w AT cT AR cR AI cI ts rs is) (hsz : rs.length ≤ 4398046511104) (ht : ts.length ≤ 4398046511104) (hin : is.length ≤ 4398046511104) :
    Calls Try.prog 23 #[.agg #[.string x.s0, .string x.s1, .bool x.b2, .bool x.b3, .bool x.b4, .bool x.b5, .bool x.b6, .bool x.b7, .bool x.b8, .bool x.b9, .slice x.A10 x.n10 x.c10, .slice AT ts.length cT, .slice AR rs.length cR, .slice x.A13 x.n13 x.c13, .slice x.A14 x.n14 x.c14, .slice x.A15 x.n15 x.c15, .slice AI is.length cI, .slice x.A17 x.n17 x.c17], .int .i64 lo, .int .i64 hi] w fun e w' => Below w.heap.size w w' ∧ ∃ vs bl er, e = .returned (.tuple #[vs, .int .i64 er]) ∧ (Kd.int .i64).R 3 w' w.heap.size (fun _ => True) vs bl ∧ BlocksIs ts rs is lo hi bl er := by
  have HC := Aside0.mk hC
  clear hC
  have HBX := Aside0.mk (BoxAt.made w x AT cT AR cR AI cI ts.length rs.length is.length)
  have HB0 := Aside0.mk (show Below w.heap.size w (w.alloc (.cells #[.string x.s0, .string x.s1, .bool x.b2, .bool x.b3, .bool x.b4, .bool x.b5, .bool x.b6, .bool x.b7, .bool x.b8, .bool x.b9, .slice x.A10 x.n10 x.c10, .slice AT ts.length cT, .slice AR rs.length cR, .slice x.A13 x.n13 x.c13, .slice x.A14 x.n14 x.c14, .slice x.A15 x.n15 x.c15, .slice AI is.length cI, .slice x.A17 x.n17 x.c17] 36)) from (Below.refl _ _).alloc (Nat.le_refl _) _)
  have HCK := Aside0.mk (reckon_calls x AT cT AR cR AI cI ts rs is _ (HC.out.below HB0.out) hsz ht hin)
  unfold CV.arr at HBX
  go_enter Try.func23, Try.ntmps23
  go_wp2_with (first | ((with_reducible refine gate_dst (N := 14) rfl ?_); refine load36 HBX.out rfl (.tmp 3) rfl rfl ?_))
  generalize w.alloc (.cells #[.string x.s0, .string x.s1, .bool x.b2, .bool x.b3, .bool x.b4, .bool x.b5, .bool x.b6, .bool x.b7, .bool x.b8, .bool x.b9, .slice x.A10 x.n10 x.c10, .slice AT ts.length cT, .slice AR rs.length cR, .slice x.A13 x.n13 x.c13, .slice x.A14 x.n14 x.c14, .slice x.A15 x.n15 x.c15, .slice AI is.length cI, .slice x.A17 x.n17 x.c17] 36) = w0 at *
  have HBX : Aside0 (BoxAt w0 w.heap.size x AT cT AR cR AI cI ts.length rs.length is.length) := HBX
  refine HCK.out.mono ?_
  rintro e w1 ⟨B1, V, sch, L, er, rfl, hrows, hsay⟩
  obtain ⟨A0, c0, e0⟩ := Kd.R_slice (hrows.row 0 (.inl rfl))
  obtain ⟨A2, d2, e2⟩ := Kd.R_slice (hrows.row 2 (.inr (.inl rfl)))
  obtain ⟨A3, d3, e3⟩ := Kd.R_slice (hrows.row 3 (.inr (.inr (.inl rfl))))
  obtain ⟨A4, d4, e4⟩ := Kd.R_slice (hrows.row 4 (.inr (.inr (.inr rfl))))
  have hr0 := hrows.row 0 (.inl rfl)
  rw [e0] at hr0
  rw [e0, e2, e3, e4]
  have HX := Aside0.mk (HBX.out.below B1)
  have HB := Aside0.mk (HB0.out.trans (B1.mono HB0.out.size))
  have HR0 := Aside0.mk hr0
  have HS := Aside0.mk hsay
  clear B1 hsay HBX HB0 HCK hrows e0 e2 e3 e4 hr0
  obtain ⟨l0, hl0⟩ : ∃ l0, L 0 = l0 := ⟨_, rfl⟩
  obtain ⟨n2, hn2⟩ : ∃ n2, (L 2).length = n2 := ⟨_, rfl⟩
  obtain ⟨n3, hn3⟩ : ∃ n3, (L 3).length = n3 := ⟨_, rfl⟩
  obtain ⟨n4, hn4⟩ : ∃ n4, (L 4).length = n4 := ⟨_, rfl⟩
  rw [hl0] at HR0 ⊢
  rw [hn2, hn3, hn4]
  have HL0 := Aside0.mk hl0
  clear hl0 hn2 hn3 hn4
  have hba : Below w1.heap.size w1 (w1.alloc (.cells #[.slice A0 l0.length c0, .int .i64 sch, .slice A2 n2 d2, .slice A3 n3 d3, .slice A4 n4 d4] 41)) := (Below.refl _ _).alloc (Nat.le_refl _) _
  have HST := Aside0.mk (show BSt x AT cT AR cR AI cI ts.length rs.length is.length w1.heap.size w0.heap.size w A0 c0 l0 sch (.slice A2 n2 d2) (.slice A3 n3 d3) (.slice A4 n4 d4) (w1.alloc (.cells #[.slice A0 l0.length c0, .int .i64 sch, .slice A2 n2 d2, .slice A3 n3 d3, .slice A4 n4 d4] 41)) from
    ⟨HX.out.below hba, heap_alloc_new w1 _, row_self (Kd.R_step HR0.out (fun k _ hk => hba.block k hk)), HB.out.trans (hba.mono HB.out.size)⟩)
  clear HX HB HR0 hba
  by_cases hv : er = 0
  · subst hv
    have HZ := Aside0.mk (says_zero HS.out.1)
    have HS0 := Aside0.mk HS.out.1
    have HLC := Aside0.mk (show l0 = ceilsF ts rs is rs.length by
      rcases HS.out.2 with ⟨h, _⟩ | ⟨_, _, h, _⟩
      · exact absurd rfl h
      · rw [← HL0.out]; exact h)
    clear HS HL0
    have q11 := HST.out.box.tasks
    by_cases c1 : lo < 0
    · have c1b : decide (lo < 0) = true := decide_eq_true c1
      go_wp2_with fail
      go_ret2
      exact ⟨HST.out.bel, _, [], 2, rfl, Kd.R_nil _ _ _ _ _, .inr (.inl ⟨HS0.out, .inl c1, rfl, rfl⟩)⟩
    · have c1b : decide (lo < 0) = false := decide_eq_false c1
      by_cases c2 : (ts.length : Int) ≤ lo
      · have c2b : decide ((ts.length : Int) ≤ lo) = true := decide_eq_true c2
        go_wp2_with fail
        go_ret2
        exact ⟨HST.out.bel, _, [], 2, rfl, Kd.R_nil _ _ _ _ _, .inr (.inl ⟨HS0.out, .inr (.inl c2), rfl, rfl⟩)⟩
      · have c2b : decide ((ts.length : Int) ≤ lo) = false := decide_eq_false c2
        by_cases c3 : hi < 0
        · have c3b : decide (hi < 0) = true := decide_eq_true c3
          go_wp2_with fail
          go_ret2
          exact ⟨HST.out.bel, _, [], 2, rfl, Kd.R_nil _ _ _ _ _, .inr (.inl ⟨HS0.out, .inr (.inr (.inl c3)), rfl, rfl⟩)⟩
        · have c3b : decide (hi < 0) = false := decide_eq_false c3
          by_cases c4 : (ts.length : Int) ≤ hi
          · have c4b : decide ((ts.length : Int) ≤ hi) = true := decide_eq_true c4
            go_wp2_with fail
            go_ret2
            exact ⟨HST.out.bel, _, [], 2, rfl, Kd.R_nil _ _ _ _ _, .inr (.inl ⟨HS0.out, .inr (.inr (.inr c4)), rfl, rfl⟩)⟩
          · have c4b : decide ((ts.length : Int) ≤ hi) = false := decide_eq_false c4
            obtain ⟨l, rfl⟩ := Int.eq_ofNat_of_zero_le (by omega : 0 ≤ lo)
            obtain ⟨h, rfl⟩ := Int.eq_ofNat_of_zero_le (by omega : 0 ≤ hi)
            have hll : l < ts.length := by omega
            have hhl : h < ts.length := by omega
            have HLL := Aside0.mk hll
            have HHL := Aside0.mk hhl
            go_wp2_with fail
            generalize w1.alloc (.cells #[.slice A0 l0.length c0, .int .i64 sch, .slice A2 n2 d2, .slice A3 n3 d3, .slice A4 n4 d4] 41) = wb at *
            generalize w1.heap.size = O at *
            generalize w0.heap.size = b0 at *
            obtain ⟨ad, A5, c5, ea, p1, p5, l5, g5⟩ := task_f HC.out.t l hll
            obtain ⟨ad', A6, c6, ea', y1, _, _, _⟩ := task_f HC.out.t h hhl
            rw [ea] at ea'
            injection ea' with ea'
            subst ea'
            subst ea
            have HRG := Aside0.mk (rises_range rs.length _ (-1) (HZ.out.1.t l hll))
            have hln := rises_le rs.length _ (HZ.out.1.t l hll)
            obtain ⟨pl, hpl⟩ : ∃ pl, (ts.getD l z64).f1 = pl := ⟨_, rfl⟩
            obtain ⟨ph, hph⟩ : ∃ ph, (ts.getD h z64).f1 = ph := ⟨_, rfl⟩
            obtain ⟨tl, htl⟩ : ∃ tl, (ts.getD l z64).f5 = tl := ⟨_, rfl⟩
            rw [hpl] at p1
            rw [hph] at y1
            rw [htl] at p5 l5 g5 HRG hln
            have HPL := Aside0.mk hpl
            have HPH := Aside0.mk hph
            have HTL := Aside0.mk htl
            have HG5 := Aside0.mk g5
            have HY1 := Aside0.mk y1
            replace p1 := pw_cell_below HST.out.bel p1
            replace p5 := pw_cell_below HST.out.bel p5
            replace y1 := pw_cell_below HST.out.bel y1
            clear hpl hph htl g5
            by_cases hp : ph ≤ pl
            · have hpb : decide (ph ≤ pl) = true := decide_eq_true hp
              have HBI := Aside0.mk (show (if (ts.getD h z64).f1 ≤ (ts.getD l z64).f1 then [] else blkF ts rs is (ts.getD h z64).f1 (ts.getD l z64).f5) = [] by rw [HPL.out, HPH.out]; exact if_pos hp)
              repeat (go_quiet (fail))
              go_wp2_with fail
              go_ret2
              exact ⟨HST.out.bel.trans ⟨rfl, rfl, rfl, Nat.le_refl _, fun _ _ => rfl⟩, _, [], 0, rfl, Kd.R_nil _ _ _ _ _, .inr (.inr ⟨HS0.out, l, h, rfl, rfl, HLL.out, HHL.out, rfl, HBI.out.symm⟩)⟩
            · have hpb : decide (ph ≤ pl) = false := decide_eq_false hp
              have HBI := Aside0.mk (show (if (ts.getD h z64).f1 ≤ (ts.getD l z64).f1 then [] else blkF ts rs is (ts.getD h z64).f1 (ts.getD l z64).f5) = blkF ts rs is ph tl by rw [HPL.out, HPH.out, HTL.out]; exact if_neg hp)
              have hb5 := HG5.out.2.1
              have HSD := Aside0.mk (show ∀ n, BSt x (some ad) cT AR cR AI cI ts.length rs.length is.length O b0 w A0 c0 l0 sch (.slice A2 n2 d2) (.slice A3 n3 d3) (.slice A4 n4 d4) (wb.drewN n) from fun n => HST.out.below ⟨rfl, rfl, rfl, Nat.le_refl _, fun _ _ => rfl⟩)
              repeat (go_quiet (fail))
              go_wp2_with fail
              clear p1 y1 p5 hpb
              go_loopw [10, 61] (fun u i wq => ∃ j : Nat, j ≤ tl.length ∧ i = .int .i64 j ∧ Aside0 (BSt x (some ad) cT AR cR AI cI ts.length rs.length is.length O b0 w A0 c0 l0 sch (.slice A2 n2 d2) (.slice A3 n3 d3) (.slice A4 n4 d4) wq) ∧ Aside0 ((Kd.int .i64).R 3 wq w.heap.size (Far O w.heap.size (.slice A0 l0.length c0)) u (blkF ts rs is ph (tl.take j)))) (fun _ i _ => tl.length - (intOf i).toNat)
              case atStart => exact ⟨0, by omega, rfl, ⟨HSD.out _⟩, ⟨Kd.R_nil _ _ _ _ _⟩⟩
              case round =>
                clear HST HSD
                obtain ⟨j, hj, rfl, HS, HR⟩ := hrel
                by_cases hjl : j < tl.length
                · have hjd : decide ((j : Int) < (tl.length : Int)) = true := decide_eq_true (by omega)
                  have HJL := Aside0.mk (Nat.succ_le_of_lt hjl)
                  obtain ⟨ad5, e5, hc0⟩ := (Kd.reads_of_C (d := (0 : Int)) (Kd.C_below HG5.out HS.out.bel)).2.2 (by omega)
                  subst e5
                  have hx := hc0 j hjl
                  have hst := blk_step ts rs is ph tl j hjl
                  have hmem : tl.getD j 0 ∈ tl := by rw [List.getD_eq_getElem?_getD, List.getElem?_eq_getElem hjl]; exact List.getElem_mem hjl
                  obtain ⟨h0, h1⟩ := HRG.out _ hmem
                  obtain ⟨r, hr0⟩ := Int.eq_ofNat_of_zero_le (by omega : 0 ≤ tl.getD j 0)
                  rw [hr0] at hx hst h1
                  rw [show ((r : Int)).toNat = r from Int.toNat_natCast r] at hst
                  have hrr : r < rs.length := by omega
                  obtain ⟨adr, er, k1, k2⟩ := res_at (HC.out.below HS.out.bel).r r hrr
                  subst er
                  have hrl : r < l0.length := by rw [HLC.out, ceils_len]; exact hrr
                  obtain ⟨_, _, hC0⟩ := Kd.R_reads' HS.out.row
                  obtain ⟨ad0, e0, hz0⟩ := (Kd.reads_of_C (d := (0 : Int)) hC0).2.2 (by omega)
                  subst e0
                  have hzr := hz0 r hrl
                  have hcg : l0.getD r 0 = ceilF ts rs is r := by rw [HLC.out]; exact ceils_get ts rs is _ r hrr
                  rw [hcg] at hzr
                  obtain ⟨cf, hcf⟩ : ∃ cf, ceilF ts rs is r = cf := ⟨_, rfl⟩
                  rw [hcf] at hzr hst
                  have q11 := HS.out.box.tasks
                  have q12 := HS.out.box.res
                  have o0 : wr.cell? ⟨O, 0, none⟩ = some (.slice (some ad0) l0.length c0) := by have h := HS.out.cell; simp [World.cell?, h]
                  have y1 := pw_cell_below HS.out.bel HY1.out
                  have HSD := Aside0.mk (show ∀ n, BSt x (some ad) cT (some adr) cR AI cI ts.length rs.length is.length O b0 w (some ad0) c0 l0 sch (.slice A2 n2 d2) (.slice A3 n3 d3) (.slice A4 n4 d4) (wr.drewN n) from fun n => HS.out.below ⟨rfl, rfl, rfl, Nat.le_refl _, fun _ _ => rfl⟩)
                  have HRD := Aside0.mk (show ∀ n, (Kd.int .i64).R 3 (wr.drewN n) w.heap.size (Far O w.heap.size (.slice (some ad0) l0.length c0)) _ (blkF ts rs is ph (tl.take j)) from fun n => Kd.R_step HR.out (fun _ _ _ => rfl))
                  have HBL := Aside0.mk (show (blkF ts rs is ph (tl.take j)).length ≤ 4398046511104 by have h := blk_len ts rs is ph (tl.take j); rw [List.length_take] at h; omega)
                  clear hc0 hmem h0 h1 hr0 hcf hcg hz0 hC0 k2 HS HR
                  by_cases ck : kindOf rs r = 3
                  · have cb : (kindOf rs r != 3) = false := by simp [ck]
                    have HN := Aside0.mk (show blkF ts rs is ph (tl.take (j + 1)) = blkF ts rs is ph (tl.take j) by rw [hst, cb]; simp)
                    clear hst ck
                    go_wp2_with fail
                    repeat (go_quiet (fail))
                    go_wp2_with fail
                    go_roundw
                    case rel => exact ⟨j + 1, HJL.out, by go_num, ⟨HSD.out _⟩, ⟨by rw [HN.out]; exact HRD.out _⟩⟩
                    case measure => have := HJL.out; simp [intOf]; omega
                  · have cb : (kindOf rs r != 3) = true := by simp [ck]
                    by_cases cl : ph ≤ cf
                    · have clb : decide (ph ≤ cf) = true := decide_eq_true cl
                      have HN := Aside0.mk (show blkF ts rs is ph (tl.take (j + 1)) = blkF ts rs is ph (tl.take j) ++ [(r : Int)] by rw [hst, cb, clb]; simp)
                      clear hst ck
                      go_wp2_with fail
                      repeat (go_quiet (fail))
                      go_wp2_with ((with_reducible refine gate_builtin (b := .append) (xs := #[.tmp 86, .tmp 88]) rfl ?_); at_builtin; (refine Kd.R_append (Kd.int .i64) (w0 := w) w.heap.size rfl (.tmp 86) (.tmp 88) 39 3 (.int .i64 0) 8 rfl Try.underlying39 info3 rfl (by decide) (by omega) _ (blkF ts rs is ph (tl.take j)) (r : Int) [.int .i64 (r : Int)] (Far O w.heap.size (.slice (some ad0) l0.length c0)) (fun _ => False) rfl rfl rfl (fun _ h => h.elim) (HSD.out _).far (HRD.out _) (HSD.out _).bel (HSD.out _).bel.size ?hl ?_; (case hl => have := HBL.out; omega); intro v3 w3 HR HB HG HA; have HSn := Aside0.mk ((HSD.out _).grown (HRD.out _) HG HB); have HRn := Aside0.mk HR; clear HR HB HG HA))
                      go_roundw
                      case rel => exact ⟨j + 1, HJL.out, by go_num, HSn, ⟨by rw [HN.out]; exact HRn.out⟩⟩
                      case measure => have := HJL.out; simp [intOf]; omega
                    · have clb : decide (ph ≤ cf) = false := decide_eq_false cl
                      have HN := Aside0.mk (show blkF ts rs is ph (tl.take (j + 1)) = blkF ts rs is ph (tl.take j) by rw [hst, cb, clb]; simp)
                      clear hst ck
                      go_wp2_with fail
                      repeat (go_quiet (fail))
                      go_wp2_with fail
                      go_roundw
                      case rel => exact ⟨j + 1, HJL.out, by go_num, ⟨HSD.out _⟩, ⟨by rw [HN.out]; exact HRD.out _⟩⟩
                      case measure => have := HJL.out; simp [intOf]; omega
                · have hjd : decide ((j : Int) < (tl.length : Int)) = false := decide_eq_false (by omega)
                  have HJ := Aside0.mk (show tl.take j = tl from List.take_of_length_le (by omega))
                  go_wp2_with fail
                  go_ret2
                  exact ⟨HS.out.bel, _, _, 0, rfl, Kd.R_mono HR.out (fun _ _ => trivial), .inr (.inr ⟨HS0.out, l, h, rfl, rfl, HLL.out, HHL.out, rfl, by rw [HBI.out, HJ.out]⟩)⟩
  · have hvb : (er != 0) = true := by simp [hv]
    have HV := Aside0.mk hv
    clear hv
    go_wp2_with fail
    go_ret2
    exact ⟨HST.out.bel, _, [], er, rfl, Kd.R_nil _ _ _ _ _, .inl ⟨HS.out.1, HV.out, rfl⟩⟩
end Go.Proofs.Ytflkbheginhfiaa.XA
/- the small functions of the law: num, has; Ints and Same of two rows that are alike. -/
namespace Go.Proofs.Ytflkbheginhfiaa.XA
set_option linter.unusedVariables false
set_option linter.unusedSimpArgs false
open Go.RowKit Go.WideMaps Go.Maps Go.Proofs.YtflkbheginhfiaaW.PrintWords Go.Proofs.YtflkbheginhfiaaW.PrintLast Go.Proofs.YtflkbheginhfiaaW.PrintMore
theorem num_calls (x : Int) (w : World) : Calls Try.prog 9 #[.int .i64 x] w fun e w' => e = .returned (.int .i64 x) ∧ w = w' := by
  go_enter Try.func9, Try.ntmps9
  go_wp2_with fail
  go_ret
  exact ⟨rfl, rfl⟩
def hasF (l : List Int) (x : Int) : Bool := l.any fun y => y == x
set_option maxRecDepth 1000000 in
set_option maxHeartbeats 1000000 in
theorem has_calls (A : Option Addr) (c : Nat) (l : List Int) (x : Int) (w : World) (hl : (Kd.int .i64).C w A l.length l) : Calls Try.prog 25 #[.slice A l.length c, .int .i64 x] w fun e w' => e = .returned (.bool (hasF l x)) ∧ w = w' := by
  have HL := Aside0.mk hl
  have hlen := hl.2.1
  clear hl
  go_enter Try.func25, Try.ntmps25
  go_wp2_with fail
  go_loop [5] (fun i => ∃ k : Nat, k ≤ l.length ∧ i = .int .i64 k ∧ Aside0 (∀ j, j < k → l.getD j 0 ≠ x)) (fun i => l.length - (intOf i).toNat)
  case atStart => exact ⟨0, by omega, rfl, ⟨fun j hj => by omega⟩⟩
  case round =>
    obtain ⟨k, hk, rfl, HP⟩ := hrel
    by_cases hlt : k < l.length
    · have hd : decide ((k : Int) < (l.length : Int)) = true := decide_eq_true (by omega)
      have HLT := Aside0.mk (Nat.succ_le_of_lt hlt)
      obtain ⟨ad, rfl, hc0⟩ := (Kd.reads_of_C (d := (0 : Int)) HL.out).2.2 (by omega)
      have hx := hc0 k hlt
      have HME := Aside0.mk (show l.getD k 0 ∈ l by rw [List.getD_eq_getElem?_getD, List.getElem?_eq_getElem hlt]; exact List.getElem_mem hlt)
      obtain ⟨y, hy⟩ : ∃ y, l.getD k 0 = y := ⟨_, rfl⟩
      rw [hy] at hx HME
      have HY := Aside0.mk hy
      clear hc0 hy
      by_cases hcc : y = x
      · have hcb : (y == x) = true := by simp [hcc]
        have HT := Aside0.mk (show hasF l x = true from List.any_eq_true.mpr ⟨y, HME.out, hcb⟩)
        clear hcc
        go_wp2_with fail
        go_ret
        exact ⟨by rw [HT.out]; rfl, rfl⟩
      · have hcb : (y == x) = false := by simp [hcc]
        have HP2 := Aside0.mk (show ∀ j, j < k + 1 → l.getD j 0 ≠ x from fun j hj => by
          rcases Nat.lt_or_ge j k with h | h
          · exact HP.out j h
          · obtain rfl : j = k := by omega
            rw [HY.out]
            exact hcc)
        clear hcc
        go_wp2_with fail
        go_round
        case rel => exact ⟨k + 1, HLT.out, by go_num, HP2⟩
        case measure => have := HLT.out; simp [intOf]; omega
    · have hd : decide ((k : Int) < (l.length : Int)) = false := decide_eq_false (by omega)
      have HT := Aside0.mk (show hasF l x = false by
        unfold hasF
        rw [List.any_eq_false]
        intro r hr
        obtain ⟨j, hj, rfl⟩ := List.getElem_of_mem hr
        have := HP.out j (by omega)
        rw [List.getD_eq_getElem?_getD, List.getElem?_eq_getElem hj] at this
        simpa using this)
      go_wp2_with fail
      go_ret
      exact ⟨by rw [HT.out]; rfl, rfl⟩
set_option maxRecDepth 1000000 in
set_option maxHeartbeats 1000000 in
theorem ints_true (A0 A1 : Option Addr) (c0 c1 : Nat) (l : List Int) (w : World) (h0 : (Kd.int .i64).C w A0 l.length l) (h1 : (Kd.int .i64).C w A1 l.length l) : Calls Try.prog 20 #[.slice A0 l.length c0, .slice A1 l.length c1] w fun e w' => e = .returned (.bool true) ∧ Below w.heap.size w w' := by
  have H0 := Aside0.mk h0
  have H1 := Aside0.mk h1
  have hlen := h0.2.1
  have HB0 := Aside0.mk (Below.refl w.heap.size w)
  clear h0 h1
  go_enter Try.func20, Try.ntmps20
  go_wp2_with fail
  go_loopw [5] (fun i wq => ∃ k : Nat, k ≤ l.length ∧ i = .int .i64 k ∧ Aside0 (Below w.heap.size w wq)) (fun i _ => l.length - (intOf i).toNat)
  case atStart => exact ⟨0, by omega, rfl, HB0⟩
  case round =>
    clear HB0
    obtain ⟨k, hk, rfl, HB⟩ := hrel
    by_cases hlt : k < l.length
    · have hd : decide ((k : Int) < (l.length : Int)) = true := decide_eq_true (by omega)
      have HLT := Aside0.mk (Nat.succ_le_of_lt hlt)
      obtain ⟨ad, rfl, hc0⟩ := (Kd.reads_of_C (d := (0 : Int)) (Kd.C_below H0.out HB.out)).2.2 (by omega)
      obtain ⟨ad1, rfl, hc1⟩ := (Kd.reads_of_C (d := (0 : Int)) (Kd.C_below H1.out HB.out)).2.2 (by omega)
      have hx := hc0 k hlt
      have hx1 := hc1 k hlt
      generalize l.getD k 0 = y at hx hx1
      have hq : (y != y) = false := by simp
      clear hc0 hc1
      go_wp2_with fail
      repeat (go_quiet (fail))
      go_wp2_with fail
      go_roundw
      case rel => exact ⟨k + 1, HLT.out, by go_num, ⟨HB.out.trans ⟨rfl, rfl, rfl, Nat.le_refl _, fun _ _ => rfl⟩⟩⟩
      case measure => have := HLT.out; simp [intOf]; omega
    · have hd : decide ((k : Int) < (l.length : Int)) = false := decide_eq_false (by omega)
      go_wp2_with fail
      go_ret
      exact ⟨rfl, HB.out⟩
theorem box5 {w W : World} {P : Nat} {v0 v1 v2 v3 v4 : Value} (h : w.heap[P]? = some (.cells #[v0, v1, v2, v3, v4] 41 (0, 0))) (hb : Below w.heap.size w W) : W.cell? ⟨P, 0, none⟩ = some v0 ∧ W.cell? ⟨P, 1, none⟩ = some v1 ∧ W.cell? ⟨P, 2, none⟩ = some v2 ∧ W.cell? ⟨P, 3, none⟩ = some v3 ∧ W.cell? ⟨P, 4, none⟩ = some v4 := by
  have h := (hb.block P (blk_lt h)).trans h
  exact ⟨by simp [World.cell?, h], by simp [World.cell?, h], by simp [World.cell?, h], by simp [World.cell?, h], by simp [World.cell?, h]⟩
set_option maxRecDepth 1000000 in
set_option maxHeartbeats 1000000 in
theorem same_true (A0 A2 A3 A4 B0 B2 B3 B4 : Option Addr) (c0 c2 c3 c4 d0 d2 d3 d4 : Nat) (l0 l2 l3 l4 : List Int) (s : Int) (w : World)
    (h0 : (Kd.int .i64).C w A0 l0.length l0) (h2 : (Kd.int .i64).C w A2 l2.length l2) (h3 : (Kd.int .i64).C w A3 l3.length l3) (h4 : (Kd.int .i64).C w A4 l4.length l4)
    (g0 : (Kd.int .i64).C w B0 l0.length l0) (g2 : (Kd.int .i64).C w B2 l2.length l2) (g3 : (Kd.int .i64).C w B3 l3.length l3) (g4 : (Kd.int .i64).C w B4 l4.length l4) :
    Calls Try.prog 15 #[.agg #[.slice A0 l0.length c0, .int .i64 s, .slice A2 l2.length c2, .slice A3 l3.length c3, .slice A4 l4.length c4], .agg #[.slice B0 l0.length d0, .int .i64 s, .slice B2 l2.length d2, .slice B3 l3.length d3, .slice B4 l4.length d4]] w fun e w' => e = .returned (.bool true) ∧ Below w.heap.size w w' := by
  have hb : Below w.heap.size w ((w.alloc (.cells #[.slice A0 l0.length c0, .int .i64 s, .slice A2 l2.length c2, .slice A3 l3.length c3, .slice A4 l4.length c4] 41)).alloc (.cells #[.slice B0 l0.length d0, .int .i64 s, .slice B2 l2.length d2, .slice B3 l3.length d3, .slice B4 l4.length d4] 41)) := ((Below.refl _ _).alloc (Nat.le_refl _) _).alloc (by simp) _
  have HB := Aside0.mk hb
  have H0 := Aside0.mk (Kd.C_below h0 hb)
  have H2 := Aside0.mk (Kd.C_below h2 hb)
  have H3 := Aside0.mk (Kd.C_below h3 hb)
  have H4 := Aside0.mk (Kd.C_below h4 hb)
  have G0 := Aside0.mk (Kd.C_below g0 hb)
  have G2 := Aside0.mk (Kd.C_below g2 hb)
  have G3 := Aside0.mk (Kd.C_below g3 hb)
  have G4 := Aside0.mk (Kd.C_below g4 hb)
  have hss : (s == s) = true := by simp
  have K0 := Aside0.mk (show ((w.alloc (.cells #[.slice A0 l0.length c0, .int .i64 s, .slice A2 l2.length c2, .slice A3 l3.length c3, .slice A4 l4.length c4] 41)).alloc (.cells #[.slice B0 l0.length d0, .int .i64 s, .slice B2 l2.length d2, .slice B3 l3.length d3, .slice B4 l4.length d4] 41)).heap[w.heap.size]? = some (.cells #[.slice A0 l0.length c0, .int .i64 s, .slice A2 l2.length c2, .slice A3 l3.length c3, .slice A4 l4.length c4] 41 (0, 0)) by rw [heap_alloc_old _ _ (by simp)]; exact heap_alloc_new w _)
  have K1 := Aside0.mk (show ((w.alloc (.cells #[.slice A0 l0.length c0, .int .i64 s, .slice A2 l2.length c2, .slice A3 l3.length c3, .slice A4 l4.length c4] 41)).alloc (.cells #[.slice B0 l0.length d0, .int .i64 s, .slice B2 l2.length d2, .slice B3 l3.length d3, .slice B4 l4.length d4] 41)).heap[w.heap.size + 1]? = some (.cells #[.slice B0 l0.length d0, .int .i64 s, .slice B2 l2.length d2, .slice B3 l3.length d3, .slice B4 l4.length d4] 41 (0, 0)) by
    have h1 := heap_alloc_new (w.alloc (.cells #[.slice A0 l0.length c0, .int .i64 s, .slice A2 l2.length c2, .slice A3 l3.length c3, .slice A4 l4.length c4] 41)) (.cells #[.slice B0 l0.length d0, .int .i64 s, .slice B2 l2.length d2, .slice B3 l3.length d3, .slice B4 l4.length d4] 41)
    rw [World.size_alloc] at h1
    exact h1)
  clear hb h0 h2 h3 h4 g0 g2 g3 g4
  go_enter Try.func15, Try.ntmps15
  go_wp2_with fail
  generalize (w.alloc (.cells #[.slice A0 l0.length c0, .int .i64 s, .slice A2 l2.length c2, .slice A3 l3.length c3, .slice A4 l4.length c4] 41)).alloc (.cells #[.slice B0 l0.length d0, .int .i64 s, .slice B2 l2.length d2, .slice B3 l3.length d3, .slice B4 l4.length d4] 41) = w2 at *
  refine (ints_true A0 B0 c0 d0 l0 _ H0.out G0.out).mono ?_
  rintro e wa ⟨rfl, ba⟩
  have HBa := Aside0.mk ba
  obtain ⟨_, p1, p2, _, _⟩ := box5 K0.out ba
  obtain ⟨_, q1, q2, _, _⟩ := box5 K1.out ba
  clear ba
  go_wp2_with fail
  refine (ints_true A2 B2 c2 d2 l2 _ (Kd.C_below H2.out HBa.out) (Kd.C_below G2.out HBa.out)).mono ?_
  rintro e wb ⟨rfl, bb⟩
  have HBb := Aside0.mk (HBa.out.trans (bb.mono HBa.out.size))
  obtain ⟨_, _, _, p3, _⟩ := box5 K0.out HBb.out
  obtain ⟨_, _, _, q3, _⟩ := box5 K1.out HBb.out
  clear bb p1 p2 q1 q2 HBa
  go_wp2_with fail
  refine (ints_true A3 B3 c3 d3 l3 _ (Kd.C_below H3.out HBb.out) (Kd.C_below G3.out HBb.out)).mono ?_
  rintro e wc ⟨rfl, bc⟩
  have HBc := Aside0.mk (HBb.out.trans (bc.mono HBb.out.size))
  obtain ⟨_, _, _, _, p4⟩ := box5 K0.out HBc.out
  obtain ⟨_, _, _, _, q4⟩ := box5 K1.out HBc.out
  clear bc p3 q3 HBb
  go_wp2_with fail
  refine (ints_true A4 B4 c4 d4 l4 _ (Kd.C_below H4.out HBc.out) (Kd.C_below G4.out HBc.out)).mono ?_
  rintro e wd ⟨rfl, bd⟩
  have HBd := Aside0.mk (HBc.out.trans (bd.mono HBc.out.size))
  clear bd p4 q4 HBc
  go_wp2_with fail
  go_ret
  exact ⟨rfl, HB.out.trans (HBd.out.mono HB.out.size)⟩
end Go.Proofs.Ytflkbheginhfiaa.XA
