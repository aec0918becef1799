/- the document's answer of layer 8: root, internal, rising: the contracts; a chain of links that ends, ends early. -/
import Derived.Test.YtflkbheginhfiaaHD
import Derived.StillTailTactics
import Derived.Test.YtflkbheginhfiaaHC
namespace Go.Proofs.Ytflkbheginhfiaa.XA
set_option linter.unusedVariables false
set_option linter.unusedSimpArgs false
open Go.RowKit Go.WideMaps Go.Maps Go.Proofs.YtflkbheginhfiaaW.PrintWords Go.Proofs.YtflkbheginhfiaaW.PrintLast Go.Proofs.YtflkbheginhfiaaW.PrintMore
/-! ### chains -/
def ch (rs : List S73) : Nat → Nat → Option Nat
  | 0, _ => none
  | k + 1, a => if kindOf rs a = 2 then ch rs k (linkOf rs a).toNat else some a
theorem chase_ch (rs : List S73) : ∀ k a, chase rs k a = ch rs (k + 1) a
  | 0, a => by unfold chase ch; split <;> rfl
  | k + 1, a => by
    unfold chase
    rw [ch]
    split
    · exact chase_ch rs k _
    · rfl
theorem pigeon : ∀ (n d : Nat) (f : Nat → Nat), (∀ i, i ≤ d → f i < n) → (∀ i j, i < j → j ≤ d → f i ≠ f j) → d < n
  | 0, d, f, h, _ => by have := h 0 (Nat.zero_le _); omega
  | n + 1, 0, f, _, _ => Nat.succ_pos _
  | n + 1, d + 1, f, h, hi => by
    have := pigeon n d (fun i => if f i = n then f (d + 1) else f i) (fun i hd => by
      have h1 := h i (by omega)
      have h2 := h (d + 1) (Nat.le_refl _)
      have h3 := hi i (d + 1) (by omega) (Nat.le_refl _)
      split <;> omega) (fun i j hij hj => by
      have h1 := hi i j hij (by omega)
      have h2 := hi i (d + 1) (by omega) (Nat.le_refl _)
      have h3 := hi j (d + 1) (by omega) (Nat.le_refl _)
      split <;> split <;> omega)
    omega
def path (rs : List S73) (a : Nat) : Nat → Nat
  | 0 => a
  | i + 1 => (linkOf rs (path rs a i)).toNat
theorem path_succ (rs : List S73) (a : Nat) : ∀ i, path rs a (i + 1) = path rs (linkOf rs a).toNat i
  | 0 => rfl
  | i + 1 => by rw [path, path_succ rs a i]; rfl
theorem ch_path (rs : List S73) : ∀ (m a b : Nat), ch rs m a = some b → ∃ d, d < m ∧ path rs a d = b ∧ kindOf rs b ≠ 2 ∧ ∀ i, i < d → kindOf rs (path rs a i) = 2
  | 0, a, b, h => by cases h
  | m + 1, a, b, h => by
    rw [ch] at h
    split at h
    · rename_i hk
      obtain ⟨d, h1, h2, h3, h4⟩ := ch_path rs m _ b h
      refine ⟨d + 1, by omega, by rw [path_succ]; exact h2, h3, fun i hi => ?_⟩
      cases i with
      | zero => exact hk
      | succ i => rw [path_succ]; exact h4 i (by omega)
    · injection h with h
      subst h
      exact ⟨0, by omega, rfl, by assumption, fun i hi => by omega⟩
theorem path_ch (rs : List S73) : ∀ (d m a : Nat), d < m → kindOf rs (path rs a d) ≠ 2 → (∀ i, i < d → kindOf rs (path rs a i) = 2) → ch rs m a = some (path rs a d)
  | d, 0, a, h, _, _ => by omega
  | 0, m + 1, a, _, h, _ => by rw [ch, if_neg (show ¬ kindOf rs a = 2 from h)]; rfl
  | d + 1, m + 1, a, h, h2, h3 => by
    rw [ch, if_pos (show kindOf rs a = 2 from h3 0 (by omega)), path_succ]
    exact path_ch rs d m _ (by omega) (by rw [← path_succ]; exact h2) (fun i hi => by rw [← path_succ]; exact h3 (i + 1) (by omega))
theorem path_add (rs : List S73) (a i : Nat) : ∀ t, path rs a (i + t) = path rs (path rs a i) t
  | 0 => rfl
  | t + 1 => by rw [← Nat.add_assoc, path, path_add rs a i t]; rfl
theorem ch_stable {rs : List S73} (hl : LinksOk rs) (a : Nat) (ha : a < rs.length) (m : Nat) (hm : rs.length ≤ m) : ch rs m a = ch rs rs.length a := by
  have key : ∀ m b, ch rs m a = some b → ch rs rs.length a = some b ∧ ∀ m', rs.length ≤ m' → ch rs m' a = some b := by
    intro m b h
    obtain ⟨d, _, rfl, hb, hd⟩ := ch_path rs m a b h
    have hlt : ∀ i, i ≤ d → path rs a i < rs.length := by
      intro i
      induction i with
      | zero => intro _; exact ha
      | succ i ih =>
        intro hi
        have h1 := hl _ (ih (by omega)) (hd i (by omega))
        rw [path]
        omega
    have hdl := pigeon rs.length d (path rs a) hlt (fun i j hij hj e => by
      have e2 : path rs a (i + (d - j)) = path rs a (j + (d - j)) := by rw [path_add, path_add, e]
      rw [show j + (d - j) = d by omega] at e2
      exact hb (by rw [← e2]; exact hd _ (by omega)))
    exact ⟨path_ch rs d _ a hdl hb hd, fun m' hm' => path_ch rs d m' a (by omega) hb hd⟩
  rcases h1 : ch rs m a with _ | b
  · rcases h2 : ch rs rs.length a with _ | b
    · rfl
    · rw [(key _ b h2).2 m hm] at h1
      cases h1
  · exact ((key m b h1).1).symm
theorem ch_lt {rs : List S73} (hl : LinksOk rs) : ∀ (m a b : Nat), a < rs.length → ch rs m a = some b → b < rs.length ∧ kindOf rs b ≠ 2
  | 0, a, b, ha, e => by cases e
  | m + 1, a, b, ha, e => chase_lt hl m a b ha (by rw [chase_ch]; exact e)
def rootZ (rs : List S73) (r : Nat) : Int := match ch rs (rs.length + 1) r with | some q => (q : Int) | none => -1
theorem rootZ_chase {rs : List S73} (hl : LinksOk rs) (a : Nat) (ha : a < rs.length) : ch rs (rs.length + 1) a = chase rs (rs.length + 1) a := by
  rw [chase_ch, ch_stable hl a ha (rs.length + 1) (by omega), ch_stable hl a ha (rs.length + 1 + 1) (by omega)]
set_option maxRecDepth 1000000 in
set_option maxHeartbeats 4000000 in
theorem root_calls (x : CV) (AT : Option Addr) (cT : Nat) (AR : Option Addr) (cR : Nat) (AI : Option Addr) (cI : Nat) (ts : List S64) (rs : List S73) (is : List S66) (r : Nat) (w : World) (hC : Cfg w AT cT AR cR AI cI ts rs is) (hl : LinksOk rs) (hr : r < rs.length) (hsz : rs.length ≤ 4398046511104) :
    Calls Try.prog 37 #[.agg #[.string x.s0, .string x.s1, .bool x.b2, .bool x.b3, .bool x.b4, .bool x.b5, .bool x.b6, .bool x.b7, .bool x.b8, .bool x.b9, .slice x.A10 x.n10 x.c10, .slice AT ts.length cT, .slice AR rs.length cR, .slice x.A13 x.n13 x.c13, .slice x.A14 x.n14 x.c14, .slice x.A15 x.n15 x.c15, .slice AI is.length cI, .slice x.A17 x.n17 x.c17], .int .i64 (r : Int)] w fun e w' => e = .returned (.int .i64 (rootZ rs r)) ∧ Below w.heap.size w w' := by
  have HLK := Aside0.mk hl
  have HR := Aside0.mk hr
  clear hl hr
  have HC := Aside0.mk hC
  clear hC
  have HBX := Aside0.mk (BoxAt.made w x AT cT AR cR AI cI ts.length rs.length is.length)
  have HB0 := Aside0.mk (show Below w.heap.size w (w.alloc (.cells #[.string x.s0, .string x.s1, .bool x.b2, .bool x.b3, .bool x.b4, .bool x.b5, .bool x.b6, .bool x.b7, .bool x.b8, .bool x.b9, .slice x.A10 x.n10 x.c10, .slice AT ts.length cT, .slice AR rs.length cR, .slice x.A13 x.n13 x.c13, .slice x.A14 x.n14 x.c14, .slice x.A15 x.n15 x.c15, .slice AI is.length cI, .slice x.A17 x.n17 x.c17] 36)) from (Below.refl _ _).alloc (Nat.le_refl _) _)
  unfold CV.arr at HBX
  go_enter Try.func37, Try.ntmps37
  go_wp2_with fail
  generalize w.alloc (.cells #[.string x.s0, .string x.s1, .bool x.b2, .bool x.b3, .bool x.b4, .bool x.b5, .bool x.b6, .bool x.b7, .bool x.b8, .bool x.b9, .slice x.A10 x.n10 x.c10, .slice AT ts.length cT, .slice AR rs.length cR, .slice x.A13 x.n13 x.c13, .slice x.A14 x.n14 x.c14, .slice x.A15 x.n15 x.c15, .slice AI is.length cI, .slice x.A17 x.n17 x.c17] 36) = w0 at *
  have HBX : Aside0 (BoxAt w0 w.heap.size x AT cT AR cR AI cI ts.length rs.length is.length) := HBX
  have q12 := HBX.out.res
  go_loop [1, 4, 5] (fun a e i => ∃ k b : Nat, k ≤ rs.length + 1 ∧ i = .int .i64 k ∧ a = .int .i64 b ∧ Aside0 (b < rs.length) ∧ Aside0 (ch rs (rs.length + 1 - k) b = ch rs (rs.length + 1) r)) (fun _ _ i => rs.length + 1 - (intOf i).toNat)
  case atStart => exact ⟨0, r, by omega, rfl, rfl, HR, ⟨rfl⟩⟩
  case round =>
    obtain ⟨k, b, hk, rfl, rfl, HBL, HCH⟩ := hrel
    by_cases hlt : k ≤ rs.length
    · have hd : decide ((k : Int) ≤ (rs.length : Int)) = true := decide_eq_true (by omega)
      have hbl := HBL.out
      obtain ⟨ad, rfl, h1, h2⟩ := res_at (HC.out.below HB0.out).r b hbl
      have HST := Aside0.mk (show (if kindOf rs b = 2 then ch rs (rs.length + 1 - (k + 1)) (linkOf rs b).toNat else some b) = ch rs (rs.length + 1) r by
        have h := HCH.out
        rw [show rs.length + 1 - k = (rs.length + 1 - (k + 1)) + 1 by omega, ch] at h
        exact h)
      clear HCH
      by_cases hc : kindOf rs b = 2
      · have hcb : ((kindOf rs b) != 2) = false := by simp [hc]
        have HLK2 := HLK.out b HBL.out hc
        obtain ⟨q, hq⟩ := Int.eq_ofNat_of_zero_le HLK2.1
        have HQ := Aside0.mk (show q < rs.length by omega)
        have HN := Aside0.mk (show ch rs (rs.length + 1 - (k + 1)) q = ch rs (rs.length + 1) r by
          have h := HST.out
          rw [if_pos hc, hq] at h
          exact h)
        rw [hq] at h2
        clear hc hq HLK2 HST
        go_wp2_with fail
        go_round
        case rel => exact ⟨k + 1, q, by omega, by go_num, by go_num, HQ, HN⟩
        case measure => simp [intOf]; omega
      · have hcb : ((kindOf rs b) != 2) = true := by simp [hc]
        have HE := Aside0.mk (show rootZ rs r = (b : Int) by
          have h := HST.out
          rw [if_neg hc] at h
          unfold rootZ
          rw [← h])
        clear hc HST
        go_wp2_with fail
        go_ret
        exact ⟨by rw [HE.out]; rfl, HB0.out⟩
    · have hd : decide ((k : Int) ≤ (rs.length : Int)) = false := decide_eq_false (by omega)
      have HE := Aside0.mk (show rootZ rs r = -1 by
        have h := HCH.out
        rw [show rs.length + 1 - k = 0 by omega, ch] at h
        unfold rootZ
        rw [← h])
      clear HCH
      go_wp2_with fail
      go_ret
      exact ⟨by rw [HE.out]; rfl, HB0.out⟩
set_option maxRecDepth 1000000 in
set_option maxHeartbeats 4000000 in
theorem internalR_calls (x : CV) (AT : Option Addr) (cT : Nat) (AR : Option Addr) (cR : Nat) (AI : Option Addr) (cI : Nat) (ts : List S64) (rs : List S73) (is : List S66) (r : Nat) (w : World) (hC : Cfg w AT cT AR cR AI cI ts rs is) (hr : r < rs.length) (hsz : rs.length ≤ 4398046511104) :
    Calls Try.prog 35 #[.agg #[.string x.s0, .string x.s1, .bool x.b2, .bool x.b3, .bool x.b4, .bool x.b5, .bool x.b6, .bool x.b7, .bool x.b8, .bool x.b9, .slice x.A10 x.n10 x.c10, .slice AT ts.length cT, .slice AR rs.length cR, .slice x.A13 x.n13 x.c13, .slice x.A14 x.n14 x.c14, .slice x.A15 x.n15 x.c15, .slice AI is.length cI, .slice x.A17 x.n17 x.c17], .int .i64 (r : Int)] w fun e w' => e = .returned (.bool (kindOf rs r == 3)) ∧ Below w.heap.size w w' := by
  have HR := Aside0.mk hr
  clear hr
  have HC := Aside0.mk hC
  clear hC
  have HBX := Aside0.mk (BoxAt.made w x AT cT AR cR AI cI ts.length rs.length is.length)
  have HB0 := Aside0.mk (show Below w.heap.size w (w.alloc (.cells #[.string x.s0, .string x.s1, .bool x.b2, .bool x.b3, .bool x.b4, .bool x.b5, .bool x.b6, .bool x.b7, .bool x.b8, .bool x.b9, .slice x.A10 x.n10 x.c10, .slice AT ts.length cT, .slice AR rs.length cR, .slice x.A13 x.n13 x.c13, .slice x.A14 x.n14 x.c14, .slice x.A15 x.n15 x.c15, .slice AI is.length cI, .slice x.A17 x.n17 x.c17] 36)) from (Below.refl _ _).alloc (Nat.le_refl _) _)
  unfold CV.arr at HBX
  have hbl := HR.out
  obtain ⟨ad, rfl, h1, h2⟩ := res_at (HC.out.below HB0.out).r r hbl
  go_enter Try.func35, Try.ntmps35
  go_wp2_with fail
  go_ret
  exact ⟨rfl, HB0.out⟩
/-! ### rising -/
def lastOf (l : List Int) (k : Nat) : Int := if k = 0 then -1 else l.getD (k - 1) 0
theorem rises_iff (n : Nat) : ∀ (l : List Int) (last : Int), risesF n last l = true ↔ ∀ k, k < l.length → (if k = 0 then last else l.getD (k - 1) 0) < l.getD k 0 ∧ l.getD k 0 < n
  | [], last => by simp [risesF]
  | r :: l, last => by
    rw [risesF]
    constructor
    · intro h k hk
      split at h
      · cases h
      · rename_i hc
        cases k with
        | zero => simp; omega
        | succ k =>
          have := (rises_iff n l r).mp h k (by simpa using hk)
          cases k with
          | zero => simpa using this
          | succ k => simpa using this
    · intro h
      have h0 := h 0 (by simp)
      simp at h0
      rw [if_neg (by omega)]
      refine (rises_iff n l r).mpr (fun k hk => ?_)
      have := h (k + 1) (by simpa using hk)
      cases k with
      | zero => simpa using this
      | succ k => simpa using this
theorem rises_low {l : List Int} {n k : Nat} (h : ∀ j, j < k → lastOf l j < l.getD j 0 ∧ l.getD j 0 < n) : -1 ≤ lastOf l k := by
  induction k with
  | zero => simp [lastOf]
  | succ k ih =>
    have h1 := ih (fun j hj => h j (by omega))
    have h2 := h k (by omega)
    unfold lastOf
    rw [if_neg (by omega), Nat.add_sub_cancel]
    omega
set_option maxRecDepth 1000000 in
set_option maxHeartbeats 4000000 in
theorem rising_calls (x : CV) (AT : Option Addr) (cT : Nat) (AR : Option Addr) (cR : Nat) (AI : Option Addr) (cI : Nat) (ts : List S64) (rs : List S73) (is : List S66) (A : Option Addr) (c : Nat) (l : List Int) (w : World) (hl : (Kd.int .i64).C w A l.length l) :
    Calls Try.prog 42 #[.agg #[.string x.s0, .string x.s1, .bool x.b2, .bool x.b3, .bool x.b4, .bool x.b5, .bool x.b6, .bool x.b7, .bool x.b8, .bool x.b9, .slice x.A10 x.n10 x.c10, .slice AT ts.length cT, .slice AR rs.length cR, .slice x.A13 x.n13 x.c13, .slice x.A14 x.n14 x.c14, .slice x.A15 x.n15 x.c15, .slice AI is.length cI, .slice x.A17 x.n17 x.c17], .slice A l.length c] w fun e w' => e = .returned (.bool (risesF rs.length (-1) l)) ∧ Below w.heap.size w w' := by
  have HL := Aside0.mk hl
  have hlen := hl.2.1
  clear hl
  have HBX := Aside0.mk (BoxAt.made w x AT cT AR cR AI cI ts.length rs.length is.length)
  have HB0 := Aside0.mk (show Below w.heap.size w (w.alloc (.cells #[.string x.s0, .string x.s1, .bool x.b2, .bool x.b3, .bool x.b4, .bool x.b5, .bool x.b6, .bool x.b7, .bool x.b8, .bool x.b9, .slice x.A10 x.n10 x.c10, .slice AT ts.length cT, .slice AR rs.length cR, .slice x.A13 x.n13 x.c13, .slice x.A14 x.n14 x.c14, .slice x.A15 x.n15 x.c15, .slice AI is.length cI, .slice x.A17 x.n17 x.c17] 36)) from (Below.refl _ _).alloc (Nat.le_refl _) _)
  unfold CV.arr at HBX
  go_enter Try.func42, Try.ntmps42
  go_wp2_with fail
  generalize w.alloc (.cells #[.string x.s0, .string x.s1, .bool x.b2, .bool x.b3, .bool x.b4, .bool x.b5, .bool x.b6, .bool x.b7, .bool x.b8, .bool x.b9, .slice x.A10 x.n10 x.c10, .slice AT ts.length cT, .slice AR rs.length cR, .slice x.A13 x.n13 x.c13, .slice x.A14 x.n14 x.c14, .slice x.A15 x.n15 x.c15, .slice AI is.length cI, .slice x.A17 x.n17 x.c17] 36) = w0 at *
  have HBX : Aside0 (BoxAt w0 w.heap.size x AT cT AR cR AI cI ts.length rs.length is.length) := HBX
  go_loopw [4, 5] (fun _ i wq => ∃ k : Nat, k ≤ l.length ∧ i = .int .i64 k ∧ Aside0 (∀ j, j < k → lastOf l j < l.getD j 0 ∧ l.getD j 0 < rs.length) ∧ Aside0 (BoxAt wq w.heap.size x AT cT AR cR AI cI ts.length rs.length is.length) ∧ Aside0 (Below w.heap.size w wq)) (fun _ i _ => l.length - (intOf i).toNat)
  case atStart => exact ⟨0, by omega, rfl, ⟨fun j hj => by omega⟩, HBX, HB0⟩
  case round =>
    clear HBX HB0
    obtain ⟨k, hk, rfl, HP, HX, HB⟩ := hrel
    by_cases hlt : k < l.length
    · have hd : decide ((k : Int) < (l.length : Int)) = true := decide_eq_true (by omega)
      have HLT := Aside0.mk (Nat.succ_le_of_lt hlt)
      obtain ⟨ad, rfl, hc0⟩ := (Kd.reads_of_C (d := (0 : Int)) (Kd.C_below HL.out HB.out)).2.2 (by omega)
      have hx := hc0 k hlt
      have q12 := HX.out.res
      have HLOW := Aside0.mk (rises_low HP.out)
      obtain ⟨y, hy⟩ : ∃ y, l.getD k 0 = y := ⟨_, rfl⟩
      rw [hy] at hx
      have HY := Aside0.mk hy
      have HF := Aside0.mk (show ¬ (lastOf l k < y ∧ y < (rs.length : Int)) → risesF rs.length (-1) l = false from fun hn => by
        rcases h : risesF rs.length (-1) l with _ | _
        · rfl
        · have := (rises_iff rs.length l (-1)).mp h k hlt
          unfold lastOf at hn
          rw [hy] at this
          exact absurd this hn)
      have HT := Aside0.mk (show (lastOf l k < y ∧ y < (rs.length : Int)) → ∀ j, j < k + 1 → lastOf l j < l.getD j 0 ∧ l.getD j 0 < rs.length from fun hn j hj => by
        rcases Nat.lt_or_ge j k with h | h
        · exact HP.out j h
        · obtain rfl : j = k := by omega
          rw [hy]
          exact hn)
      clear hy HP
      have hbd : ∀ {w1 : World}, Below wr.heap.size wr w1 → Below w.heap.size w w1 ∧ BoxAt w1 w.heap.size x AT cT AR cR AI cI ts.length rs.length is.length := fun hb => ⟨HB.out.trans (hb.mono HB.out.size), HX.out.below hb⟩
      have HBd := Aside0.mk @hbd
      clear hbd
      by_cases c1 : y < 0
      · have c1b : decide (y < 0) = true := decide_eq_true c1
        have HR := Aside0.mk (HF.out (by have := HLOW.out; omega))
        clear c1 HF HT hc0
        go_wp2_with fail
        repeat (go_quiet (fail))
        go_wp2_with fail
        go_ret
        exact ⟨by rw [HR.out]; rfl, (HBd.out (by exact ⟨rfl, rfl, rfl, Nat.le_refl _, fun _ _ => rfl⟩)).1⟩
      · have c1b : decide (y < 0) = false := decide_eq_false c1
        by_cases c2 : (rs.length : Int) ≤ y
        · have c2b : decide ((rs.length : Int) ≤ y) = true := decide_eq_true c2
          have HR := Aside0.mk (HF.out (by omega))
          clear c1 c2 HF HT hc0
          go_wp2_with fail
          repeat (go_quiet (fail))
          go_wp2_with fail
          go_ret
          exact ⟨by rw [HR.out]; rfl, (HBd.out (by exact ⟨rfl, rfl, rfl, Nat.le_refl _, fun _ _ => rfl⟩)).1⟩
        · have c2b : decide ((rs.length : Int) ≤ y) = false := decide_eq_false c2
          by_cases c3 : k = 0
          · have c3b : decide ((0 : Int) < (k : Int)) = false := decide_eq_false (by omega)
            have c3c : decide (0 < k) = false := decide_eq_false (by omega)
            have HN := Aside0.mk (HT.out ⟨by unfold lastOf; rw [if_pos c3]; omega, by omega⟩)
            clear c1 c2 HF HT hc0 c3
            go_wp2_with fail
            repeat (go_quiet (fail))
            go_wp2_with fail
            go_roundw
            case rel => exact ⟨k + 1, HLT.out, by go_num, HN, ⟨(HBd.out (by exact ⟨rfl, rfl, rfl, Nat.le_refl _, fun _ _ => rfl⟩)).2⟩, ⟨(HBd.out (by exact ⟨rfl, rfl, rfl, Nat.le_refl _, fun _ _ => rfl⟩)).1⟩⟩
            case measure => have := HLT.out; simp [intOf]; omega
          · have c3b : decide ((0 : Int) < (k : Int)) = true := decide_eq_true (by omega)
            have c3c : decide (0 < k) = true := decide_eq_true (by omega)
            have hx1 := hc0 (k - 1) (by omega)
            obtain ⟨z, hz⟩ : ∃ z, l.getD (k - 1) 0 = z := ⟨_, rfl⟩
            rw [hz] at hx1
            have HLS := Aside0.mk (show lastOf l k = z by unfold lastOf; rw [if_neg c3, hz])
            have c4 : 0 ≤ (k : Int) - 1 := by omega
            have c4b : (1 : Int) ≤ k := by omega
            have c5 : (k : Int) - 1 < (l.length : Int) := by omega
            have W1 := Aside0.mk (show IntKind.i64.wrap ((k : Int) - 1) = (k : Int) - 1 from IntWalk.i64_in _ (by omega))
            have W2 := Aside0.mk (show ((k : Int) - 1).toNat = k - 1 by omega)
            clear hz
            by_cases c6 : y ≤ z
            · have c6b : decide (y ≤ z) = true := decide_eq_true c6
              have HR := Aside0.mk (HF.out (by rw [HLS.out]; omega))
              clear c1 c2 HF HT hc0 c6 c3
              go_wp2_with fail
              have w1 := W1.out
              have w2 := W2.out
              repeat (go_quiet (fail))
              clear w1 w2
              go_wp2_with fail
              go_ret
              exact ⟨by rw [HR.out]; rfl, (HBd.out (by exact ⟨rfl, rfl, rfl, Nat.le_refl _, fun _ _ => rfl⟩)).1⟩
            · have c6b : decide (y ≤ z) = false := decide_eq_false c6
              have HN := Aside0.mk (HT.out (by rw [HLS.out]; omega))
              clear c1 c2 HF HT hc0 c6 c3
              go_wp2_with fail
              have w1 := W1.out
              have w2 := W2.out
              repeat (go_quiet (fail))
              clear w1 w2
              go_wp2_with fail
              go_roundw
              case rel => exact ⟨k + 1, HLT.out, by go_num, HN, ⟨(HBd.out (by exact ⟨rfl, rfl, rfl, Nat.le_refl _, fun _ _ => rfl⟩)).2⟩, ⟨(HBd.out (by exact ⟨rfl, rfl, rfl, Nat.le_refl _, fun _ _ => rfl⟩)).1⟩⟩
              case measure => have := HLT.out; simp [intOf]; omega
    · have hd : decide ((k : Int) < (l.length : Int)) = false := decide_eq_false (by omega)
      have HT := Aside0.mk (show risesF rs.length (-1) l = true from (rises_iff rs.length l (-1)).mpr (fun j hj => HP.out j (by omega)))
      go_wp2_with fail
      go_ret
      exact ⟨by rw [HT.out]; rfl, HB.out⟩
end Go.Proofs.Ytflkbheginhfiaa.XA
/- the document's answer of layer 8: refs: the contract. -/
namespace Go.Proofs.Ytflkbheginhfiaa.XA
set_option linter.unusedVariables false
set_option linter.unusedSimpArgs false
open Go.RowKit Go.WideMaps Go.Maps Go.Proofs.YtflkbheginhfiaaW.PrintWords Go.Proofs.YtflkbheginhfiaaW.PrintLast Go.Proofs.YtflkbheginhfiaaW.PrintMore
section
variable {ops : Array Oper} {rest : List Oper} {o : Oper} {a : Act} {Q : Act → Prop}
theorem run36 {w : World} {B : Nat} {x : CV} {AT : Option Addr} {cT : Nat} {AR : Option Addr} {cR : Nat} {AI : Option Addr} {cI : Nat} {nT nR nI : Nat} (hX : BoxAt w B x AT cT AR cR AI cI nT nR nI) (y : Operand) (ho : o.op = .load 36 y) (hy : a.eval y = .pointer (some ⟨B, 0, none⟩)) :
    (execOp a.eval o).run Try.prog w = .ok (.value (.agg #[.string x.s0, .string x.s1, .bool x.b2, .bool x.b3, .bool x.b4, .bool x.b5, .bool x.b6, .bool x.b7, .bool x.b8, .bool x.b9, .slice x.A10 x.n10 x.c10, .slice AT nT cT, .slice AR nR cR, .slice x.A13 x.n13 x.c13, .slice x.A14 x.n14 x.c14, .slice x.A15 x.n15 x.c15, .slice AI nI cI, .slice x.A17 x.n17 x.c17])) w := by
  have hl := load_agg (w := w) (t := 36) (n := 18) (a := ⟨B, 0, none⟩) (cs := (x.arr AT cT AR cR AI cI nT nR nI).toList) agg36 size36 rfl (fun j v hj => by
    have e : (⟨B, 0, none⟩ : Addr).add j = ⟨B, j, none⟩ := by unfold Addr.add; split <;> simp_all
    rw [e, hX.cell j]
    rw [← hj]
    simp)
  simp only [execOp, ho, hy]
  rw [Array.toArray_toList] at hl
  simp [hl, Result.andThen]
  rfl
theorem still_of_run {w : World} {v : Value} (hgd : o.guard = none) (hr : (execOp a.eval o).run Try.prog w = .ok (.value v) w) (h : wpStill Try.prog ops w Q rest (a.put o.dst v)) : wpStill Try.prog ops w Q (o :: rest) a := by
  refine wpStill_step (fun K hK => ?_)
  rw [if_pos (by simp [Region.wanted, hgd])]
  unfold Oper.still
  rw [hr]
  exact ⟨rfl, hK _ h⟩
end
theorem drew_below (w : World) : Below w.heap.size w w.drew := ⟨rfl, rfl, rfl, Nat.le_refl _, fun _ _ => rfl⟩
def RefsIs (ts : List S64) (rs : List S73) (is : List S66) (b : Bool) : Prop := b = true ∧ RefsOk ts rs is ∨ b = false ∧ ¬ RefsOk ts rs is
theorem isr_f {w : World} {A : Option Addr} {is : List S66} (h : k66.C w A is.length is) (k : Nat) (hk : k < is.length) :
    ∃ ad A3 c3, A = some ad ∧ w.cell? ⟨(ad.add (k * 5)).block, (ad.add (k * 5)).off + 2, none⟩ = some (.int .i64 (is.getD k z66).f2) ∧ w.cell? ⟨(ad.add (k * 5)).block, (ad.add (k * 5)).off + 3, none⟩ = some (.slice A3 (is.getD k z66).f3.length c3) ∧ (is.getD k z66).f3.length ≤ c3 ∧ (Kd.int .i64).C w A3 (is.getD k z66).f3.length (is.getD k z66).f3 := by
  obtain ⟨ad, A3, c3, A4, c4, e, hI, l3, g3⟩ := isr_cells h k hk
  have e2 : ∀ j, (ad.add (k * 5)).add (j + 1) = ⟨(ad.add (k * 5)).block, (ad.add (k * 5)).off + (j + 1), none⟩ := fun j => by
    unfold Addr.add
    simp
  exact ⟨ad, A3, c3, e, by rw [← hI.cells 2 _ rfl, e2], by rw [← hI.cells 3 _ rfl, e2], l3, g3⟩
set_option maxRecDepth 1000000 in
set_option maxHeartbeats 4000000 in
theorem refs_calls (x : CV) (AT : Option Addr) (cT : Nat) (AR : Option Addr) (cR : Nat) (AI : Option Addr) (cI : Nat) (ts : List S64) (rs : List S73) (is : List S66) (w : World) (hC : Cfg w AT cT AR cR AI cI ts rs is) (hsz : rs.length ≤ 4398046511104) (ht : ts.length ≤ 4398046511104) (hi : is.length ≤ 4398046511104) :
    Calls Try.prog 36 #[.agg #[.string x.s0, .string x.s1, .bool x.b2, .bool x.b3, .bool x.b4, .bool x.b5, .bool x.b6, .bool x.b7, .bool x.b8, .bool x.b9, .slice x.A10 x.n10 x.c10, .slice AT ts.length cT, .slice AR rs.length cR, .slice x.A13 x.n13 x.c13, .slice x.A14 x.n14 x.c14, .slice x.A15 x.n15 x.c15, .slice AI is.length cI, .slice x.A17 x.n17 x.c17]] w fun e w' => Below w.heap.size w w' ∧ ∃ b, e = .returned (.bool b) ∧ RefsIs ts rs is b := by
  have HC := Aside0.mk hC
  clear hC
  have HBX := Aside0.mk (BoxAt.made w x AT cT AR cR AI cI ts.length rs.length is.length)
  have HB0 := Aside0.mk (show Below w.heap.size w (w.alloc (.cells #[.string x.s0, .string x.s1, .bool x.b2, .bool x.b3, .bool x.b4, .bool x.b5, .bool x.b6, .bool x.b7, .bool x.b8, .bool x.b9, .slice x.A10 x.n10 x.c10, .slice AT ts.length cT, .slice AR rs.length cR, .slice x.A13 x.n13 x.c13, .slice x.A14 x.n14 x.c14, .slice x.A15 x.n15 x.c15, .slice AI is.length cI, .slice x.A17 x.n17 x.c17] 36)) from (Below.refl _ _).alloc (Nat.le_refl _) _)
  unfold CV.arr at HBX
  go_enter Try.func36, Try.ntmps36
  go_wp2_with fail
  generalize w.alloc (.cells #[.string x.s0, .string x.s1, .bool x.b2, .bool x.b3, .bool x.b4, .bool x.b5, .bool x.b6, .bool x.b7, .bool x.b8, .bool x.b9, .slice x.A10 x.n10 x.c10, .slice AT ts.length cT, .slice AR rs.length cR, .slice x.A13 x.n13 x.c13, .slice x.A14 x.n14 x.c14, .slice x.A15 x.n15 x.c15, .slice AI is.length cI, .slice x.A17 x.n17 x.c17] 36) = w0 at *
  have HBX : Aside0 (BoxAt w0 w.heap.size x AT cT AR cR AI cI ts.length rs.length is.length) := HBX
  go_loopw [2, 3] (fun _ i wr => ∃ k : Nat, k ≤ ts.length ∧ i = .int .i64 k ∧ Aside0 (∀ j, j < k → risesF rs.length (-1) (ts.getD j z64).f5 = true) ∧ Aside0 (BoxAt wr w.heap.size x AT cT AR cR AI cI ts.length rs.length is.length) ∧ Aside0 (Below w.heap.size w wr)) (fun _ i _ => ts.length - (intOf i).toNat)
  case atStart => exact ⟨0, by omega, rfl, ⟨by intro j hj; omega⟩, HBX, HB0⟩
  case round =>
    clear HBX HB0
    obtain ⟨k, hk, rfl, HP, HX, HB⟩ := hrel
    have q11 := HX.out.tasks
    by_cases hlt : k < ts.length
    · have hd : decide ((k : Int) < (ts.length : Int)) = true := decide_eq_true (by omega)
      have HLT := Aside0.mk (Nat.succ_le_of_lt hlt)
      obtain ⟨ad, A5, c5, rfl, _, h5, l5, g5⟩ := task_f (HC.out.below HB.out).t k hlt
      have HG := Aside0.mk (Kd.C_below g5 (drew_below wr))
      have HXd := Aside0.mk (HX.out.below (drew_below wr))
      have HBd := Aside0.mk (HB.out.trans ((drew_below wr).mono HB.out.size))
      clear l5 g5
      generalize hT : ts.getD k z64 = t at *
      have HT := Aside0.mk hT
      clear hT
      go_wp2_with fail
      refine wp_region_still_tail 7 (by kernel_rfl) (by kernel_rfl) ?_
      simp only [List.take_succ_cons, List.take_zero, List.drop_succ_cons, List.drop_zero]
      change wpStill _ _ wr.drew _ _ _
      repeat (first | (refine still_of_run rfl (run36 HXd.out (.tmp 1) rfl rfl) ?_) | still_step)
      refine wpStill_nil ?_
      change wpList _ _ _ _ _ wr.drew
      clear q11 h5 HX HB
      generalize wr.drew = wd at *
      go_wp2_with fail
      refine (rising_calls x (some ad) cT AR cR AI cI ts rs is A5 c5 t.f5 wd HG.out).mono ?_
      rintro e wb ⟨rfl, B2⟩
      have HXb := Aside0.mk (HXd.out.below B2)
      have HBb := Aside0.mk (HBd.out.trans (B2.mono HBd.out.size))
      clear B2
      cases hrz : risesF rs.length (-1) t.f5 with
      | false =>
        have HNO := Aside0.mk (show ¬ RefsOk ts rs is from fun h => by
          have := h.t k HLT.out
          rw [HT.out, hrz] at this
          cases this)
        clear hrz
        go_wp2_with fail
        go_ret
        exact ⟨HBb.out, _, rfl, .inr ⟨rfl, HNO.out⟩⟩
      | true =>
        have HP2 := Aside0.mk (show ∀ j, j < k + 1 → risesF rs.length (-1) (ts.getD j z64).f5 = true from fun j hj => by
          rcases Nat.lt_or_ge j k with h | h
          · exact HP.out j h
          · obtain rfl : j = k := by omega
            rw [HT.out]
            exact hrz)
        clear hrz
        go_wp2_with fail
        go_roundw
        case rel => exact ⟨k + 1, HLT.out, by go_num, HP2, HXb, HBb⟩
        case measure => have := HLT.out; simp [intOf]; omega
    · have hd : decide ((k : Int) < (ts.length : Int)) = false := decide_eq_false (by omega)
      have HTS := Aside0.mk (show ∀ j, j < ts.length → risesF rs.length (-1) (ts.getD j z64).f5 = true from fun j hj => HP.out j (by omega))
      clear HP
      go_wp2_with fail
      clear q11
      go_loopw [2, 4] (fun _ i wq => ∃ k : Nat, k ≤ is.length ∧ i = .int .i64 k ∧ Aside0 (∀ j, j < k → risesF rs.length (-1) (is.getD j z66).f3 = true) ∧ Aside0 (BoxAt wq w.heap.size x AT cT AR cR AI cI ts.length rs.length is.length) ∧ Aside0 (Below w.heap.size w wq)) (fun _ i _ => is.length - (intOf i).toNat)
      case atStart => exact ⟨0, by omega, rfl, ⟨by intro j hj; omega⟩, HX, HB⟩
      case round =>
        clear HX HB
        obtain ⟨k, hk, rfl, HP, HX, HB⟩ := hrel
        obtain ⟨wo, rfl⟩ : ∃ wo : World, wo = wr := ⟨_, rfl⟩
        have q16 := HX.out.isrs
        by_cases hlt : k < is.length
        · have hd : decide ((k : Int) < (is.length : Int)) = true := decide_eq_true (by omega)
          have HLT := Aside0.mk (Nat.succ_le_of_lt hlt)
          obtain ⟨ad, A3, c3, rfl, _, h5, l5, g5⟩ := isr_f (HC.out.below HB.out).i k hlt
          have HG := Aside0.mk (Kd.C_below g5 (drew_below wo))
          have HXd := Aside0.mk (HX.out.below (drew_below wo))
          have HBd := Aside0.mk (HB.out.trans ((drew_below wo).mono HB.out.size))
          clear l5 g5
          generalize hT : is.getD k z66 = t at *
          have HT := Aside0.mk hT
          clear hT
          go_wp2_with fail
          refine wp_region_still_tail 7 (by kernel_rfl) (by kernel_rfl) ?_
          simp only [List.take_succ_cons, List.take_zero, List.drop_succ_cons, List.drop_zero]
          change wpStill _ _ wo.drew _ _ _
          repeat (first | (refine still_of_run rfl (run36 HXd.out (.tmp 1) rfl rfl) ?_) | still_step)
          refine wpStill_nil ?_
          change wpList _ _ _ _ _ wo.drew
          clear q16 h5 HX HB
          generalize wo.drew = wd at *
          go_wp2_with fail
          refine (rising_calls x AT cT AR cR (some ad) cI ts rs is A3 c3 t.f3 wd HG.out).mono ?_
          rintro e wb ⟨rfl, B2⟩
          have HXb := Aside0.mk (HXd.out.below B2)
          have HBb := Aside0.mk (HBd.out.trans (B2.mono HBd.out.size))
          clear B2
          cases hrz : risesF rs.length (-1) t.f3 with
          | false =>
            have HNO := Aside0.mk (show ¬ RefsOk ts rs is from fun h => by
              have := h.i k HLT.out
              rw [HT.out, hrz] at this
              cases this)
            clear hrz
            go_wp2_with fail
            go_ret
            exact ⟨HBb.out, _, rfl, .inr ⟨rfl, HNO.out⟩⟩
          | true =>
            have HP2 := Aside0.mk (show ∀ j, j < k + 1 → risesF rs.length (-1) (is.getD j z66).f3 = true from fun j hj => by
              rcases Nat.lt_or_ge j k with h | h
              · exact HP.out j h
              · obtain rfl : j = k := by omega
                rw [HT.out]
                exact hrz)
            clear hrz
            go_wp2_with fail
            go_roundw
            case rel => exact ⟨k + 1, HLT.out, by go_num, HP2, HXb, HBb⟩
            case measure => have := HLT.out; simp [intOf]; omega
        · have hd : decide ((k : Int) < (is.length : Int)) = false := decide_eq_false (by omega)
          have HIS := Aside0.mk (show ∀ j, j < is.length → risesF rs.length (-1) (is.getD j z66).f3 = true from fun j hj => HP.out j (by omega))
          clear HP
          go_wp2_with fail
          clear q16
          go_loopw [2, 5, 6] (fun _ i _ wq => ∃ k : Nat, k ≤ rs.length ∧ i = .int .i64 k ∧ Aside0 (∀ j, j < k → okRes rs j) ∧ Aside0 (BoxAt wq w.heap.size x AT cT AR cR AI cI ts.length rs.length is.length) ∧ Aside0 (Below w.heap.size w wq)) (fun _ i _ _ => rs.length - (intOf i).toNat)
          case atStart => exact ⟨0, by omega, rfl, ⟨by intro j hj; omega⟩, HX, HB⟩
          case round =>
            clear HX HB
            obtain ⟨k, hk, rfl, HP, HX, HB⟩ := hrel
            have q12 := HX.out.res
            by_cases hlt : k < rs.length
            · have hd : decide ((k : Int) < (rs.length : Int)) = true := decide_eq_true (by omega)
              have HLT := Aside0.mk (Nat.succ_le_of_lt hlt)
              obtain ⟨ad, rfl, hra⟩ := res_cells (HC.out.below HB.out).r k hlt
              have HRA := Aside0.mk hra
              clear hra
              generalize hT : rs.getD k z73 = t at *
              have HOK := Aside0.mk (show okRes rs k ↔ ¬ (t.f1 < 1 ∨ 3 < t.f1 ∨ t.f1 = 2 ∧ (t.f2 < 0 ∨ (rs.length : Int) ≤ t.f2)) by unfold okRes kindOf linkOf; rw [hT])
              clear hT
              have hba : Below wr.heap.size wr (wr.alloc (.cells #[.string t.f0, .int .i64 t.f1, .int .i64 t.f2] 73)) := (Below.refl _ _).alloc (Nat.le_refl _) _
              have HXa := Aside0.mk (HX.out.below hba)
              have HBa := Aside0.mk (HB.out.trans (hba.mono HB.out.size))
              have q12 := HXa.out.res
              clear hba
              have HPP := Aside0.mk (show okRes rs k → ∀ j, j < k + 1 → okRes rs j from fun hn j hj => by
                rcases Nat.lt_or_ge j k with h | h
                · exact HP.out j h
                · obtain rfl : j = k := by omega
                  exact hn)
              clear HP
              by_cases c1 : t.f1 = 1
              · have b1 : (t.f1 != 1) = false := by simp [c1]
                have b2 : (t.f1 == 2) = false := by simp [c1]
                have HN := Aside0.mk (HPP.out (HOK.out.mpr (by omega)))
                clear c1
                go_wp2_with (first | ((with_reducible refine gate_dst (N := 50) rfl ?_); refine load73 HRA.out rfl (.tmp 49) rfl rfl ?_))
                go_roundw
                case rel => exact ⟨k + 1, HLT.out, by go_num, HN, HXa, HBa⟩
                case measure => have := HLT.out; simp [intOf]; omega
              · have b1 : (t.f1 != 1) = true := by simp [c1]
                by_cases c2 : t.f1 = 2
                · have b2 : (t.f1 != 2) = false := by simp [c2]
                  have b3 : (t.f1 == 2) = true := by simp [c2]
                  by_cases c4 : t.f2 < 0
                  · have b4 : decide (t.f2 < 0) = true := decide_eq_true c4
                    have HNO := Aside0.mk (show ¬ RefsOk ts rs is from fun h => by have := HOK.out.mp (h.r k HLT.out); omega)
                    clear c1 c2 c4
                    go_wp2_with (first | ((with_reducible refine gate_dst (N := 50) rfl ?_); refine load73 HRA.out rfl (.tmp 49) rfl rfl ?_))
                    go_ret
                    exact ⟨HBa.out, _, rfl, .inr ⟨rfl, HNO.out⟩⟩
                  · have b4 : decide (t.f2 < 0) = false := decide_eq_false c4
                    by_cases c5 : (rs.length : Int) ≤ t.f2
                    · have b5 : decide ((rs.length : Int) ≤ t.f2) = true := decide_eq_true c5
                      have HNO := Aside0.mk (show ¬ RefsOk ts rs is from fun h => by have := HOK.out.mp (h.r k HLT.out); omega)
                      clear c1 c2 c4 c5
                      go_wp2_with (first | ((with_reducible refine gate_dst (N := 50) rfl ?_); refine load73 HRA.out rfl (.tmp 49) rfl rfl ?_))
                      go_ret
                      exact ⟨HBa.out, _, rfl, .inr ⟨rfl, HNO.out⟩⟩
                    · have b5 : decide ((rs.length : Int) ≤ t.f2) = false := decide_eq_false c5
                      have HN := Aside0.mk (HPP.out (HOK.out.mpr (by omega)))
                      clear c1 c2 c4 c5
                      go_wp2_with (first | ((with_reducible refine gate_dst (N := 50) rfl ?_); refine load73 HRA.out rfl (.tmp 49) rfl rfl ?_))
                      go_roundw
                      case rel => exact ⟨k + 1, HLT.out, by go_num, HN, HXa, HBa⟩
                      case measure => have := HLT.out; simp [intOf]; omega
                · have b2 : (t.f1 != 2) = true := by simp [c2]
                  by_cases c3 : t.f1 = 3
                  · have b3 : (t.f1 != 3) = false := by simp [c3]
                    have b4 : (t.f1 == 2) = false := by simp [c2]
                    have HN := Aside0.mk (HPP.out (HOK.out.mpr (by omega)))
                    clear c1 c2 c3
                    go_wp2_with (first | ((with_reducible refine gate_dst (N := 50) rfl ?_); refine load73 HRA.out rfl (.tmp 49) rfl rfl ?_))
                    go_roundw
                    case rel => exact ⟨k + 1, HLT.out, by go_num, HN, HXa, HBa⟩
                    case measure => have := HLT.out; simp [intOf]; omega
                  · have b3 : (t.f1 != 3) = true := by simp [c3]
                    have HNO := Aside0.mk (show ¬ RefsOk ts rs is from fun h => by have := HOK.out.mp (h.r k HLT.out); omega)
                    clear c1 c2 c3
                    go_wp2_with (first | ((with_reducible refine gate_dst (N := 50) rfl ?_); refine load73 HRA.out rfl (.tmp 49) rfl rfl ?_))
                    go_ret
                    exact ⟨HBa.out, _, rfl, .inr ⟨rfl, HNO.out⟩⟩
            · have hd : decide ((k : Int) < (rs.length : Int)) = false := decide_eq_false (by omega)
              have HRK := Aside0.mk (RefsOk.mk HTS.out HIS.out (fun j hj => HP.out j (by omega)))
              go_wp2_with fail
              go_ret
              exact ⟨HB.out, _, rfl, .inl ⟨rfl, HRK.out⟩⟩
end Go.Proofs.Ytflkbheginhfiaa.XA
/- the document's answer of layer 8: Check: the contract. -/
namespace Go.Proofs.Ytflkbheginhfiaa.XA
set_option linter.unusedVariables false
set_option linter.unusedSimpArgs false
open Go.RowKit Go.WideMaps Go.Maps Go.Proofs.YtflkbheginhfiaaW.PrintWords Go.Proofs.YtflkbheginhfiaaW.PrintLast Go.Proofs.YtflkbheginhfiaaW.PrintMore
section
variable {ops : Array Oper} {rest : List Oper} {o : Oper} {a : Act} {Q : Act → Prop}
theorem still_of_runG {w : World} {v : Value} (hw : Region.wanted o (yielded ops a.tmps) = true) (hr : (execOp a.eval o).run Try.prog w = .ok (.value v) w) (h : wpStill Try.prog ops w Q rest (a.put o.dst v)) : wpStill Try.prog ops w Q (o :: rest) a := by
  refine wpStill_step (fun K hK => ?_)
  rw [if_pos hw]
  unfold Oper.still
  rw [hr]
  exact ⟨rfl, hK _ h⟩
end
theorem cnt_take (rs : List S73) (l : List Int) (k : Nat) : cntF rs (l.take k) ≤ cntF rs l := by
  unfold cntF
  exact (List.Sublist.filter _ (List.take_sublist k l)).length_le
theorem rootZ_neg {rs : List S73} (hl : LinksOk rs) (i : Nat) (hi : i < rs.length) (h : rootZ rs i < 0) : chase rs (rs.length + 1) i = none := by
  unfold rootZ at h
  rw [rootZ_chase hl i hi] at h
  split at h
  · omega
  · assumption
theorem rootZ_pos {rs : List S73} (hl : LinksOk rs) (i : Nat) (hi : i < rs.length) (h : ¬ rootZ rs i < 0) : chase rs (rs.length + 1) i ≠ none := by
  unfold rootZ at h
  rw [rootZ_chase hl i hi] at h
  split at h
  · rename_i e
    rw [e]
    simp
  · omega
theorem rootZ_of {rs : List S73} (hl : LinksOk rs) (he : Ends rs) (i : Nat) (hi : i < rs.length) : rootZ rs i = (rootOf rs i : Int) ∧ rootOf rs i < rs.length ∧ chase rs (rs.length + 1) i = some (rootOf rs i) := by
  refine ⟨?_, root_lt hl he i hi, ?_⟩
  · unfold rootZ rootOf
    rw [rootZ_chase hl i hi]
    cases h : chase rs (rs.length + 1) i with
    | none => exact absurd h (he i hi)
    | some q => rfl
  · unfold rootOf
    cases h : chase rs (rs.length + 1) i with
    | none => exact absurd h (he i hi)
    | some q => rfl
theorem chase_self {rs : List S73} {k j r : Nat} (h : chase rs k j = some r) (hne : r ≠ j) : kindOf rs j = 2 := by
  rcases Nat.eq_zero_or_pos k with rfl | hp
  · rw [chase] at h
    split at h
    · cases h
    · injection h with h; exact absurd h.symm hne
  · obtain ⟨k, rfl⟩ : ∃ m, k = m + 1 := ⟨k - 1, by omega⟩
    rw [chase] at h
    split at h
    · assumption
    · injection h with h; exact absurd h.symm hne
theorem drewN_below (w : World) (n : Nat) : Below w.heap.size w (w.drewN n) := ⟨rfl, rfl, rfl, Nat.le_refl _, fun _ _ => rfl⟩
set_option maxRecDepth 1000000 in
set_option maxHeartbeats 4000000 in
theorem checkR_calls (x : CV) (AT : Option Addr) (cT : Nat) (AR : Option Addr) (cR : Nat) (AI : Option Addr) (cI : Nat) (ts : List S64) (rs : List S73) (is : List S66) (w : World) (hC : Cfg w AT cT AR cR AI cI ts rs is) (hsz : rs.length ≤ 4398046511104) (ht : ts.length ≤ 4398046511104) (hi : is.length ≤ 4398046511104) :
    Calls Try.prog 14 #[.agg #[.string x.s0, .string x.s1, .bool x.b2, .bool x.b3, .bool x.b4, .bool x.b5, .bool x.b6, .bool x.b7, .bool x.b8, .bool x.b9, .slice x.A10 x.n10 x.c10, .slice AT ts.length cT, .slice AR rs.length cR, .slice x.A13 x.n13 x.c13, .slice x.A14 x.n14 x.c14, .slice x.A15 x.n15 x.c15, .slice AI is.length cI, .slice x.A17 x.n17 x.c17]] w fun e w' => Below w.heap.size w w' ∧ ∃ v, e = .returned (.int .i64 v) ∧ CheckSays ts rs is v := by
  have HC := Aside0.mk hC
  clear hC
  have HBX := Aside0.mk (BoxAt.made w x AT cT AR cR AI cI ts.length rs.length is.length)
  have HB0 := Aside0.mk (show Below w.heap.size w (w.alloc (.cells #[.string x.s0, .string x.s1, .bool x.b2, .bool x.b3, .bool x.b4, .bool x.b5, .bool x.b6, .bool x.b7, .bool x.b8, .bool x.b9, .slice x.A10 x.n10 x.c10, .slice AT ts.length cT, .slice AR rs.length cR, .slice x.A13 x.n13 x.c13, .slice x.A14 x.n14 x.c14, .slice x.A15 x.n15 x.c15, .slice AI is.length cI, .slice x.A17 x.n17 x.c17] 36)) from (Below.refl _ _).alloc (Nat.le_refl _) _)
  unfold CV.arr at HBX
  have HCK := Aside0.mk (refs_calls x AT cT AR cR AI cI ts rs is _ (HC.out.below HB0.out) hsz ht hi)
  go_enter Try.func14, Try.ntmps14
  go_wp2_with (first | ((with_reducible refine gate_dst (N := 10) rfl ?_); refine load36 HBX.out rfl (.tmp 1) rfl rfl ?_))
  generalize w.alloc (.cells #[.string x.s0, .string x.s1, .bool x.b2, .bool x.b3, .bool x.b4, .bool x.b5, .bool x.b6, .bool x.b7, .bool x.b8, .bool x.b9, .slice x.A10 x.n10 x.c10, .slice AT ts.length cT, .slice AR rs.length cR, .slice x.A13 x.n13 x.c13, .slice x.A14 x.n14 x.c14, .slice x.A15 x.n15 x.c15, .slice AI is.length cI, .slice x.A17 x.n17 x.c17] 36) = w0 at *
  have HX : Aside0 (BoxAt w0 w.heap.size x AT cT AR cR AI cI ts.length rs.length is.length) := HBX
  refine HCK.out.mono ?_
  rintro e w1 ⟨B1, b, rfl, hsay⟩
  have HX1 := Aside0.mk (HX.out.below B1)
  have HB1 := Aside0.mk (HB0.out.trans (B1.mono HB0.out.size))
  clear B1 HBX HB0 HCK HX
  rcases hsay with ⟨rfl, hsay⟩ | ⟨rfl, hsay⟩
  · have HRK := Aside0.mk hsay
    have HLK := Aside0.mk hsay.links
    clear hsay
    go_wp2_with fail
    go_loopw [2, 3] (fun _ i wr => ∃ k : Nat, k ≤ rs.length ∧ i = .int .i64 k ∧ Aside0 (∀ j, j < k → chase rs (rs.length + 1) j ≠ none) ∧ Aside0 (BoxAt wr w.heap.size x AT cT AR cR AI cI ts.length rs.length is.length) ∧ Aside0 (Below w.heap.size w wr)) (fun _ i _ => rs.length - (intOf i).toNat)
    case atStart => exact ⟨0, by omega, rfl, ⟨by intro j hj; omega⟩, HX1, HB1⟩
    case round =>
      clear HX1 HB1
      obtain ⟨k, hk, rfl, HP, HX, HB⟩ := hrel
      obtain ⟨wo, rfl⟩ : ∃ wo : World, wo = wr := ⟨_, rfl⟩
      have q12 := HX.out.res
      by_cases hlt : k < rs.length
      · have hd : decide ((k : Int) < (rs.length : Int)) = true := decide_eq_true (by omega)
        have HLT := Aside0.mk (Nat.succ_le_of_lt hlt)
        go_wp2_with (first | ((with_reducible refine gate_dst (N := 20) rfl ?_); refine load36 HX.out rfl (.tmp 1) rfl rfl ?_))
        refine (root_calls x AT cT AR cR AI cI ts rs is k wo (HC.out.below HB.out) HLK.out HLT.out hsz).mono ?_
        rintro e wb ⟨rfl, B2⟩
        have HXb := Aside0.mk (HX.out.below B2)
        have HBb := Aside0.mk (HB.out.trans (B2.mono HB.out.size))
        clear B2 HX HB q12
        have HNEG := Aside0.mk (rootZ_neg HLK.out k HLT.out)
        have HPOS := Aside0.mk (rootZ_pos HLK.out k HLT.out)
        generalize rootZ rs k = z at *
        by_cases c1 : z < 0
        · have c1b : decide (z < 0) = true := decide_eq_true c1
          have HN := Aside0.mk (show ¬ Ends rs from fun h => h k HLT.out (HNEG.out c1))
          clear c1
          go_wp2_with fail
          go_ret
          exact ⟨HBb.out, _, rfl, .inr (.inl ⟨rfl, HRK.out, HN.out⟩)⟩
        · have c1b : decide (z < 0) = false := decide_eq_false c1
          have HP2 := Aside0.mk (show ∀ j, j < k + 1 → chase rs (rs.length + 1) j ≠ none from fun j hj => by
            rcases Nat.lt_or_ge j k with h | h
            · exact HP.out j h
            · obtain rfl : j = k := by omega
              exact HPOS.out c1)
          clear c1
          go_wp2_with fail
          go_roundw
          case rel => exact ⟨k + 1, HLT.out, by go_num, HP2, HXb, HBb⟩
          case measure => have := HLT.out; simp [intOf]; omega
      · have hd : decide ((k : Int) < (rs.length : Int)) = false := decide_eq_false (by omega)
        have HE := Aside0.mk (show Ends rs from fun j hj => HP.out j (by omega))
        clear HP
        go_wp2_with fail
        clear q12
        go_loopw [2, 4] (fun _ i wr => ∃ k : Nat, k ≤ rs.length ∧ i = .int .i64 k ∧ Aside0 (∀ j, j < k → ∀ r, chase rs (rs.length + 1) j = some r → r ≠ j → kindOf rs r ≠ 3) ∧ Aside0 (BoxAt wr w.heap.size x AT cT AR cR AI cI ts.length rs.length is.length) ∧ Aside0 (Below w.heap.size w wr)) (fun _ i _ => rs.length - (intOf i).toNat)
        case atStart => exact ⟨0, by omega, rfl, ⟨by intro j hj; omega⟩, HX, HB⟩
        case round =>
          clear HX HB
          obtain ⟨k, hk, rfl, HP, HX, HB⟩ := hrel
          obtain ⟨wo, rfl⟩ : ∃ wo : World, wo = wr := ⟨_, rfl⟩
          have q12 := HX.out.res
          by_cases hlt : k < rs.length
          · have hd : decide ((k : Int) < (rs.length : Int)) = true := decide_eq_true (by omega)
            have HLT := Aside0.mk (Nat.succ_le_of_lt hlt)
            obtain ⟨ad, rfl, h1, h2⟩ := res_at (HC.out.below HB.out).r k hlt
            clear h2
            have HRO := Aside0.mk (rootZ_of HLK.out HE.out k hlt)
            have HSELF := Aside0.mk (fun r => @chase_self rs (rs.length + 1) k r)
            have HPP := Aside0.mk (show (∀ r, chase rs (rs.length + 1) k = some r → r ≠ k → kindOf rs r ≠ 3) → ∀ j, j < k + 1 → ∀ r, chase rs (rs.length + 1) j = some r → r ≠ j → kindOf rs r ≠ 3 from fun hn j hj => by
              rcases Nat.lt_or_ge j k with h | h
              · exact HP.out j h
              · obtain rfl : j = k := by omega
                exact hn)
            clear HP
            by_cases hc : kindOf rs k = 2
            · have hcb : (kindOf rs k == 2) = true := by simp [hc]
              have HKK := Aside0.mk hc
              clear hc
              go_wp2_with fail
              refine start_ (n := 14) (S := fun w_ => Below wo.heap.size wo w_) (ds := []) #[false, false, false, false, false, false, false, false, false, false, false, false, false, false] (by kernel_rfl) rfl rfl (drew_below wo) (fun hHeld => ?_)
              have HH := Aside0.mk hHeld
              clear hHeld
              generalize wo.drew = wv at HH ⊢
              refine pure_ (i := 0) (N := some 31) (v := ?_) (a' := ?_) #[true, false, false, false, false, false, false, false, false, false, false, false, false, false] rfl rfl (by kernel_rfl) (fun _ _ _ h => h) (Or.inl ⟨by rfl, ?_⟩) ?_ ?_
              rotate_left
              · intro w_
                go_simp
                with_reducible rfl
              rotate_left
              · simp only [Act.put, List.setIfInBounds_toArray, List.set_cons_zero, List.set_cons_succ, i64_w, i32_w]
                rfl
              refine take_ (i := 1) (N := some 32) (v := ?_) (a' := ?_) #[true, true, false, false, false, false, false, false, false, false, false, false, false, false] rfl rfl (by kernel_rfl) (fun _ _ _ h => h) (Or.inl ⟨by rfl, ?_⟩) HH.out ?_ ?_
              rotate_left
              · rintro w_ s
                have q12 := (HX.out.below s).res; have h1 := (s.cell (World.block_lt_of_cell? wo _ h1)).trans h1
                go_simp
                with_reducible rfl
              rotate_left
              · simp only [Act.put, List.setIfInBounds_toArray, List.set_cons_zero, List.set_cons_succ, i64_w, i32_w]
                rfl
              refine pure_ (i := 2) (N := some 33) (v := ?_) (a' := ?_) #[true, true, true, false, false, false, false, false, false, false, false, false, false, false] rfl rfl (by kernel_rfl) (fun _ _ _ h => h) (Or.inl ⟨by rfl, ?_⟩) ?_ ?_
              rotate_left
              · intro w_
                go_simp
                with_reducible rfl
              rotate_left
              · simp only [Act.put, List.setIfInBounds_toArray, List.set_cons_zero, List.set_cons_succ, i64_w, i32_w]
                rfl
              refine pure_ (i := 3) (N := some 34) (v := ?_) (a' := ?_) #[true, true, true, true, false, false, false, false, false, false, false, false, false, false] rfl rfl (by kernel_rfl) (fun _ _ _ h => h) (Or.inl ⟨by rfl, ?_⟩) ?_ ?_
              rotate_left
              · intro w_
                go_simp
                with_reducible rfl
              rotate_left
              · simp only [Act.put, List.setIfInBounds_toArray, List.set_cons_zero, List.set_cons_succ, i64_w, i32_w]
                rfl
              refine pure_ (i := 4) (N := some 35) (v := ?_) (a' := ?_) #[true, true, true, true, true, false, false, false, false, false, false, false, false, false] rfl rfl (by kernel_rfl) (fun _ _ _ h => h) (Or.inl ⟨by rfl, ?_⟩) ?_ ?_
              rotate_left
              · intro w_
                go_simp
                with_reducible rfl
              rotate_left
              · simp only [Act.put, List.setIfInBounds_toArray, List.set_cons_zero, List.set_cons_succ, i64_w, i32_w]
                rfl
              refine take_ (i := 5) (N := some 36) (v := ?_) (a' := ?_) #[true, true, true, true, true, true, false, false, false, false, false, false, false, false] rfl rfl (by kernel_rfl) (fun _ _ _ h => h) (Or.inl ⟨by rfl, ?_⟩) HH.out ?_ ?_
              rotate_left
              · rintro w_ s
                have q12 := (HX.out.below s).res; have h1 := (s.cell (World.block_lt_of_cell? wo _ h1)).trans h1
                go_simp
                with_reducible rfl
              rotate_left
              · simp only [Act.put, List.setIfInBounds_toArray, List.set_cons_zero, List.set_cons_succ, i64_w, i32_w]
                rfl
              refine pure_ (i := 6) (N := some 37) (v := ?_) (a' := ?_) #[true, true, true, true, true, true, true, false, false, false, false, false, false, false] rfl rfl (by kernel_rfl) (fun _ _ _ h => h) (Or.inl ⟨by rfl, ?_⟩) ?_ ?_
              rotate_left
              · intro w_
                go_simp
                with_reducible rfl
              rotate_left
              · simp only [Act.put, List.setIfInBounds_toArray, List.set_cons_zero, List.set_cons_succ, i64_w, i32_w]
                rfl
              refine pure_ (i := 7) (N := some 38) (v := ?_) (a' := ?_) #[true, true, true, true, true, true, true, true, false, false, false, false, false, false] rfl rfl (by kernel_rfl) (fun _ _ _ h => h) (Or.inl ⟨by rfl, ?_⟩) ?_ ?_
              rotate_left
              · intro w_
                go_simp
                with_reducible rfl
              rotate_left
              · simp only [Act.put, List.setIfInBounds_toArray, List.set_cons_zero, List.set_cons_succ, i64_w, i32_w]
                rfl
              refine take_ (i := 8) (N := some 39) (v := ?_) (a' := ?_) #[true, true, true, true, true, true, true, true, true, false, false, false, false, false] rfl rfl (by kernel_rfl) (fun _ _ _ h => h) (Or.inl ⟨by rfl, ?_⟩) HH.out ?_ ?_
              rotate_left
              · rintro w_ s
                refine run36 (HX.out.below s) (.tmp 1) ?_ ?_ <;> rfl
              rotate_left
              · simp only [Act.put, List.setIfInBounds_toArray, List.set_cons_zero, List.set_cons_succ, i64_w, i32_w]
                rfl
              refine take_ (i := 9) (N := some 40) (v := ?_) (a' := ?_) #[true, true, true, true, true, true, true, true, true, true, false, false, false, false] rfl rfl (by kernel_rfl) (fun _ _ _ h => h) (Or.inl ⟨by rfl, ?_⟩) HH.out ?_ ?_
              rotate_left
              · rintro w_ s
                refine run36 (HX.out.below s) (.tmp 1) ?_ ?_ <;> rfl
              rotate_left
              · simp only [Act.put, List.setIfInBounds_toArray, List.set_cons_zero, List.set_cons_succ, i64_w, i32_w]
                rfl
              refine pure_ (i := 10) (N := some 41) (v := ?_) (a' := ?_) #[true, true, true, true, true, true, true, true, true, true, true, false, false, false] rfl rfl (by kernel_rfl) (fun _ _ _ h => h) (Or.inl ⟨by rfl, ?_⟩) ?_ ?_
              rotate_left
              · intro w_
                go_simp
                with_reducible rfl
              rotate_left
              · simp only [Act.put, List.setIfInBounds_toArray, List.set_cons_zero, List.set_cons_succ, i64_w, i32_w]
                rfl
              refine one_ (i := 11) (N := some 42) #[true, true, true, true, true, true, true, true, true, true, true, true, false, false] rfl rfl (by kernel_rfl) (by decide) (fun K hK => ?_)
              refine goes_ Try.func37 (by kernel_rfl) rfl #[.agg #[.string x.s0, .string x.s1, .bool x.b2, .bool x.b3, .bool x.b4, .bool x.b5, .bool x.b6, .bool x.b7, .bool x.b8, .bool x.b9, .slice x.A10 x.n10 x.c10, .slice AT ts.length cT, .slice (some ad) rs.length cR, .slice x.A13 x.n13 x.c13, .slice x.A14 x.n14 x.c14, .slice x.A15 x.n15 x.c15, .slice AI is.length cI, .slice x.A17 x.n17 x.c17], .int .i64 (k : Int)] (by rfl) rfl rfl (by first | rfl | (simp only [List.map_toArray, List.map_cons, List.map_nil]; rfl) | simp) ?_
              refine (root_calls x AT cT (some ad) cR AI cI ts rs is k wv (HC.out.below (HB.out.trans (HH.out.mono HB.out.size))) HLK.out HLT.out hsz).mono ?_
              rintro e wb ⟨rfl, B2⟩
              rw [HRO.out.1]
              refine ⟨_, rfl, ?_⟩
              have HH2 := Aside0.mk (HH.out.trans (B2.mono HH.out.size))
              clear HH B2
              have HH := HH2
              clear HH2
              refine hK.out _ _ HH.out (fun _ => ?_)
              clear hK K
              refine norm_ (a' := ?_) ?_ ?_
              rotate_left
              · show Act.put _ (some 42) _ = _
                simp only [Act.put, List.setIfInBounds_toArray, List.set_cons_zero, List.set_cons_succ, i64_w, i32_w]
                rfl
              refine one_ (i := 12) (N := some 43) #[true, true, true, true, true, true, true, true, true, true, true, true, true, false] rfl rfl (by kernel_rfl) (by decide) (fun K hK => ?_)
              refine goes_ Try.func35 (by kernel_rfl) rfl #[.agg #[.string x.s0, .string x.s1, .bool x.b2, .bool x.b3, .bool x.b4, .bool x.b5, .bool x.b6, .bool x.b7, .bool x.b8, .bool x.b9, .slice x.A10 x.n10 x.c10, .slice AT ts.length cT, .slice (some ad) rs.length cR, .slice x.A13 x.n13 x.c13, .slice x.A14 x.n14 x.c14, .slice x.A15 x.n15 x.c15, .slice AI is.length cI, .slice x.A17 x.n17 x.c17], .int .i64 (rootOf rs k : Int)] (by rfl) rfl rfl (by first | rfl | (simp only [List.map_toArray, List.map_cons, List.map_nil]; rfl) | simp) ?_
              refine (internalR_calls x AT cT (some ad) cR AI cI ts rs is (rootOf rs k) wb (HC.out.below (HB.out.trans (HH.out.mono HB.out.size))) HRO.out.2.1 hsz).mono ?_
              rintro e wc ⟨rfl, B2⟩
              refine ⟨_, rfl, ?_⟩
              have HH2 := Aside0.mk (HH.out.trans (B2.mono HH.out.size))
              clear HH B2
              have HH := HH2
              clear HH2
              refine hK.out _ _ HH.out (fun _ => ?_)
              clear hK K
              refine norm_ (a' := ?_) ?_ ?_
              rotate_left
              · show Act.put _ (some 43) _ = _
                simp only [Act.put, List.setIfInBounds_toArray, List.set_cons_zero, List.set_cons_succ, i64_w, i32_w]
                rfl
              refine pure_ (i := 13) (N := some 44) (v := ?_) (a' := ?_) #[true, true, true, true, true, true, true, true, true, true, true, true, true, true] rfl rfl (by kernel_rfl) (fun _ _ _ h => h) (Or.inl ⟨by rfl, ?_⟩) ?_ ?_
              rotate_left
              · intro w_
                go_simp
                with_reducible rfl
              rotate_left
              · simp only [Act.put, List.setIfInBounds_toArray, List.set_cons_zero, List.set_cons_succ, i64_w, i32_w]
                rfl
              refine done_ (by kernel_rfl) ?_
              have HXb := Aside0.mk (HX.out.below HH.out)
              have HBb := Aside0.mk (HB.out.trans (HH.out.mono HB.out.size))
              clear q12 h1 HX HB HH
              by_cases hi3 : kindOf rs (rootOf rs k) = 3
              · have hib : (kindOf rs (rootOf rs k) == 3) = true := by simp [hi3]
                have HN := Aside0.mk (show ¬ InnerOk ts rs is from fun h => h.r k HLT.out _ HRO.out.2.2 (fun e => by rw [e, HKK.out] at hi3; omega) hi3)
                clear hi3
                go_wp2_with fail
                go_ret
                exact ⟨HBb.out, _, rfl, .inr (.inr (.inl ⟨rfl, HRK.out, HE.out, HN.out⟩))⟩
              · have hib : (kindOf rs (rootOf rs k) == 3) = false := by simp [hi3]
                have HP2 := Aside0.mk (HPP.out (fun r hr _ => by rw [HRO.out.2.2] at hr; injection hr with hr; rw [← hr]; exact hi3))
                clear hi3
                go_wp2_with fail
                go_roundw
                case rel => exact ⟨k + 1, HLT.out, by go_num, HP2, HXb, HBb⟩
                case measure => have := HLT.out; simp [intOf]; omega
            · have hcb : (kindOf rs k == 2) = false := by simp [hc]
              have HP2 := Aside0.mk (HPP.out (fun r hr hne => absurd (HSELF.out r hr hne) hc))
              clear hc
              go_wp2_with fail
              repeat (go_quiet (fail))
              go_wp2_with fail
              go_roundw
              case rel => exact ⟨k + 1, HLT.out, by go_num, HP2, ⟨HX.out.below (drewN_below _ _)⟩, ⟨HB.out.trans ((drewN_below _ _).mono HB.out.size)⟩⟩
              case measure => have := HLT.out; simp [intOf]; omega
          · have hd : decide ((k : Int) < (rs.length : Int)) = false := decide_eq_false (by omega)
            have HIR := Aside0.mk (show ∀ j, j < rs.length → ∀ r, chase rs (rs.length + 1) j = some r → r ≠ j → kindOf rs r ≠ 3 from fun j hj => HP.out j (by omega))
            clear HP
            go_wp2_with fail
            clear q12
            go_loopw [2, 5, 6, 7] (fun _ i _ _ wr => ∃ k : Nat, k ≤ ts.length ∧ i = .int .i64 k ∧ Aside0 (∀ j, j < k → cntF rs (ts.getD j z64).f5 ≤ 1) ∧ Aside0 (BoxAt wr w.heap.size x AT cT AR cR AI cI ts.length rs.length is.length) ∧ Aside0 (Below w.heap.size w wr)) (fun _ i _ _ _ => ts.length - (intOf i).toNat)
            case atStart => exact ⟨0, by omega, rfl, ⟨by intro j hj; omega⟩, HX, HB⟩
            case round =>
              clear HX HB
              obtain ⟨k, hk, rfl, HP, HX, HB⟩ := hrel
              obtain ⟨wo, rfl⟩ : ∃ wo : World, wo = wr := ⟨_, rfl⟩
              have q11 := HX.out.tasks
              by_cases hlt : k < ts.length
              · have hd : decide ((k : Int) < (ts.length : Int)) = true := decide_eq_true (by omega)
                have HLT := Aside0.mk (Nat.succ_le_of_lt hlt)
                have HIN := Aside0.mk (rises_range rs.length _ _ (HRK.out.t k hlt))
                have HTL := Aside0.mk (rises_le rs.length _ (HRK.out.t k hlt))
                generalize hT : ts.getD k z64 = t at *
                have HT := Aside0.mk hT
                clear hT
                go_wp2_with fail
                clear hlt
                go_loopw [6, 7] (fun n i wr => ∃ m : Nat, m ≤ t.f5.length ∧ i = .int .i64 m ∧ n = .int .i64 (cntF rs (t.f5.take m)) ∧ Aside0 (BoxAt wr w.heap.size x AT cT AR cR AI cI ts.length rs.length is.length) ∧ Aside0 (Below w.heap.size w wr)) (fun _ i _ => t.f5.length - (intOf i).toNat)
                case atStart => exact ⟨0, by omega, rfl, rfl, HX, HB⟩
                case round =>
                  clear HX HB q11
                  obtain ⟨m, hm, rfl, rfl, HX, HB⟩ := hrel
                  obtain ⟨wi, rfl⟩ : ∃ wi : World, wi = wr := ⟨_, rfl⟩
                  have q11 := HX.out.tasks
                  have hf := task_f (HC.out.below HB.out).t k HLT.out
                  rw [HT.out] at hf
                  obtain ⟨ad, A5, c5, rfl, _, h5, l5, g5⟩ := hf
                  have HG := Aside0.mk g5
                  have HCL := Aside0.mk (cnt_le rs (t.f5.take m))
                  have HST := Aside0.mk (cnt_step rs t.f5 m)
                  have HMON := Aside0.mk (cnt_take rs t.f5 m)
                  have hkl : k < ts.length := HLT.out
                  have htl : t.f5.length ≤ 4398046511104 := by have := HTL.out; omega
                  clear l5 g5
                  by_cases hlm : m < t.f5.length
                  · have hdm : decide ((m : Int) < (t.f5.length : Int)) = true := decide_eq_true (by omega)
                    have HLM := Aside0.mk (Nat.succ_le_of_lt hlm)
                    obtain ⟨ad5, rfl, hc0⟩ := (Kd.reads_of_C (d := (0 : Int)) HG.out).2.2 (by omega)
                    have hx := hc0 m hlm
                    have HMEM := Aside0.mk (HIN.out (t.f5.getD m 0) (by rw [List.getD_eq_getElem?_getD, List.getElem?_eq_getElem hlm]; exact List.getElem_mem hlm))
                    obtain ⟨q, hq⟩ := Int.eq_ofNat_of_zero_le (show 0 ≤ t.f5.getD m 0 by have := HMEM.out; omega)
                    rw [hq] at hx
                    have HQ := Aside0.mk (show q < rs.length by have := HMEM.out; omega)
                    have HST2 := Aside0.mk (show cntF rs (t.f5.take (m + 1)) = cntF rs (t.f5.take m) + (if kindOf rs q = 3 then 1 else 0) by
                      rw [HST.out hlm, hq]
                      rfl)
                    have hcl : (cntF rs (t.f5.take m) : Int) ≤ 4398046511104 := by have := HMON.out; have := cnt_le rs t.f5; have := HTL.out; omega
                    clear hc0 hq HST HMEM
                    go_wp2_with fail
                    refine start_ (n := 11) (S := fun w_ => Below wi.heap.size wi w_) (ds := []) #[false, false, false, false, false, false, false, false, false, false, false] (by kernel_rfl) rfl rfl (drew_below wi) (fun hHeld => ?_)
                    have HH := Aside0.mk hHeld
                    clear hHeld
                    generalize wi.drew = wv at HH ⊢
                    refine take_ (i := 0) (N := some 63) (v := ?_) (a' := ?_) #[true, false, false, false, false, false, false, false, false, false, false] rfl rfl (by kernel_rfl) (fun _ _ _ h => h) (Or.inl ⟨by rfl, ?_⟩) HH.out ?_ ?_
                    rotate_left
                    · rintro w_ s
                      refine run36 (HX.out.below s) (.tmp 1) ?_ ?_ <;> rfl
                    rotate_left
                    · simp only [Act.put, List.setIfInBounds_toArray, List.set_cons_zero, List.set_cons_succ, i64_w, i32_w]
                      rfl
                    refine pure_ (i := 1) (N := some 64) (v := ?_) (a' := ?_) #[true, true, false, false, false, false, false, false, false, false, false] rfl rfl (by kernel_rfl) (fun _ _ _ h => h) (Or.inl ⟨by rfl, ?_⟩) ?_ ?_
                    rotate_left
                    · intro w_
                      go_simp
                      with_reducible rfl
                    rotate_left
                    · simp only [Act.put, List.setIfInBounds_toArray, List.set_cons_zero, List.set_cons_succ, i64_w, i32_w]
                      rfl
                    refine take_ (i := 2) (N := some 65) (v := ?_) (a' := ?_) #[true, true, true, false, false, false, false, false, false, false, false] rfl rfl (by kernel_rfl) (fun _ _ _ h => h) (Or.inl ⟨by rfl, ?_⟩) HH.out ?_ ?_
                    rotate_left
                    · rintro w_ s
                      have q11 := (HX.out.below s).tasks; have h5 := (s.cell (World.block_lt_of_cell? wi _ h5)).trans h5; have hx := (s.cell (World.block_lt_of_cell? wi _ hx)).trans hx
                      go_simp
                      with_reducible rfl
                    rotate_left
                    · simp only [Act.put, List.setIfInBounds_toArray, List.set_cons_zero, List.set_cons_succ, i64_w, i32_w]
                      rfl
                    refine pure_ (i := 3) (N := some 66) (v := ?_) (a' := ?_) #[true, true, true, true, false, false, false, false, false, false, false] rfl rfl (by kernel_rfl) (fun _ _ _ h => h) (Or.inl ⟨by rfl, ?_⟩) ?_ ?_
                    rotate_left
                    · intro w_
                      go_simp
                      with_reducible rfl
                    rotate_left
                    · simp only [Act.put, List.setIfInBounds_toArray, List.set_cons_zero, List.set_cons_succ, i64_w, i32_w]
                      rfl
                    refine pure_ (i := 4) (N := some 67) (v := ?_) (a' := ?_) #[true, true, true, true, true, false, false, false, false, false, false] rfl rfl (by kernel_rfl) (fun _ _ _ h => h) (Or.inl ⟨by rfl, ?_⟩) ?_ ?_
                    rotate_left
                    · intro w_
                      go_simp
                      with_reducible rfl
                    rotate_left
                    · simp only [Act.put, List.setIfInBounds_toArray, List.set_cons_zero, List.set_cons_succ, i64_w, i32_w]
                      rfl
                    refine pure_ (i := 5) (N := some 68) (v := ?_) (a' := ?_) #[true, true, true, true, true, true, false, false, false, false, false] rfl rfl (by kernel_rfl) (fun _ _ _ h => h) (Or.inl ⟨by rfl, ?_⟩) ?_ ?_
                    rotate_left
                    · intro w_
                      go_simp
                      with_reducible rfl
                    rotate_left
                    · simp only [Act.put, List.setIfInBounds_toArray, List.set_cons_zero, List.set_cons_succ, i64_w, i32_w]
                      rfl
                    refine take_ (i := 6) (N := some 69) (v := ?_) (a' := ?_) #[true, true, true, true, true, true, true, false, false, false, false] rfl rfl (by kernel_rfl) (fun _ _ _ h => h) (Or.inl ⟨by rfl, ?_⟩) HH.out ?_ ?_
                    rotate_left
                    · rintro w_ s
                      have q11 := (HX.out.below s).tasks; have h5 := (s.cell (World.block_lt_of_cell? wi _ h5)).trans h5; have hx := (s.cell (World.block_lt_of_cell? wi _ hx)).trans hx
                      go_simp
                      with_reducible rfl
                    rotate_left
                    · simp only [Act.put, List.setIfInBounds_toArray, List.set_cons_zero, List.set_cons_succ, i64_w, i32_w]
                      rfl
                    refine pure_ (i := 7) (N := some 70) (v := ?_) (a' := ?_) #[true, true, true, true, true, true, true, true, false, false, false] rfl rfl (by kernel_rfl) (fun _ _ _ h => h) (Or.inl ⟨by rfl, ?_⟩) ?_ ?_
                    rotate_left
                    · intro w_
                      go_simp
                      with_reducible rfl
                    rotate_left
                    · simp only [Act.put, List.setIfInBounds_toArray, List.set_cons_zero, List.set_cons_succ, i64_w, i32_w]
                      rfl
                    refine pure_ (i := 8) (N := some 71) (v := ?_) (a' := ?_) #[true, true, true, true, true, true, true, true, true, false, false] rfl rfl (by kernel_rfl) (fun _ _ _ h => h) (Or.inl ⟨by rfl, ?_⟩) ?_ ?_
                    rotate_left
                    · intro w_
                      go_simp
                      with_reducible rfl
                    rotate_left
                    · simp only [Act.put, List.setIfInBounds_toArray, List.set_cons_zero, List.set_cons_succ, i64_w, i32_w]
                      rfl
                    refine take_ (i := 9) (N := some 72) (v := ?_) (a' := ?_) #[true, true, true, true, true, true, true, true, true, true, false] rfl rfl (by kernel_rfl) (fun _ _ _ h => h) (Or.inl ⟨by rfl, ?_⟩) HH.out ?_ ?_
                    rotate_left
                    · rintro w_ s
                      have q11 := (HX.out.below s).tasks; have h5 := (s.cell (World.block_lt_of_cell? wi _ h5)).trans h5; have hx := (s.cell (World.block_lt_of_cell? wi _ hx)).trans hx
                      go_simp
                      with_reducible rfl
                    rotate_left
                    · simp only [Act.put, List.setIfInBounds_toArray, List.set_cons_zero, List.set_cons_succ, i64_w, i32_w]
                      rfl
                    refine one_ (i := 10) (N := some 73) #[true, true, true, true, true, true, true, true, true, true, true] rfl rfl (by kernel_rfl) (by decide) (fun K hK => ?_)
                    refine goes_ Try.func35 (by kernel_rfl) rfl #[.agg #[.string x.s0, .string x.s1, .bool x.b2, .bool x.b3, .bool x.b4, .bool x.b5, .bool x.b6, .bool x.b7, .bool x.b8, .bool x.b9, .slice x.A10 x.n10 x.c10, .slice (some ad) ts.length cT, .slice AR rs.length cR, .slice x.A13 x.n13 x.c13, .slice x.A14 x.n14 x.c14, .slice x.A15 x.n15 x.c15, .slice AI is.length cI, .slice x.A17 x.n17 x.c17], .int .i64 (q : Int)] (by rfl) rfl rfl (by first | rfl | (simp only [List.map_toArray, List.map_cons, List.map_nil]; rfl) | simp) ?_
                    refine (internalR_calls x (some ad) cT AR cR AI cI ts rs is q wv (HC.out.below (HB.out.trans (HH.out.mono HB.out.size))) HQ.out hsz).mono ?_
                    rintro e wc ⟨rfl, B2⟩
                    refine ⟨_, rfl, ?_⟩
                    have HH2 := Aside0.mk (HH.out.trans (B2.mono HH.out.size))
                    clear HH B2
                    have HH := HH2
                    clear HH2
                    refine hK.out _ _ HH.out (fun _ => ?_)
                    clear hK K
                    refine norm_ (a' := ?_) ?_ ?_
                    rotate_left
                    · show Act.put _ (some 73) _ = _
                      simp only [Act.put, List.setIfInBounds_toArray, List.set_cons_zero, List.set_cons_succ, i64_w, i32_w]
                      rfl
                    refine done_ (by kernel_rfl) ?_
                    have HXb := Aside0.mk (HX.out.below HH.out)
                    have HBb := Aside0.mk (HB.out.trans (HH.out.mono HB.out.size))
                    clear q11 hx h5 HX HB HH
                    by_cases hi3 : kindOf rs q = 3
                    · have hib : (kindOf rs q == 3) = true := by simp [hi3]
                      have HN := Aside0.mk (show cntF rs (t.f5.take (m + 1)) = cntF rs (t.f5.take m) + 1 by rw [HST2.out, if_pos hi3])
                      clear hi3
                      go_wp2_with fail
                      go_roundw
                      case rel => exact ⟨m + 1, HLM.out, by go_num, by rw [HN.out]; go_num, HXb, HBb⟩
                      case measure => have := HLM.out; simp [intOf]; omega
                    · have hib : (kindOf rs q == 3) = false := by simp [hi3]
                      have HN := Aside0.mk (show cntF rs (t.f5.take (m + 1)) = cntF rs (t.f5.take m) by rw [HST2.out, if_neg hi3]; rfl)
                      clear hi3
                      go_wp2_with fail
                      go_roundw
                      case rel => exact ⟨m + 1, HLM.out, by go_num, by rw [HN.out], HXb, HBb⟩
                      case measure => have := HLM.out; simp [intOf]; omega
                  · have hdm : decide ((m : Int) < (t.f5.length : Int)) = false := decide_eq_false (by omega)
                    have HTK := Aside0.mk (show t.f5.take m = t.f5 from List.take_of_length_le (by omega))
                    have HTT := Aside0.mk (show cntF rs t.f5 ≤ 1 → ∀ j, j < k + 1 → cntF rs (ts.getD j z64).f5 ≤ 1 from fun hn j hj => by
                      rcases Nat.lt_or_ge j k with h | h
                      · exact HP.out j h
                      · obtain rfl : j = k := by omega
                        rw [HT.out]
                        exact hn)
                    have HNI := Aside0.mk (show ¬ cntF rs t.f5 ≤ 1 → ¬ InnerOk ts rs is from fun hn h => hn (by have h2 := h.t k HLT.out; rw [HT.out] at h2; exact h2))
                    clear HST HMON HCL HIN HTL
                    rw [HTK.out] at *
                    clear HTK
                    by_cases hc1 : 1 < cntF rs t.f5
                    · have hcb : decide ((1 : Int) < (cntF rs t.f5 : Int)) = true := decide_eq_true (by omega)
                      have HN := Aside0.mk (HNI.out (by omega))
                      clear hc1
                      go_wp2_with fail
                      go_ret
                      exact ⟨HB.out, _, rfl, .inr (.inr (.inl ⟨rfl, HRK.out, HE.out, HN.out⟩))⟩
                    · have hcb : decide ((1 : Int) < (cntF rs t.f5 : Int)) = false := decide_eq_false (by omega)
                      have HP2 := Aside0.mk (HTT.out (by omega))
                      clear hc1
                      go_wp2_with fail
                      go_roundw
                      case rel => exact ⟨k + 1, HLT.out, by go_num, HP2, HX, HB⟩
                      case measure => have := HLT.out; simp [intOf]; omega
              · have hd : decide ((k : Int) < (ts.length : Int)) = false := decide_eq_false (by omega)
                have HIT := Aside0.mk (show ∀ j, j < ts.length → cntF rs (ts.getD j z64).f5 ≤ 1 from fun j hj => HP.out j (by omega))
                clear HP
                go_wp2_with fail
                clear q11
                go_loopw [2, 8, 9] (fun _ i _ wr => ∃ k : Nat, k ≤ is.length ∧ i = .int .i64 k ∧ Aside0 (∀ j, j < k → cntF rs (is.getD j z66).f3 = 0) ∧ Aside0 (BoxAt wr w.heap.size x AT cT AR cR AI cI ts.length rs.length is.length) ∧ Aside0 (Below w.heap.size w wr)) (fun _ i _ _ => is.length - (intOf i).toNat)
                case atStart => exact ⟨0, by omega, rfl, ⟨by intro j hj; omega⟩, HX, HB⟩
                case round =>
                  clear HX HB
                  obtain ⟨k, hk, rfl, HP, HX, HB⟩ := hrel
                  obtain ⟨wo, rfl⟩ : ∃ wo : World, wo = wr := ⟨_, rfl⟩
                  have q16 := HX.out.isrs
                  by_cases hlt : k < is.length
                  · have hd : decide ((k : Int) < (is.length : Int)) = true := decide_eq_true (by omega)
                    have HLT := Aside0.mk (Nat.succ_le_of_lt hlt)
                    have HIN := Aside0.mk (rises_range rs.length _ _ (HRK.out.i k hlt))
                    have HTL := Aside0.mk (rises_le rs.length _ (HRK.out.i k hlt))
                    generalize hT : is.getD k z66 = t at *
                    have HT := Aside0.mk hT
                    clear hT
                    go_wp2_with fail
                    clear hlt
                    go_loopw [2, 9] (fun _ i wr => ∃ m : Nat, m ≤ t.f3.length ∧ i = .int .i64 m ∧ Aside0 (cntF rs (t.f3.take m) = 0) ∧ Aside0 (BoxAt wr w.heap.size x AT cT AR cR AI cI ts.length rs.length is.length) ∧ Aside0 (Below w.heap.size w wr)) (fun _ i _ => t.f3.length - (intOf i).toNat)
                    case atStart => exact ⟨0, by omega, rfl, ⟨rfl⟩, HX, HB⟩
                    case round =>
                      clear HX HB q16
                      obtain ⟨m, hm, rfl, HZ, HX, HB⟩ := hrel
                      obtain ⟨wi, rfl⟩ : ∃ wi : World, wi = wr := ⟨_, rfl⟩
                      have q16 := HX.out.isrs
                      have hf := isr_f (HC.out.below HB.out).i k HLT.out
                      rw [HT.out] at hf
                      obtain ⟨ad, A3, c3, rfl, _, h5, l5, g5⟩ := hf
                      have HG := Aside0.mk g5
                      have HST := Aside0.mk (cnt_step rs t.f3 m)
                      have HMON := Aside0.mk (cnt_take rs t.f3 (m + 1))
                      have hkl : k < is.length := HLT.out
                      have htl : t.f3.length ≤ 4398046511104 := by have := HTL.out; omega
                      clear l5 g5
                      by_cases hlm : m < t.f3.length
                      · have hdm : decide ((m : Int) < (t.f3.length : Int)) = true := decide_eq_true (by omega)
                        have HLM := Aside0.mk (Nat.succ_le_of_lt hlm)
                        obtain ⟨ad5, rfl, hc0⟩ := (Kd.reads_of_C (d := (0 : Int)) HG.out).2.2 (by omega)
                        have hx := hc0 m hlm
                        have HMEM := Aside0.mk (HIN.out (t.f3.getD m 0) (by rw [List.getD_eq_getElem?_getD, List.getElem?_eq_getElem hlm]; exact List.getElem_mem hlm))
                        obtain ⟨q, hq⟩ := Int.eq_ofNat_of_zero_le (show 0 ≤ t.f3.getD m 0 by have := HMEM.out; omega)
                        rw [hq] at hx
                        have HQ := Aside0.mk (show q < rs.length by have := HMEM.out; omega)
                        have HST2 := Aside0.mk (show cntF rs (t.f3.take (m + 1)) = cntF rs (t.f3.take m) + (if kindOf rs q = 3 then 1 else 0) by
                          rw [HST.out hlm, hq]
                          rfl)
                        have HNI := Aside0.mk (show cntF rs t.f3 ≠ 0 → ¬ InnerOk ts rs is from fun hn h => hn (by have h2 := h.i k HLT.out; rw [HT.out] at h2; exact h2))
                        clear hc0 hq HST HMEM HP
                        go_wp2_with fail
                        refine start_ (n := 11) (S := fun w_ => Below wi.heap.size wi w_) (ds := []) #[false, false, false, false, false, false, false, false, false, false, false] (by kernel_rfl) rfl rfl (drew_below wi) (fun hHeld => ?_)
                        have HH := Aside0.mk hHeld
                        clear hHeld
                        generalize wi.drew = wv at HH ⊢
                        refine take_ (i := 0) (N := some 96) (v := ?_) (a' := ?_) #[true, false, false, false, false, false, false, false, false, false, false] rfl rfl (by kernel_rfl) (fun _ _ _ h => h) (Or.inl ⟨by rfl, ?_⟩) HH.out ?_ ?_
                        rotate_left
                        · rintro w_ s
                          refine run36 (HX.out.below s) (.tmp 1) ?_ ?_ <;> rfl
                        rotate_left
                        · simp only [Act.put, List.setIfInBounds_toArray, List.set_cons_zero, List.set_cons_succ, i64_w, i32_w]
                          rfl
                        refine pure_ (i := 1) (N := some 97) (v := ?_) (a' := ?_) #[true, true, false, false, false, false, false, false, false, false, false] rfl rfl (by kernel_rfl) (fun _ _ _ h => h) (Or.inl ⟨by rfl, ?_⟩) ?_ ?_
                        rotate_left
                        · intro w_
                          go_simp
                          with_reducible rfl
                        rotate_left
                        · simp only [Act.put, List.setIfInBounds_toArray, List.set_cons_zero, List.set_cons_succ, i64_w, i32_w]
                          rfl
                        refine take_ (i := 2) (N := some 98) (v := ?_) (a' := ?_) #[true, true, true, false, false, false, false, false, false, false, false] rfl rfl (by kernel_rfl) (fun _ _ _ h => h) (Or.inl ⟨by rfl, ?_⟩) HH.out ?_ ?_
                        rotate_left
                        · rintro w_ s
                          have q16 := (HX.out.below s).isrs; have h5 := (s.cell (World.block_lt_of_cell? wi _ h5)).trans h5; have hx := (s.cell (World.block_lt_of_cell? wi _ hx)).trans hx
                          go_simp
                          with_reducible rfl
                        rotate_left
                        · simp only [Act.put, List.setIfInBounds_toArray, List.set_cons_zero, List.set_cons_succ, i64_w, i32_w]
                          rfl
                        refine pure_ (i := 3) (N := some 99) (v := ?_) (a' := ?_) #[true, true, true, true, false, false, false, false, false, false, false] rfl rfl (by kernel_rfl) (fun _ _ _ h => h) (Or.inl ⟨by rfl, ?_⟩) ?_ ?_
                        rotate_left
                        · intro w_
                          go_simp
                          with_reducible rfl
                        rotate_left
                        · simp only [Act.put, List.setIfInBounds_toArray, List.set_cons_zero, List.set_cons_succ, i64_w, i32_w]
                          rfl
                        refine pure_ (i := 4) (N := some 100) (v := ?_) (a' := ?_) #[true, true, true, true, true, false, false, false, false, false, false] rfl rfl (by kernel_rfl) (fun _ _ _ h => h) (Or.inl ⟨by rfl, ?_⟩) ?_ ?_
                        rotate_left
                        · intro w_
                          go_simp
                          with_reducible rfl
                        rotate_left
                        · simp only [Act.put, List.setIfInBounds_toArray, List.set_cons_zero, List.set_cons_succ, i64_w, i32_w]
                          rfl
                        refine pure_ (i := 5) (N := some 101) (v := ?_) (a' := ?_) #[true, true, true, true, true, true, false, false, false, false, false] rfl rfl (by kernel_rfl) (fun _ _ _ h => h) (Or.inl ⟨by rfl, ?_⟩) ?_ ?_
                        rotate_left
                        · intro w_
                          go_simp
                          with_reducible rfl
                        rotate_left
                        · simp only [Act.put, List.setIfInBounds_toArray, List.set_cons_zero, List.set_cons_succ, i64_w, i32_w]
                          rfl
                        refine take_ (i := 6) (N := some 102) (v := ?_) (a' := ?_) #[true, true, true, true, true, true, true, false, false, false, false] rfl rfl (by kernel_rfl) (fun _ _ _ h => h) (Or.inl ⟨by rfl, ?_⟩) HH.out ?_ ?_
                        rotate_left
                        · rintro w_ s
                          have q16 := (HX.out.below s).isrs; have h5 := (s.cell (World.block_lt_of_cell? wi _ h5)).trans h5; have hx := (s.cell (World.block_lt_of_cell? wi _ hx)).trans hx
                          go_simp
                          with_reducible rfl
                        rotate_left
                        · simp only [Act.put, List.setIfInBounds_toArray, List.set_cons_zero, List.set_cons_succ, i64_w, i32_w]
                          rfl
                        refine pure_ (i := 7) (N := some 103) (v := ?_) (a' := ?_) #[true, true, true, true, true, true, true, true, false, false, false] rfl rfl (by kernel_rfl) (fun _ _ _ h => h) (Or.inl ⟨by rfl, ?_⟩) ?_ ?_
                        rotate_left
                        · intro w_
                          go_simp
                          with_reducible rfl
                        rotate_left
                        · simp only [Act.put, List.setIfInBounds_toArray, List.set_cons_zero, List.set_cons_succ, i64_w, i32_w]
                          rfl
                        refine pure_ (i := 8) (N := some 104) (v := ?_) (a' := ?_) #[true, true, true, true, true, true, true, true, true, false, false] rfl rfl (by kernel_rfl) (fun _ _ _ h => h) (Or.inl ⟨by rfl, ?_⟩) ?_ ?_
                        rotate_left
                        · intro w_
                          go_simp
                          with_reducible rfl
                        rotate_left
                        · simp only [Act.put, List.setIfInBounds_toArray, List.set_cons_zero, List.set_cons_succ, i64_w, i32_w]
                          rfl
                        refine take_ (i := 9) (N := some 105) (v := ?_) (a' := ?_) #[true, true, true, true, true, true, true, true, true, true, false] rfl rfl (by kernel_rfl) (fun _ _ _ h => h) (Or.inl ⟨by rfl, ?_⟩) HH.out ?_ ?_
                        rotate_left
                        · rintro w_ s
                          have q16 := (HX.out.below s).isrs; have h5 := (s.cell (World.block_lt_of_cell? wi _ h5)).trans h5; have hx := (s.cell (World.block_lt_of_cell? wi _ hx)).trans hx
                          go_simp
                          with_reducible rfl
                        rotate_left
                        · simp only [Act.put, List.setIfInBounds_toArray, List.set_cons_zero, List.set_cons_succ, i64_w, i32_w]
                          rfl
                        refine one_ (i := 10) (N := some 106) #[true, true, true, true, true, true, true, true, true, true, true] rfl rfl (by kernel_rfl) (by decide) (fun K hK => ?_)
                        refine goes_ Try.func35 (by kernel_rfl) rfl #[.agg #[.string x.s0, .string x.s1, .bool x.b2, .bool x.b3, .bool x.b4, .bool x.b5, .bool x.b6, .bool x.b7, .bool x.b8, .bool x.b9, .slice x.A10 x.n10 x.c10, .slice AT ts.length cT, .slice AR rs.length cR, .slice x.A13 x.n13 x.c13, .slice x.A14 x.n14 x.c14, .slice x.A15 x.n15 x.c15, .slice (some ad) is.length cI, .slice x.A17 x.n17 x.c17], .int .i64 (q : Int)] (by rfl) rfl rfl (by first | rfl | (simp only [List.map_toArray, List.map_cons, List.map_nil]; rfl) | simp) ?_
                        refine (internalR_calls x AT cT AR cR (some ad) cI ts rs is q wv (HC.out.below (HB.out.trans (HH.out.mono HB.out.size))) HQ.out hsz).mono ?_
                        rintro e wc ⟨rfl, B2⟩
                        refine ⟨_, rfl, ?_⟩
                        have HH2 := Aside0.mk (HH.out.trans (B2.mono HH.out.size))
                        clear HH B2
                        have HH := HH2
                        clear HH2
                        refine hK.out _ _ HH.out (fun _ => ?_)
                        clear hK K
                        refine norm_ (a' := ?_) ?_ ?_
                        rotate_left
                        · show Act.put _ (some 106) _ = _
                          simp only [Act.put, List.setIfInBounds_toArray, List.set_cons_zero, List.set_cons_succ, i64_w, i32_w]
                          rfl
                        refine done_ (by kernel_rfl) ?_
                        have HXb := Aside0.mk (HX.out.below HH.out)
                        have HBb := Aside0.mk (HB.out.trans (HH.out.mono HB.out.size))
                        clear q16 hx h5 HX HB HH
                        by_cases hi3 : kindOf rs q = 3
                        · have hib : (kindOf rs q == 3) = true := by simp [hi3]
                          have HN := Aside0.mk (HNI.out (by have := HMON.out; rw [HST2.out, if_pos hi3] at this; omega))
                          clear hi3
                          go_wp2_with fail
                          go_ret
                          exact ⟨HBb.out, _, rfl, .inr (.inr (.inl ⟨rfl, HRK.out, HE.out, HN.out⟩))⟩
                        · have hib : (kindOf rs q == 3) = false := by simp [hi3]
                          have HN := Aside0.mk (show cntF rs (t.f3.take (m + 1)) = 0 by rw [HST2.out, if_neg hi3, HZ.out])
                          clear hi3
                          go_wp2_with fail
                          go_roundw
                          case rel => exact ⟨m + 1, HLM.out, by go_num, HN, HXb, HBb⟩
                          case measure => have := HLM.out; simp [intOf]; omega
                      · have hdm : decide ((m : Int) < (t.f3.length : Int)) = false := decide_eq_false (by omega)
                        have HP2 := Aside0.mk (show ∀ j, j < k + 1 → cntF rs (is.getD j z66).f3 = 0 from fun j hj => by
                          rcases Nat.lt_or_ge j k with h | h
                          · exact HP.out j h
                          · obtain rfl : j = k := by omega
                            rw [HT.out]
                            have := HZ.out
                            rw [List.take_of_length_le (by omega)] at this
                            exact this)
                        clear HST HMON HIN HZ HP
                        go_wp2_with fail
                        go_roundw
                        case rel => exact ⟨k + 1, HLT.out, by go_num, HP2, HX, HB⟩
                        case measure => have := HLT.out; simp [intOf]; omega
                  · have hd : decide ((k : Int) < (is.length : Int)) = false := decide_eq_false (by omega)
                    have HIO := Aside0.mk (InnerOk.mk HIT.out (fun j hj => HP.out j (by omega)) HIR.out)
                    clear HP
                    go_wp2_with fail
                    go_ret
                    exact ⟨HB.out, _, rfl, .inr (.inr (.inr ⟨rfl, HRK.out, HE.out, HIO.out⟩))⟩
  · have HNO := Aside0.mk hsay
    clear hsay
    go_wp2_with fail
    go_ret
    exact ⟨HB1.out, _, rfl, .inl ⟨rfl, HNO.out⟩⟩
end Go.Proofs.Ytflkbheginhfiaa.XA
/- the document's answer of layer 8: Group, uses: the contracts. -/
namespace Go.Proofs.Ytflkbheginhfiaa.XA
set_option linter.unusedVariables false
set_option linter.unusedSimpArgs false
open Go.RowKit Go.WideMaps Go.Maps Go.Proofs.YtflkbheginhfiaaW.PrintWords Go.Proofs.YtflkbheginhfiaaW.PrintLast Go.Proofs.YtflkbheginhfiaaW.PrintMore
set_option maxRecDepth 1000000 in
set_option maxHeartbeats 4000000 in
theorem groupR_calls (x : CV) (AT : Option Addr) (cT : Nat) (AR : Option Addr) (cR : Nat) (AI : Option Addr) (cI : Nat) (ts : List S64) (rs : List S73) (is : List S66) (r : Int) (w : World) (hC : Cfg w AT cT AR cR AI cI ts rs is) (hsz : rs.length ≤ 4398046511104) (ht : ts.length ≤ 4398046511104) (hi : is.length ≤ 4398046511104) :
    Calls Try.prog 19 #[.agg #[.string x.s0, .string x.s1, .bool x.b2, .bool x.b3, .bool x.b4, .bool x.b5, .bool x.b6, .bool x.b7, .bool x.b8, .bool x.b9, .slice x.A10 x.n10 x.c10, .slice AT ts.length cT, .slice AR rs.length cR, .slice x.A13 x.n13 x.c13, .slice x.A14 x.n14 x.c14, .slice x.A15 x.n15 x.c15, .slice AI is.length cI, .slice x.A17 x.n17 x.c17], .int .i64 r] w fun e w' => Below w.heap.size w w' ∧ ∃ vs gl er, e = .returned (.tuple #[vs, .int .i64 er]) ∧ (Kd.int .i64).R 3 w' w.heap.size (fun _ => True) vs gl ∧ GroupIs ts rs is r gl er := by
  have HC := Aside0.mk hC
  clear hC
  have HBX := Aside0.mk (BoxAt.made w x AT cT AR cR AI cI ts.length rs.length is.length)
  have HB0 := Aside0.mk (show Below w.heap.size w (w.alloc (.cells #[.string x.s0, .string x.s1, .bool x.b2, .bool x.b3, .bool x.b4, .bool x.b5, .bool x.b6, .bool x.b7, .bool x.b8, .bool x.b9, .slice x.A10 x.n10 x.c10, .slice AT ts.length cT, .slice AR rs.length cR, .slice x.A13 x.n13 x.c13, .slice x.A14 x.n14 x.c14, .slice x.A15 x.n15 x.c15, .slice AI is.length cI, .slice x.A17 x.n17 x.c17] 36)) from (Below.refl _ _).alloc (Nat.le_refl _) _)
  unfold CV.arr at HBX
  have HCK := Aside0.mk (checkR_calls x AT cT AR cR AI cI ts rs is _ (HC.out.below HB0.out) hsz ht hi)
  go_enter Try.func19, Try.ntmps19
  go_wp2_with (first | ((with_reducible refine gate_dst (N := 9) rfl ?_); refine load36 HBX.out rfl (.tmp 2) rfl rfl ?_))
  generalize w.alloc (.cells #[.string x.s0, .string x.s1, .bool x.b2, .bool x.b3, .bool x.b4, .bool x.b5, .bool x.b6, .bool x.b7, .bool x.b8, .bool x.b9, .slice x.A10 x.n10 x.c10, .slice AT ts.length cT, .slice AR rs.length cR, .slice x.A13 x.n13 x.c13, .slice x.A14 x.n14 x.c14, .slice x.A15 x.n15 x.c15, .slice AI is.length cI, .slice x.A17 x.n17 x.c17] 36) = w0 at *
  have HBX : Aside0 (BoxAt w0 w.heap.size x AT cT AR cR AI cI ts.length rs.length is.length) := HBX
  refine HCK.out.mono ?_
  rintro e w1 ⟨B1, v, rfl, hsay⟩
  have HX := Aside0.mk (HBX.out.below B1)
  have HB := Aside0.mk (HB0.out.trans (B1.mono HB0.out.size))
  have HS := Aside0.mk hsay
  clear B1 hsay HBX HB0 HCK
  by_cases hv : v = 0
  · subst hv
    have HZ := Aside0.mk (says_zero HS.out)
    have HLK := Aside0.mk HZ.out.1.links
    have q12 := HX.out.res
    by_cases c1 : r < 0
    · have c1b : decide (r < 0) = true := decide_eq_true c1
      go_wp2_with fail
      go_ret2
      exact ⟨HB.out, _, [], 2, rfl, Kd.R_nil _ _ _ _ _, .inr (.inl ⟨HS.out, .inl c1, rfl, rfl⟩)⟩
    · have c1b : decide (r < 0) = false := decide_eq_false c1
      by_cases c2 : (rs.length : Int) ≤ r
      · have c2b : decide ((rs.length : Int) ≤ r) = true := decide_eq_true c2
        go_wp2_with fail
        go_ret2
        exact ⟨HB.out, _, [], 2, rfl, Kd.R_nil _ _ _ _ _, .inr (.inl ⟨HS.out, .inr c2, rfl, rfl⟩)⟩
      · have c2b : decide ((rs.length : Int) ≤ r) = false := decide_eq_false c2
        obtain ⟨q, rfl⟩ := Int.eq_ofNat_of_zero_le (by omega : 0 ≤ r)
        have HQ := Aside0.mk (show q < rs.length by omega)
        have c2n : decide (rs.length ≤ q) = false := decide_eq_false (by omega)
        have HRQ := Aside0.mk (rootZ_of HLK.out HZ.out.2.1 q HQ.out)
        go_wp2_with fail
        clear q12
        go_loopw [7, 8] (fun u i wr => ∃ k : Nat, k ≤ rs.length ∧ i = .int .i64 k ∧ Aside0 ((Kd.int .i64).R 3 wr w.heap.size (fun g => g ≠ w.heap.size) u (groupN rs q k)) ∧ Aside0 (BoxAt wr w.heap.size x AT cT AR cR AI cI ts.length rs.length is.length) ∧ Aside0 (Below w.heap.size w wr)) (fun _ i _ => rs.length - (intOf i).toNat)
        case atStart => exact ⟨0, by omega, rfl, ⟨Kd.R_nil _ _ _ _ _⟩, HX, HB⟩
        case round =>
          clear HX HB
          obtain ⟨k, hk, rfl, HR, HX, HB⟩ := hrel
          obtain ⟨wo, rfl⟩ : ∃ wo : World, wo = wr := ⟨_, rfl⟩
          have q12 := HX.out.res
          by_cases hlt : k < rs.length
          · have hd : decide ((k : Int) < (rs.length : Int)) = true := decide_eq_true (by omega)
            have HLT := Aside0.mk (Nat.succ_le_of_lt hlt)
            have HRO := Aside0.mk (rootZ_of HLK.out HZ.out.2.1 k hlt)
            go_wp2_with fail
            refine start_ (n := 7) (S := fun w_ => Below wo.heap.size wo w_) (ds := []) #[false, false, false, false, false, false, false] (by kernel_rfl) rfl rfl (drew_below wo) (fun hHeld => ?_)
            have HH := Aside0.mk hHeld
            clear hHeld
            generalize wo.drew = wv at HH ⊢
            refine take_ (i := 0) (N := some 30) (v := ?_) (a' := ?_) #[true, false, false, false, false, false, false] rfl rfl (by kernel_rfl) (fun _ _ _ h => h) (Or.inl ⟨by rfl, ?_⟩) HH.out ?_ ?_
            rotate_left
            · rintro w_ s
              refine run36 (HX.out.below s) (.tmp 2) ?_ ?_ <;> rfl
            rotate_left
            · simp only [Act.put, List.setIfInBounds_toArray, List.set_cons_zero, List.set_cons_succ, i64_w, i32_w]
              rfl
            refine pure_ (i := 1) (N := some 31) (v := ?_) (a' := ?_) #[true, true, false, false, false, false, false] rfl rfl (by kernel_rfl) (fun _ _ _ h => h) (Or.inl ⟨by rfl, ?_⟩) ?_ ?_
            rotate_left
            · intro w_
              go_simp
              with_reducible rfl
            rotate_left
            · simp only [Act.put, List.setIfInBounds_toArray, List.set_cons_zero, List.set_cons_succ, i64_w, i32_w]
              rfl
            refine take_ (i := 3) (N := some 33) (v := ?_) (a' := ?_) #[true, true, false, true, false, false, false] rfl rfl (by kernel_rfl) (fun _ _ _ h => h) (Or.inl ⟨by rfl, ?_⟩) HH.out ?_ ?_
            rotate_left
            · rintro w_ s
              refine run36 (HX.out.below s) (.tmp 2) ?_ ?_ <;> rfl
            rotate_left
            · simp only [Act.put, List.setIfInBounds_toArray, List.set_cons_zero, List.set_cons_succ, i64_w, i32_w]
              rfl
            refine pure_ (i := 4) (N := some 34) (v := ?_) (a' := ?_) #[true, true, false, true, true, false, false] rfl rfl (by kernel_rfl) (fun _ _ _ h => h) (Or.inl ⟨by rfl, ?_⟩) ?_ ?_
            rotate_left
            · intro w_
              go_simp
              with_reducible rfl
            rotate_left
            · simp only [Act.put, List.setIfInBounds_toArray, List.set_cons_zero, List.set_cons_succ, i64_w, i32_w]
              rfl
            refine one_ (i := 2) (N := some 32) #[true, true, true, true, true, false, false] rfl rfl (by kernel_rfl) (by decide) (fun K hK => ?_)
            refine goes_ Try.func37 (by kernel_rfl) rfl #[.agg #[.string x.s0, .string x.s1, .bool x.b2, .bool x.b3, .bool x.b4, .bool x.b5, .bool x.b6, .bool x.b7, .bool x.b8, .bool x.b9, .slice x.A10 x.n10 x.c10, .slice AT ts.length cT, .slice AR rs.length cR, .slice x.A13 x.n13 x.c13, .slice x.A14 x.n14 x.c14, .slice x.A15 x.n15 x.c15, .slice AI is.length cI, .slice x.A17 x.n17 x.c17], .int .i64 (k : Int)] (by rfl) rfl rfl (by first | rfl | (simp only [List.map_toArray, List.map_cons, List.map_nil]; rfl) | simp) ?_
            refine (root_calls x AT cT AR cR AI cI ts rs is k wv (HC.out.below (HB.out.trans (HH.out.mono HB.out.size))) HLK.out HLT.out hsz).mono ?_
            rintro e wb ⟨rfl, B2⟩
            rw [HRO.out.1]
            refine ⟨_, rfl, ?_⟩
            have HH2 := Aside0.mk (HH.out.trans (B2.mono HH.out.size))
            clear HH B2
            have HH := HH2
            clear HH2
            refine hK.out _ _ HH.out (fun _ => ?_)
            clear hK K
            refine norm_ (a' := ?_) ?_ ?_
            rotate_left
            · show Act.put _ (some 32) _ = _
              simp only [Act.put, List.setIfInBounds_toArray, List.set_cons_zero, List.set_cons_succ, i64_w, i32_w]
              rfl
            refine one_ (i := 5) (N := some 35) #[true, true, true, true, true, true, false] rfl rfl (by kernel_rfl) (by decide) (fun K hK => ?_)
            refine goes_ Try.func37 (by kernel_rfl) rfl #[.agg #[.string x.s0, .string x.s1, .bool x.b2, .bool x.b3, .bool x.b4, .bool x.b5, .bool x.b6, .bool x.b7, .bool x.b8, .bool x.b9, .slice x.A10 x.n10 x.c10, .slice AT ts.length cT, .slice AR rs.length cR, .slice x.A13 x.n13 x.c13, .slice x.A14 x.n14 x.c14, .slice x.A15 x.n15 x.c15, .slice AI is.length cI, .slice x.A17 x.n17 x.c17], .int .i64 (q : Int)] (by rfl) rfl rfl (by first | rfl | (simp only [List.map_toArray, List.map_cons, List.map_nil]; rfl) | simp) ?_
            refine (root_calls x AT cT AR cR AI cI ts rs is q wb (HC.out.below (HB.out.trans (HH.out.mono HB.out.size))) HLK.out HQ.out hsz).mono ?_
            rintro e wc ⟨rfl, B2⟩
            rw [HRQ.out.1]
            refine ⟨_, rfl, ?_⟩
            have HH2 := Aside0.mk (HH.out.trans (B2.mono HH.out.size))
            clear HH B2
            have HH := HH2
            clear HH2
            refine hK.out _ _ HH.out (fun _ => ?_)
            clear hK K
            refine norm_ (a' := ?_) ?_ ?_
            rotate_left
            · show Act.put _ (some 35) _ = _
              simp only [Act.put, List.setIfInBounds_toArray, List.set_cons_zero, List.set_cons_succ, i64_w, i32_w]
              rfl
            refine pure_ (i := 6) (N := some 36) (v := ?_) (a' := ?_) #[true, true, true, true, true, true, true] rfl rfl (by kernel_rfl) (fun _ _ _ h => h) (Or.inl ⟨by rfl, ?_⟩) ?_ ?_
            rotate_left
            · intro w_
              go_simp
              with_reducible rfl
            rotate_left
            · simp only [Act.put, List.setIfInBounds_toArray, List.set_cons_zero, List.set_cons_succ, i64_w, i32_w]
              rfl
            refine done_ (by kernel_rfl) ?_
            have HXb := Aside0.mk (HX.out.below HH.out)
            have HBb := Aside0.mk (HB.out.trans (HH.out.mono HB.out.size))
            have HRb := Aside0.mk (Kd.R_step HR.out (fun k _ hk => HH.out.block k hk))
            clear q12 HX HB HH HR
            have HX := HXb
            have HB := HBb
            have HR := HRb
            clear HXb HBb HRb
            by_cases hc : rootOf rs k = rootOf rs q
            · have hcb : ((rootOf rs k : Int) == (rootOf rs q : Int)) = true := by rw [hc]; simp
              have HG := Aside0.mk (group_yes rs q k hc)
              have HGL := Aside0.mk (group_len rs q k)
              clear hc
              go_wp2_with ((with_reducible refine gate_builtin (b := .append) (xs := #[.tmp 37, .tmp 39]) rfl ?_); at_builtin; refine Kd.R_append (Kd.int .i64) (w0 := w) w.heap.size rfl (.tmp 37) (.tmp 39) 39 3 (.int .i64 0) 8 rfl Try.underlying39 info3 rfl (by decide) (by omega) _ (groupN rs q k) ((k : Int)) [.int .i64 ((k : Int))] (fun g => g ≠ w.heap.size) (fun _ => False) rfl rfl rfl (fun _ h => h.elim) (fun g hg e => by have := HX.out.lt; omega) HR.out HB.out HB.out.size ?hl ?_; (case hl => have := HGL.out; omega); intro v3 w3 HR3 HB3 HG3 HA3; have HX3 := HX.out.grown HG3 (fun e => HR.out.1 _ e.symm rfl); rw [← HG.out] at HR3; have HRc := Aside0.mk HR3; have HBc := Aside0.mk HB3; have HXc := Aside0.mk HX3; clear HR3 HB3 HG3 HA3 HX3)
              go_roundw
              case rel => exact ⟨k + 1, HLT.out, by go_num, HRc, HXc, HBc⟩
              case measure => have := HLT.out; simp [intOf]; omega
            · have hcb : ((rootOf rs k : Int) == (rootOf rs q : Int)) = false := by simp; omega
              have HG := Aside0.mk (group_no rs q k hc)
              clear hc
              go_wp2_with fail
              go_roundw
              case rel => exact ⟨k + 1, HLT.out, by go_num, ⟨by rw [HG.out]; exact HR.out⟩, HX, HB⟩
              case measure => have := HLT.out; simp [intOf]; omega
          · have hd : decide ((k : Int) < (rs.length : Int)) = false := decide_eq_false (by omega)
            have HE := Aside0.mk (show k = rs.length by omega)
            go_wp2_with fail
            go_ret2
            exact ⟨HB.out, _, _, 0, rfl, Kd.R_mono HR.out (fun _ _ => trivial), .inr (.inr ⟨HS.out, q, rfl, HQ.out, by rw [HE.out], rfl⟩)⟩
  · have hvb : (v != 0) = true := by simp [hv]
    have HV := Aside0.mk hv
    clear hv
    go_wp2_with fail
    go_ret2
    exact ⟨HB.out, _, [], v, rfl, Kd.R_nil _ _ _ _ _, .inl ⟨HS.out, HV.out, rfl⟩⟩
set_option maxRecDepth 1000000 in
set_option maxHeartbeats 4000000 in
theorem usesR_calls (x : CV) (AT : Option Addr) (cT : Nat) (AR : Option Addr) (cR : Nat) (AI : Option Addr) (cI : Nat) (ts : List S64) (rs : List S73) (is : List S66) (A : Option Addr) (c : Nat) (l : List Int) (q : Nat) (w : World) (hC : Cfg w AT cT AR cR AI cI ts rs is) (hsz : rs.length ≤ 4398046511104) (hL : (Kd.int .i64).C w A l.length l) (hlk : LinksOk rs) (he : Ends rs) (hin : ∀ r ∈ l, -1 < r ∧ r < rs.length) (hq : q < rs.length) :
    Calls Try.prog 40 #[.agg #[.string x.s0, .string x.s1, .bool x.b2, .bool x.b3, .bool x.b4, .bool x.b5, .bool x.b6, .bool x.b7, .bool x.b8, .bool x.b9, .slice x.A10 x.n10 x.c10, .slice AT ts.length cT, .slice AR rs.length cR, .slice x.A13 x.n13 x.c13, .slice x.A14 x.n14 x.c14, .slice x.A15 x.n15 x.c15, .slice AI is.length cI, .slice x.A17 x.n17 x.c17], .slice A l.length c, .int .i64 (q : Int)] w fun e w' => e = .returned (.bool (usesF rs q l)) ∧ Below w.heap.size w w' := by
  have HL := Aside0.mk hL
  have HLK := Aside0.mk hlk
  have HE := Aside0.mk he
  have HIN := Aside0.mk hin
  have HQ := Aside0.mk hq
  have hlen := hL.2.1
  have HRQ := Aside0.mk (rootZ_of hlk he q hq)
  clear hL hlk he hin hq
  have HC := Aside0.mk hC
  clear hC
  have HBX := Aside0.mk (BoxAt.made w x AT cT AR cR AI cI ts.length rs.length is.length)
  have HB0 := Aside0.mk (show Below w.heap.size w (w.alloc (.cells #[.string x.s0, .string x.s1, .bool x.b2, .bool x.b3, .bool x.b4, .bool x.b5, .bool x.b6, .bool x.b7, .bool x.b8, .bool x.b9, .slice x.A10 x.n10 x.c10, .slice AT ts.length cT, .slice AR rs.length cR, .slice x.A13 x.n13 x.c13, .slice x.A14 x.n14 x.c14, .slice x.A15 x.n15 x.c15, .slice AI is.length cI, .slice x.A17 x.n17 x.c17] 36)) from (Below.refl _ _).alloc (Nat.le_refl _) _)
  unfold CV.arr at HBX
  go_enter Try.func40, Try.ntmps40
  go_wp2_with fail
  generalize w.alloc (.cells #[.string x.s0, .string x.s1, .bool x.b2, .bool x.b3, .bool x.b4, .bool x.b5, .bool x.b6, .bool x.b7, .bool x.b8, .bool x.b9, .slice x.A10 x.n10 x.c10, .slice AT ts.length cT, .slice AR rs.length cR, .slice x.A13 x.n13 x.c13, .slice x.A14 x.n14 x.c14, .slice x.A15 x.n15 x.c15, .slice AI is.length cI, .slice x.A17 x.n17 x.c17] 36) = w0 at *
  have HBX : Aside0 (BoxAt w0 w.heap.size x AT cT AR cR AI cI ts.length rs.length is.length) := HBX
  go_loopw [6, 7] (fun _ i wr => ∃ k : Nat, k ≤ l.length ∧ i = .int .i64 k ∧ Aside0 (usesF rs q (l.take k) = false) ∧ Aside0 (BoxAt wr w.heap.size x AT cT AR cR AI cI ts.length rs.length is.length) ∧ Aside0 (Below w.heap.size w wr)) (fun _ i _ => l.length - (intOf i).toNat)
  case atStart => exact ⟨0, by omega, rfl, ⟨rfl⟩, HBX, HB0⟩
  case round =>
    clear HBX HB0
    obtain ⟨k, hk, rfl, HU, HX, HB⟩ := hrel
    obtain ⟨wo, rfl⟩ : ∃ wo : World, wo = wr := ⟨_, rfl⟩
    by_cases hlt : k < l.length
    · have hd : decide ((k : Int) < (l.length : Int)) = true := decide_eq_true (by omega)
      have HLT := Aside0.mk (Nat.succ_le_of_lt hlt)
      obtain ⟨ad, rfl, hc0⟩ := (Kd.reads_of_C (d := (0 : Int)) (Kd.C_below HL.out HB.out)).2.2 (by omega)
      have hx := hc0 k hlt
      have HME := Aside0.mk (show l.getD k 0 ∈ l by rw [List.getD_eq_getElem?_getD, List.getElem?_eq_getElem hlt]; exact List.getElem_mem hlt)
      have HSN := Aside0.mk (take_snoc l k hlt)
      obtain ⟨p, hp⟩ := Int.eq_ofNat_of_zero_le (show 0 ≤ l.getD k 0 by have := HIN.out _ HME.out; omega)
      rw [hp] at hx
      have HP := Aside0.mk (show p < rs.length by have := HIN.out _ HME.out; omega)
      have HYES := Aside0.mk (show rootOf rs p = rootOf rs q → usesF rs q l = true from fun h => List.any_eq_true.mpr ⟨_, HME.out, by rw [hp]; simpa using h⟩)
      have HNO := Aside0.mk (show rootOf rs p ≠ rootOf rs q → usesF rs q (l.take (k + 1)) = false from fun h => by
        have h0 := HU.out
        unfold usesF at h0 ⊢
        rw [HSN.out, List.any_append, h0, hp]
        simpa using h)
      have HRO := Aside0.mk (rootZ_of HLK.out HE.out p HP.out)
      clear hc0 hp HU HSN HME
      go_wp2_with fail
      refine start_ (n := 10) (S := fun w_ => Below wo.heap.size wo w_) (ds := []) #[false, false, false, false, false, false, false, false, false, false] (by kernel_rfl) rfl rfl (drew_below wo) (fun hHeld => ?_)
      have HH := Aside0.mk hHeld
      clear hHeld
      generalize wo.drew = wv at HH ⊢
      refine take_ (i := 0) (N := some 14) (v := ?_) (a' := ?_) #[true, false, false, false, false, false, false, false, false, false] rfl rfl (by kernel_rfl) (fun _ _ _ h => h) (Or.inl ⟨by rfl, ?_⟩) HH.out ?_ ?_
      rotate_left
      · rintro w_ s
        refine run36 (HX.out.below s) (.tmp 3) ?_ ?_ <;> rfl
      rotate_left
      · simp only [Act.put, List.setIfInBounds_toArray, List.set_cons_zero, List.set_cons_succ, i64_w, i32_w]
        rfl
      refine pure_ (i := 1) (N := some 15) (v := ?_) (a' := ?_) #[true, true, false, false, false, false, false, false, false, false] rfl rfl (by kernel_rfl) (fun _ _ _ h => h) (Or.inl ⟨by rfl, ?_⟩) ?_ ?_
      rotate_left
      · intro w_
        go_simp
        with_reducible rfl
      rotate_left
      · simp only [Act.put, List.setIfInBounds_toArray, List.set_cons_zero, List.set_cons_succ, i64_w, i32_w]
        rfl
      refine pure_ (i := 2) (N := some 16) (v := ?_) (a' := ?_) #[true, true, true, false, false, false, false, false, false, false] rfl rfl (by kernel_rfl) (fun _ _ _ h => h) (Or.inl ⟨by rfl, ?_⟩) ?_ ?_
      rotate_left
      · intro w_
        go_simp
        with_reducible rfl
      rotate_left
      · simp only [Act.put, List.setIfInBounds_toArray, List.set_cons_zero, List.set_cons_succ, i64_w, i32_w]
        rfl
      refine pure_ (i := 3) (N := some 17) (v := ?_) (a' := ?_) #[true, true, true, true, false, false, false, false, false, false] rfl rfl (by kernel_rfl) (fun _ _ _ h => h) (Or.inl ⟨by rfl, ?_⟩) ?_ ?_
      rotate_left
      · intro w_
        go_simp
        with_reducible rfl
      rotate_left
      · simp only [Act.put, List.setIfInBounds_toArray, List.set_cons_zero, List.set_cons_succ, i64_w, i32_w]
        rfl
      refine take_ (i := 4) (N := some 18) (v := ?_) (a' := ?_) #[true, true, true, true, true, false, false, false, false, false] rfl rfl (by kernel_rfl) (fun _ _ _ h => h) (Or.inl ⟨by rfl, ?_⟩) HH.out ?_ ?_
      rotate_left
      · rintro w_ s
        have hx := (s.cell (World.block_lt_of_cell? wo _ hx)).trans hx
        go_simp
        with_reducible rfl
      rotate_left
      · simp only [Act.put, List.setIfInBounds_toArray, List.set_cons_zero, List.set_cons_succ, i64_w, i32_w]
        rfl
      refine take_ (i := 6) (N := some 20) (v := ?_) (a' := ?_) #[true, true, true, true, true, false, true, false, false, false] rfl rfl (by kernel_rfl) (fun _ _ _ h => h) (Or.inl ⟨by rfl, ?_⟩) HH.out ?_ ?_
      rotate_left
      · rintro w_ s
        refine run36 (HX.out.below s) (.tmp 3) ?_ ?_ <;> rfl
      rotate_left
      · simp only [Act.put, List.setIfInBounds_toArray, List.set_cons_zero, List.set_cons_succ, i64_w, i32_w]
        rfl
      refine pure_ (i := 7) (N := some 21) (v := ?_) (a' := ?_) #[true, true, true, true, true, false, true, true, false, false] rfl rfl (by kernel_rfl) (fun _ _ _ h => h) (Or.inl ⟨by rfl, ?_⟩) ?_ ?_
      rotate_left
      · intro w_
        go_simp
        with_reducible rfl
      rotate_left
      · simp only [Act.put, List.setIfInBounds_toArray, List.set_cons_zero, List.set_cons_succ, i64_w, i32_w]
        rfl
      refine one_ (i := 5) (N := some 19) #[true, true, true, true, true, true, true, true, false, false] rfl rfl (by kernel_rfl) (by decide) (fun K hK => ?_)
      refine goes_ Try.func37 (by kernel_rfl) rfl #[.agg #[.string x.s0, .string x.s1, .bool x.b2, .bool x.b3, .bool x.b4, .bool x.b5, .bool x.b6, .bool x.b7, .bool x.b8, .bool x.b9, .slice x.A10 x.n10 x.c10, .slice AT ts.length cT, .slice AR rs.length cR, .slice x.A13 x.n13 x.c13, .slice x.A14 x.n14 x.c14, .slice x.A15 x.n15 x.c15, .slice AI is.length cI, .slice x.A17 x.n17 x.c17], .int .i64 (p : Int)] (by rfl) rfl rfl (by first | rfl | (simp only [List.map_toArray, List.map_cons, List.map_nil]; rfl) | simp) ?_
      refine (root_calls x AT cT AR cR AI cI ts rs is p wv (HC.out.below (HB.out.trans (HH.out.mono HB.out.size))) HLK.out HP.out hsz).mono ?_
      rintro e wb ⟨rfl, B2⟩
      rw [HRO.out.1]
      refine ⟨_, rfl, ?_⟩
      have HH2 := Aside0.mk (HH.out.trans (B2.mono HH.out.size))
      clear HH B2
      have HH := HH2
      clear HH2
      refine hK.out _ _ HH.out (fun _ => ?_)
      clear hK K
      refine norm_ (a' := ?_) ?_ ?_
      rotate_left
      · show Act.put _ (some 19) _ = _
        simp only [Act.put, List.setIfInBounds_toArray, List.set_cons_zero, List.set_cons_succ, i64_w, i32_w]
        rfl
      refine one_ (i := 8) (N := some 22) #[true, true, true, true, true, true, true, true, true, false] rfl rfl (by kernel_rfl) (by decide) (fun K hK => ?_)
      refine goes_ Try.func37 (by kernel_rfl) rfl #[.agg #[.string x.s0, .string x.s1, .bool x.b2, .bool x.b3, .bool x.b4, .bool x.b5, .bool x.b6, .bool x.b7, .bool x.b8, .bool x.b9, .slice x.A10 x.n10 x.c10, .slice AT ts.length cT, .slice AR rs.length cR, .slice x.A13 x.n13 x.c13, .slice x.A14 x.n14 x.c14, .slice x.A15 x.n15 x.c15, .slice AI is.length cI, .slice x.A17 x.n17 x.c17], .int .i64 (q : Int)] (by rfl) rfl rfl (by first | rfl | (simp only [List.map_toArray, List.map_cons, List.map_nil]; rfl) | simp) ?_
      refine (root_calls x AT cT AR cR AI cI ts rs is q wb (HC.out.below (HB.out.trans (HH.out.mono HB.out.size))) HLK.out HQ.out hsz).mono ?_
      rintro e wc ⟨rfl, B2⟩
      rw [HRQ.out.1]
      refine ⟨_, rfl, ?_⟩
      have HH2 := Aside0.mk (HH.out.trans (B2.mono HH.out.size))
      clear HH B2
      have HH := HH2
      clear HH2
      refine hK.out _ _ HH.out (fun _ => ?_)
      clear hK K
      refine norm_ (a' := ?_) ?_ ?_
      rotate_left
      · show Act.put _ (some 22) _ = _
        simp only [Act.put, List.setIfInBounds_toArray, List.set_cons_zero, List.set_cons_succ, i64_w, i32_w]
        rfl
      refine pure_ (i := 9) (N := some 23) (v := ?_) (a' := ?_) #[true, true, true, true, true, true, true, true, true, true] rfl rfl (by kernel_rfl) (fun _ _ _ h => h) (Or.inl ⟨by rfl, ?_⟩) ?_ ?_
      rotate_left
      · intro w_
        go_simp
        with_reducible rfl
      rotate_left
      · simp only [Act.put, List.setIfInBounds_toArray, List.set_cons_zero, List.set_cons_succ, i64_w, i32_w]
        rfl
      refine done_ (by kernel_rfl) ?_
      have HXb := Aside0.mk (HX.out.below HH.out)
      have HBb := Aside0.mk (HB.out.trans (HH.out.mono HB.out.size))
      clear hx HX HB HH
      by_cases hc : rootOf rs p = rootOf rs q
      · have hcb : ((rootOf rs p : Int) == (rootOf rs q : Int)) = true := by rw [hc]; simp
        have HT := Aside0.mk (HYES.out hc)
        clear hc
        go_wp2_with fail
        go_ret
        exact ⟨by rw [HT.out]; rfl, HBb.out⟩
      · have hcb : ((rootOf rs p : Int) == (rootOf rs q : Int)) = false := by simp; omega
        have HT := Aside0.mk (HNO.out hc)
        clear hc
        go_wp2_with fail
        go_roundw
        case rel => exact ⟨k + 1, HLT.out, by go_num, HT, HXb, HBb⟩
        case measure => have := HLT.out; simp [intOf]; omega
    · have hd : decide ((k : Int) < (l.length : Int)) = false := decide_eq_false (by omega)
      have HT := Aside0.mk (show usesF rs q l = false by have h := HU.out; rw [List.take_of_length_le (by omega)] at h; exact h)
      clear HU
      go_wp2_with fail
      go_ret
      exact ⟨by rw [HT.out]; rfl, HB.out⟩
end Go.Proofs.Ytflkbheginhfiaa.XA
/- the document's answer of layer 8: Users: the contract. -/
namespace Go.Proofs.Ytflkbheginhfiaa.XA
set_option linter.unusedVariables false
set_option linter.unusedSimpArgs false
open Go.RowKit Go.WideMaps Go.Maps Go.Proofs.YtflkbheginhfiaaW.PrintWords Go.Proofs.YtflkbheginhfiaaW.PrintLast Go.Proofs.YtflkbheginhfiaaW.PrintMore
def tuL (rs : List S73) (ts : List S64) (q k : Nat) : List Int := ((List.range k).filter fun j => usesF rs q (ts.getD j z64).f5).map fun j : Nat => (j : Int)
def iuL (rs : List S73) (is : List S66) (q k : Nat) : List Int := ((List.range k).filter fun j => usesF rs q (is.getD j z66).f3).map fun j : Nat => (j : Int)
theorem tu_step (rs : List S73) (ts : List S64) (q k : Nat) : tuL rs ts q (k + 1) = tuL rs ts q k ++ (if usesF rs q (ts.getD k z64).f5 then [(k : Int)] else []) := by
  unfold tuL
  rw [List.range_succ, List.filter_append, List.map_append]
  cases h : usesF rs q (ts.getD k z64).f5 <;> simp [List.filter_cons, -List.getD_eq_getElem?_getD, h]
theorem iu_step (rs : List S73) (is : List S66) (q k : Nat) : iuL rs is q (k + 1) = iuL rs is q k ++ (if usesF rs q (is.getD k z66).f3 then [(k : Int)] else []) := by
  unfold iuL
  rw [List.range_succ, List.filter_append, List.map_append]
  cases h : usesF rs q (is.getD k z66).f3 <;> simp [List.filter_cons, -List.getD_eq_getElem?_getD, h]
theorem tu_len (rs : List S73) (ts : List S64) (q k : Nat) : (tuL rs ts q k).length ≤ k := by
  unfold tuL
  rw [List.length_map]
  have h := List.length_filter_le (fun j => usesF rs q (ts.getD j z64).f5) (List.range k)
  rw [List.length_range] at h
  exact h
theorem iu_len (rs : List S73) (is : List S66) (q k : Nat) : (iuL rs is q k).length ≤ k := by
  unfold iuL
  rw [List.length_map]
  have h := List.length_filter_le (fun j => usesF rs q (is.getD j z66).f3) (List.range k)
  rw [List.length_range] at h
  exact h
theorem tasks_tu (rs : List S73) (ts : List S64) (q k : Nat) : tasksOf (taskUsers rs ts q k) = tuL rs ts q k ∧ isrsOf (taskUsers rs ts q k) = [] := by
  induction k with
  | zero => exact ⟨rfl, rfl⟩
  | succ k ih =>
    rw [task_step, tu_step]
    unfold tasksOf isrsOf at *
    rw [List.filter_append, List.map_append, List.filter_append, List.map_append, ih.1, ih.2]
    cases usesF rs q (ts.getD k z64).f5 <;> simp
theorem isrs_iu (rs : List S73) (is : List S66) (q k : Nat) : isrsOf (isrUsers rs is q k) = iuL rs is q k ∧ tasksOf (isrUsers rs is q k) = [] := by
  induction k with
  | zero => exact ⟨rfl, rfl⟩
  | succ k ih =>
    rw [isr_step, iu_step]
    unfold tasksOf isrsOf at *
    rw [List.filter_append, List.map_append, List.filter_append, List.map_append, ih.1, ih.2]
    cases usesF rs q (is.getD k z66).f3 <;> simp
theorem users_tu (ts : List S64) (rs : List S73) (is : List S66) (q : Nat) : tasksOf (usersL ts rs is q) = tuL rs ts q ts.length ∧ isrsOf (usersL ts rs is q) = iuL rs is q is.length := by
  have h1 := tasks_tu rs ts q ts.length
  have h2 := isrs_iu rs is q is.length
  unfold usersL tasksOf isrsOf at *
  rw [List.filter_append, List.map_append, List.filter_append, List.map_append, h1.1, h1.2, h2.1, h2.2]
  simp
end Go.Proofs.Ytflkbheginhfiaa.XA
