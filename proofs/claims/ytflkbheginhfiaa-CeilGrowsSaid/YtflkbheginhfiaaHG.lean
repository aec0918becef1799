/- what ceil and the document answer, as functions: the contracts of both sides in one form. -/
import Derived.Test.YtflkbheginhfiaaHE
import Derived.Test.YtflkbheginhfiaaHD
import Derived.Test.YtflkbheginhfiaaHC
namespace Go.Proofs.Ytflkbheginhfiaa.XA
set_option linter.unusedVariables false
set_option linter.unusedSimpArgs false
open Go.RowKit Go.WideMaps Go.Maps Go.Proofs.YtflkbheginhfiaaW.PrintWords Go.Proofs.YtflkbheginhfiaaW.PrintLast Go.Proofs.YtflkbheginhfiaaW.PrintMore
open Classical in
noncomputable def checkV (ts : List S64) (rs : List S73) (is : List S66) : Int := if ¬ RefsOk ts rs is then 80 else if ¬ Ends rs then 81 else if ¬ InnerOk ts rs is then 82 else 0
theorem says_v {ts : List S64} {rs : List S73} {is : List S66} {v : Int} (h : CheckSays ts rs is v) : v = checkV ts rs is := by
  unfold checkV
  rcases h with ⟨rfl, h⟩ | ⟨rfl, h, h1⟩ | ⟨rfl, h, h1, h2⟩ | ⟨rfl, h, h1, h2⟩ <;> simp [*]
theorem v_says (ts : List S64) (rs : List S73) (is : List S66) : CheckSays ts rs is (checkV ts rs is) := by
  unfold checkV CheckSays
  split
  · exact .inl ⟨rfl, by assumption⟩
  · rename_i h
    have h := Classical.not_not.mp h
    split
    · exact .inr (.inl ⟨rfl, h, by assumption⟩)
    · rename_i h1
      have h1 := Classical.not_not.mp h1
      split
      · exact .inr (.inr (.inl ⟨rfl, h, h1, by assumption⟩))
      · rename_i h2
        exact .inr (.inr (.inr ⟨rfl, h, h1, Classical.not_not.mp h2⟩))
noncomputable def groupV (ts : List S64) (rs : List S73) (is : List S66) (r : Int) : List Int × Int := if checkV ts rs is ≠ 0 then ([], checkV ts rs is) else if r < 0 ∨ (rs.length : Int) ≤ r then ([], 2) else (groupN rs r.toNat rs.length, 0)
theorem group_v {ts : List S64} {rs : List S73} {is : List S66} {r : Int} {gl : List Int} {er : Int} (h : GroupIs ts rs is r gl er) : (gl, er) = groupV ts rs is r := by
  unfold groupV
  rcases h with ⟨h, h1, rfl⟩ | ⟨h, h1, rfl, rfl⟩ | ⟨h, q, rfl, h1, rfl, rfl⟩
  · rw [← says_v h, if_pos h1]
  · rw [← says_v h, if_neg (by simp), if_pos h1]
  · rw [← says_v h, if_neg (by simp), if_neg (by omega)]
    rfl
noncomputable def usersV (ts : List S64) (rs : List S73) (is : List S66) (r : Int) : List Int × List Int × Int := if checkV ts rs is ≠ 0 then ([], [], checkV ts rs is) else if r < 0 ∨ (rs.length : Int) ≤ r then ([], [], 2) else (tuL rs ts r.toNat ts.length, iuL rs is r.toNat is.length, 0)
theorem users_v {ts : List S64} {rs : List S73} {is : List S66} {r : Int} {tl il : List Int} {er : Int} (h : UsersIs ts rs is r tl il er) : (tl, il, er) = usersV ts rs is r := by
  unfold usersV
  rcases h with ⟨h, h1, rfl, rfl⟩ | ⟨h, h1, rfl, rfl, rfl⟩ | ⟨h, q, rfl, h1, rfl, rfl, rfl⟩
  · rw [← says_v h, if_pos h1]
  · rw [← says_v h, if_neg (by simp), if_pos h1]
  · rw [← says_v h, if_neg (by simp), if_neg (by omega), (users_tu ts rs is q).1, (users_tu ts rs is q).2]
    rfl
noncomputable def blocksV (ts : List S64) (rs : List S73) (is : List S66) (lo hi : Int) : List Int × Int :=
  if checkV ts rs is ≠ 0 then ([], checkV ts rs is) else if lo < 0 ∨ (ts.length : Int) ≤ lo ∨ hi < 0 ∨ (ts.length : Int) ≤ hi then ([], 2)
  else (if (ts.getD hi.toNat z64).f1 ≤ (ts.getD lo.toNat z64).f1 then [] else blkF ts rs is (ts.getD hi.toNat z64).f1 (ts.getD lo.toNat z64).f5, 0)
theorem blocks_v {ts : List S64} {rs : List S73} {is : List S66} {lo hi : Int} {bl : List Int} {er : Int} (h : BlocksIs ts rs is lo hi bl er) : (bl, er) = blocksV ts rs is lo hi := by
  unfold blocksV
  rcases h with ⟨h, h1, rfl⟩ | ⟨h, h1, rfl, rfl⟩ | ⟨h, l, g, rfl, rfl, h1, h2, rfl, rfl⟩
  · rw [← says_v h, if_pos h1]
  · rw [← says_v h, if_neg (by simp), if_pos h1]
  · rw [← says_v h, if_neg (show ¬ ((0 : Int) ≠ 0) from fun e => e rfl), if_neg (show ¬((l : Int) < 0 ∨ (ts.length : Int) ≤ l ∨ (g : Int) < 0 ∨ (ts.length : Int) ≤ g) by omega)]
    rfl
structure Ceil where
  l0 : List Int
  s : Int
  l2 : List Int
  l3 : List Int
  l4 : List Int
  er : Int
noncomputable def reckonV (ts : List S64) (rs : List S73) (is : List S66) (b : Bool) : Ceil := if checkV ts rs is ≠ 0 then ⟨[], 0, [], [], [], checkV ts rs is⟩ else ⟨ceilsF ts rs is rs.length, schF ts ts.length, runsF ts rs is ts.length, cntsF ts rs b ts.length, isrsF is is.length, 0⟩
theorem reckon_v {ts : List S64} {rs : List S73} {is : List S66} {b : Bool} {sch : Int} {L : Nat → List Int} {er : Int} (h : ReckonIs ts rs is b sch L er) : (⟨L 0, sch, L 2, L 3, L 4, er⟩ : Ceil) = reckonV ts rs is b := by
  unfold reckonV
  obtain ⟨h, ⟨h1, rfl, h2⟩ | ⟨rfl, rfl, h1, h2, h3, h4⟩⟩ := h
  · rw [← says_v h, if_pos h1, h2 0, h2 2, h2 3, h2 4]
  · rw [← says_v h, if_neg (by simp), h1, h2, h3, h4]
/-- a list that may be read -/
def Rd (w : World) (v : Value) (l : List Int) : Prop := ∃ A c, v = .slice A l.length c ∧ l.length ≤ c ∧ (Kd.int .i64).C w A l.length l
theorem Rd.of {w : World} {b : Nat} {ok : Nat → Prop} {v : Value} {l : List Int} (h : (Kd.int .i64).R 3 w b ok v l) : Rd w v l := Kd.R_reads h
theorem Rd.below {w w1 : World} {v : Value} {l : List Int} (h : Rd w v l) (hB : Below w.heap.size w w1) : Rd w1 v l := by
  obtain ⟨A, c, e, hc, hC⟩ := h
  exact ⟨A, c, e, hc, Kd.C_below hC hB⟩
section
variable (x : CV) (AT : Option Addr) (cT : Nat) (AR : Option Addr) (cR : Nat) (AI : Option Addr) (cI : Nat) (ts : List S64) (rs : List S73) (is : List S66)
/-- the configuration, and that it is not greater than what may be handed in -/
structure Good (w : World) : Prop where
  cfg : Cfg w AT cT AR cR AI cI ts rs is
  r : rs.length ≤ 4398046511104
  t : ts.length ≤ 4398046511104
  i : is.length ≤ 4398046511104
theorem Good.below {w w1 : World} (h : Good AT cT AR cR AI cI ts rs is w) (hB : Below w.heap.size w w1) : Good AT cT AR cR AI cI ts rs is w1 := ⟨h.cfg.below hB, h.r, h.t, h.i⟩
theorem check_c (w : World) (g : Good AT cT AR cR AI cI ts rs is w) : Calls Try.prog 11 #[.agg #[.string x.s0, .string x.s1, .bool x.b2, .bool x.b3, .bool x.b4, .bool x.b5, .bool x.b6, .bool x.b7, .bool x.b8, .bool x.b9, .slice x.A10 x.n10 x.c10, .slice AT ts.length cT, .slice AR rs.length cR, .slice x.A13 x.n13 x.c13, .slice x.A14 x.n14 x.c14, .slice x.A15 x.n15 x.c15, .slice AI is.length cI, .slice x.A17 x.n17 x.c17]] w fun e w' => e = .returned (.int .i64 (checkV ts rs is)) ∧ Below w.heap.size w w' := by
  refine (check_calls x AT cT AR cR AI cI ts rs is w g.cfg g.r g.t g.i).mono ?_
  rintro e w' ⟨hb, v, rfl, h⟩
  exact ⟨by rw [says_v h], hb⟩
theorem check_r (w : World) (g : Good AT cT AR cR AI cI ts rs is w) : Calls Try.prog 14 #[.agg #[.string x.s0, .string x.s1, .bool x.b2, .bool x.b3, .bool x.b4, .bool x.b5, .bool x.b6, .bool x.b7, .bool x.b8, .bool x.b9, .slice x.A10 x.n10 x.c10, .slice AT ts.length cT, .slice AR rs.length cR, .slice x.A13 x.n13 x.c13, .slice x.A14 x.n14 x.c14, .slice x.A15 x.n15 x.c15, .slice AI is.length cI, .slice x.A17 x.n17 x.c17]] w fun e w' => e = .returned (.int .i64 (checkV ts rs is)) ∧ Below w.heap.size w w' := by
  refine (checkR_calls x AT cT AR cR AI cI ts rs is w g.cfg g.r g.t g.i).mono ?_
  rintro e w' ⟨hb, v, rfl, h⟩
  exact ⟨by rw [says_v h], hb⟩
theorem group_c (r : Int) (w : World) (g : Good AT cT AR cR AI cI ts rs is w) : Calls Try.prog 18 #[.agg #[.string x.s0, .string x.s1, .bool x.b2, .bool x.b3, .bool x.b4, .bool x.b5, .bool x.b6, .bool x.b7, .bool x.b8, .bool x.b9, .slice x.A10 x.n10 x.c10, .slice AT ts.length cT, .slice AR rs.length cR, .slice x.A13 x.n13 x.c13, .slice x.A14 x.n14 x.c14, .slice x.A15 x.n15 x.c15, .slice AI is.length cI, .slice x.A17 x.n17 x.c17], .int .i64 r] w fun e w' => ∃ v, e = .returned (.tuple #[v, .int .i64 (groupV ts rs is r).2]) ∧ Rd w' v (groupV ts rs is r).1 ∧ Below w.heap.size w w' := by
  refine (group_calls x AT cT AR cR AI cI ts rs is r w g.cfg g.r g.t g.i).mono ?_
  rintro e w' ⟨hb, v, gl, er, rfl, hr, h⟩
  rw [← group_v h]
  exact ⟨v, rfl, .of hr, hb⟩
theorem group_r (r : Int) (w : World) (g : Good AT cT AR cR AI cI ts rs is w) : Calls Try.prog 19 #[.agg #[.string x.s0, .string x.s1, .bool x.b2, .bool x.b3, .bool x.b4, .bool x.b5, .bool x.b6, .bool x.b7, .bool x.b8, .bool x.b9, .slice x.A10 x.n10 x.c10, .slice AT ts.length cT, .slice AR rs.length cR, .slice x.A13 x.n13 x.c13, .slice x.A14 x.n14 x.c14, .slice x.A15 x.n15 x.c15, .slice AI is.length cI, .slice x.A17 x.n17 x.c17], .int .i64 r] w fun e w' => ∃ v, e = .returned (.tuple #[v, .int .i64 (groupV ts rs is r).2]) ∧ Rd w' v (groupV ts rs is r).1 ∧ Below w.heap.size w w' := by
  refine (groupR_calls x AT cT AR cR AI cI ts rs is r w g.cfg g.r g.t g.i).mono ?_
  rintro e w' ⟨hb, v, gl, er, rfl, hr, h⟩
  rw [← group_v h]
  exact ⟨v, rfl, .of hr, hb⟩
theorem users_c (r : Int) (w : World) (g : Good AT cT AR cR AI cI ts rs is w) : Calls Try.prog 21 #[.agg #[.string x.s0, .string x.s1, .bool x.b2, .bool x.b3, .bool x.b4, .bool x.b5, .bool x.b6, .bool x.b7, .bool x.b8, .bool x.b9, .slice x.A10 x.n10 x.c10, .slice AT ts.length cT, .slice AR rs.length cR, .slice x.A13 x.n13 x.c13, .slice x.A14 x.n14 x.c14, .slice x.A15 x.n15 x.c15, .slice AI is.length cI, .slice x.A17 x.n17 x.c17], .int .i64 r] w fun e w' => ∃ v u, e = .returned (.tuple #[v, u, .int .i64 (usersV ts rs is r).2.2]) ∧ Rd w' v (usersV ts rs is r).1 ∧ Rd w' u (usersV ts rs is r).2.1 ∧ Below w.heap.size w w' := by
  refine (users_calls x AT cT AR cR AI cI ts rs is r w g.cfg g.r g.t g.i).mono ?_
  rintro e w' ⟨hb, v, u, tl, il, er, rfl, hr, hr2, _, h⟩
  rw [← users_v h]
  exact ⟨v, u, rfl, .of hr, .of hr2, hb⟩
theorem users_r (r : Int) (w : World) (g : Good AT cT AR cR AI cI ts rs is w) : Calls Try.prog 22 #[.agg #[.string x.s0, .string x.s1, .bool x.b2, .bool x.b3, .bool x.b4, .bool x.b5, .bool x.b6, .bool x.b7, .bool x.b8, .bool x.b9, .slice x.A10 x.n10 x.c10, .slice AT ts.length cT, .slice AR rs.length cR, .slice x.A13 x.n13 x.c13, .slice x.A14 x.n14 x.c14, .slice x.A15 x.n15 x.c15, .slice AI is.length cI, .slice x.A17 x.n17 x.c17], .int .i64 r] w fun e w' => ∃ v u, e = .returned (.tuple #[v, u, .int .i64 (usersV ts rs is r).2.2]) ∧ Rd w' v (usersV ts rs is r).1 ∧ Rd w' u (usersV ts rs is r).2.1 ∧ Below w.heap.size w w' := by
  refine (usersR_calls x AT cT AR cR AI cI ts rs is r w g.cfg g.r g.t g.i).mono ?_
  rintro e w' ⟨hb, v, u, tl, il, er, rfl, hr, hr2, h⟩
  rw [← users_v h]
  exact ⟨v, u, rfl, .of hr, .of hr2, hb⟩
theorem blocks_c (lo hi : Int) (w : World) (g : Good AT cT AR cR AI cI ts rs is w) : Calls Try.prog 23 #[.agg #[.string x.s0, .string x.s1, .bool x.b2, .bool x.b3, .bool x.b4, .bool x.b5, .bool x.b6, .bool x.b7, .bool x.b8, .bool x.b9, .slice x.A10 x.n10 x.c10, .slice AT ts.length cT, .slice AR rs.length cR, .slice x.A13 x.n13 x.c13, .slice x.A14 x.n14 x.c14, .slice x.A15 x.n15 x.c15, .slice AI is.length cI, .slice x.A17 x.n17 x.c17], .int .i64 lo, .int .i64 hi] w fun e w' => ∃ v, e = .returned (.tuple #[v, .int .i64 (blocksV ts rs is lo hi).2]) ∧ Rd w' v (blocksV ts rs is lo hi).1 ∧ Below w.heap.size w w' := by
  refine (blocks_calls x AT cT AR cR AI cI ts rs is lo hi w g.cfg g.r g.t g.i).mono ?_
  rintro e w' ⟨hb, v, gl, er, rfl, hr, h⟩
  rw [← blocks_v h]
  exact ⟨v, rfl, .of hr, hb⟩
theorem reckon_c (w : World) (g : Good AT cT AR cR AI cI ts rs is w) : Calls Try.prog 12 #[.agg #[.string x.s0, .string x.s1, .bool x.b2, .bool x.b3, .bool x.b4, .bool x.b5, .bool x.b6, .bool x.b7, .bool x.b8, .bool x.b9, .slice x.A10 x.n10 x.c10, .slice AT ts.length cT, .slice AR rs.length cR, .slice x.A13 x.n13 x.c13, .slice x.A14 x.n14 x.c14, .slice x.A15 x.n15 x.c15, .slice AI is.length cI, .slice x.A17 x.n17 x.c17]] w fun e w' => ∃ v0 v2 v3 v4, e = .returned (.tuple #[.agg #[v0, .int .i64 (reckonV ts rs is x.b9).s, v2, v3, v4], .int .i64 (reckonV ts rs is x.b9).er]) ∧ Rd w' v0 (reckonV ts rs is x.b9).l0 ∧ Rd w' v2 (reckonV ts rs is x.b9).l2 ∧ Rd w' v3 (reckonV ts rs is x.b9).l3 ∧ Rd w' v4 (reckonV ts rs is x.b9).l4 ∧ Below w.heap.size w w' := by
  refine (reckon_calls x AT cT AR cR AI cI ts rs is w g.cfg g.r g.t g.i).mono ?_
  rintro e w' ⟨hb, V, sch, L, er, rfl, hr, h⟩
  rw [← reckon_v h]
  exact ⟨V 0, V 2, V 3, V 4, rfl, .of (hr.row 0 (.inl rfl)), .of (hr.row 2 (.inr (.inl rfl))), .of (hr.row 3 (.inr (.inr (.inl rfl)))), .of (hr.row 4 (.inr (.inr (.inr rfl)))), hb⟩
theorem ints_c (v u : Value) (l : List Int) (w : World) (h0 : Rd w v l) (h1 : Rd w u l) : Calls Try.prog 20 #[v, u] w fun e w' => e = .returned (.bool true) ∧ Below w.heap.size w w' := by
  obtain ⟨A, c, rfl, _, hC⟩ := h0
  obtain ⟨B, d, rfl, _, hD⟩ := h1
  exact ints_true A B c d l w hC hD
theorem same_c (v0 v2 v3 v4 u0 u2 u3 u4 : Value) (l0 l2 l3 l4 : List Int) (s : Int) (w : World) (h0 : Rd w v0 l0) (h2 : Rd w v2 l2) (h3 : Rd w v3 l3) (h4 : Rd w v4 l4) (g0 : Rd w u0 l0) (g2 : Rd w u2 l2) (g3 : Rd w u3 l3) (g4 : Rd w u4 l4) : Calls Try.prog 15 #[.agg #[v0, .int .i64 s, v2, v3, v4], .agg #[u0, .int .i64 s, u2, u3, u4]] w fun e w' => e = .returned (.bool true) ∧ Below w.heap.size w w' := by
  obtain ⟨A0, c0, rfl, _, C0⟩ := h0
  obtain ⟨A2, c2, rfl, _, C2⟩ := h2
  obtain ⟨A3, c3, rfl, _, C3⟩ := h3
  obtain ⟨A4, c4, rfl, _, C4⟩ := h4
  obtain ⟨B0, d0, rfl, _, D0⟩ := g0
  obtain ⟨B2, d2, rfl, _, D2⟩ := g2
  obtain ⟨B3, d3, rfl, _, D3⟩ := g3
  obtain ⟨B4, d4, rfl, _, D4⟩ := g4
  exact same_true A0 A2 A3 A4 B0 B2 B3 B4 c0 c2 c3 c4 d0 d2 d3 d4 l0 l2 l3 l4 s w C0 C2 C3 C4 D0 D2 D3 D4
end
end Go.Proofs.Ytflkbheginhfiaa.XA
