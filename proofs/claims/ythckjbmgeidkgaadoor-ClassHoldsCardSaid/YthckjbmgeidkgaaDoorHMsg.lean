/- messages: checks of package class. -/
import Derived.Test.YthckjbmgeidkgaaDoorHAct
namespace Go.Proofs.YthckjbmgeidkgaaDoor.XA
set_option linter.unusedVariables false
set_option linter.unusedSimpArgs false
open Go.RowKit Go.WideMaps Go.Maps Go.Proofs.YthckjbmgeidkgaaDoorW.PrintWords Go.Proofs.YthckjbmgeidkgaaDoorW.PrintLast Go.Proofs.YthckjbmgeidkgaaDoorW.PrintMore
theorem cell_of {w : World} {B e j : Nat} {cs : Array Value} {u : Value} (h : w.heap[B]? = some (.cells cs e (0, 0))) (hu : cs[j]? = some u) : w.cell? ((⟨B, 0, none⟩ : Addr).add j) = some u := by
  have e : (⟨B, 0, none⟩ : Addr).add j = ⟨B, j, none⟩ := by unfold Addr.add; split <;> simp_all
  rw [e]
  simp [World.cell?, h, hu]
theorem tab_of {α : Type} {d : Kd α} {w : World} {B e : Nat} {cs : List Value} {xs : List α} (h : w.heap[B]? = some (.cells cs.toArray e (0, 0))) (hn : xs.length ≤ 9223372036854775807)
    (hr : ∀ j p, xs[j]? = some p → ∃ c, c.length = d.sz ∧ d.K w p c ∧ ∀ i u, c[i]? = some u → cs[j * d.sz + i]? = some u) : d.C w (some ⟨B, 0, none⟩) xs.length xs :=
  ⟨rfl, hn, fun _ => ⟨_, rfl, fun j p hj => by
    obtain ⟨c, h1, h2, h3⟩ := hr j p hj
    exact ⟨c, h1, h2, fun i u hu => cell_of h (by simpa using h3 i u hu)⟩⟩⟩
theorem ints_of {w : World} {B : Nat} {xs : List Int} (h : w.heap[B]? = some (.cells (xs.map (Value.int .i64)).toArray 3 (0, 0))) (hn : xs.length ≤ 9223372036854775807) : (Kd.int .i64).C w (some ⟨B, 0, none⟩) xs.length xs :=
  tab_of (d := Kd.int .i64) h hn fun j p hj => ⟨[.int .i64 p], rfl, rfl, fun i u hu => by
    cases i with
    | zero =>
      simp at hu
      subst hu
      show (xs.map (Value.int .i64))[j * 1 + 0]? = _
      simp [hj]
    | succ i => simp at hu⟩
def msgVal (t : S91) : Bool := if t.f1 = 1 then decide (t.f2 ∈ [1, 2, 4, 8]) && t.f3 == 0 && t.f4 == 0 && t.f5 == 0 else if t.f1 = 2 then t.f2 == 0 && t.f5 == 0 else if t.f1 = 3 then t.f2 == 0 && t.f4 == 0 && decide (1 ≤ t.f5) && decide (t.f5 ≤ 16) else false
def eMsgVal (c : S33) (i : Nat) : Int := if msgVal (c.f9.getD i z91) then 0 else 74
set_option maxRecDepth 1000000 in
set_option maxHeartbeats 4000000 in
theorem msgVal_chk : Chk 61 (fun c => c.f9.length) (fun _ _ => True) eMsgVal := by
  intro w B V c i h hi _
  obtain ⟨t, ad, ht, e, HA⟩ := msg_at h.cf.g i hi
  have q17 := h.cell17
  rw [e] at q17
  have HAX := Aside0.mk HA
  have HE := Aside0.mk (show eMsgVal c i = if msgVal t then 0 else 74 from by unfold eMsgVal; rw [ht])
  clear h e ht HA
  unfold msgVal at HE
  by_cases k1 : t.f1 = 1
  · have b1 : (t.f1 == 1) = true := by rw [beq_iff_eq]; exact k1
    have HE := Aside0.mk (show eMsgVal c i = if decide (t.f2 ∈ [1, 2, 4, 8]) && t.f3 == 0 && t.f4 == 0 && t.f5 == 0 then 0 else 74 from by rw [HE.out, if_pos k1])
    clear k1
    go_enter Tryd.func61, Tryd.ntmps61
    go_wp2_with (first | ((with_reducible refine gate_dst (N := 12) rfl ?_); refine load91 HAX.out rfl (.tmp 11) rfl rfl ?_))
    have hcc := fun (w1 : World) (g : Nat) (hg : w1.heap[g]? = some (.cells #[.int .i64 1, .int .i64 2, .int .i64 4, .int .i64 8] 3 (0, 0))) => contains_calls (some ⟨g, 0, none⟩) 4 [1, 2, 4, 8] t.f2 w1 (ints_of (xs := [1, 2, 4, 8]) hg (by decide)) (by decide)
    have HCC := Aside0.mk hcc
    clear hcc
    generalize decide (t.f2 ∈ [1, 2, 4, 8]) = kk at *
    have HB := Aside0.mk (show Below w.heap.size w ((w.alloc (.cells #[.string t.f0, .int .i64 t.f1, .int .i64 t.f2, .int .i64 t.f3, .int .u64 t.f4, .int .i64 t.f5, .int .i64 t.f6.f0, .int .i64 t.f6.f1, .int .i64 t.f6.f2, .string t.f6.f3] 91)).alloc (.cells #[.int .i64 1, .int .i64 2, .int .i64 4, .int .i64 8] 3)) from (below_a w _).trans ((below_a _ _).mono (below_a w _).size))
    have hg : ((w.alloc (.cells #[.string t.f0, .int .i64 t.f1, .int .i64 t.f2, .int .i64 t.f3, .int .u64 t.f4, .int .i64 t.f5, .int .i64 t.f6.f0, .int .i64 t.f6.f1, .int .i64 t.f6.f2, .string t.f6.f3] 91)).alloc (.cells #[.int .i64 1, .int .i64 2, .int .i64 4, .int .i64 8] 3)).heap[w.heap.size + 1]? = some (.cells #[.int .i64 1, .int .i64 2, .int .i64 4, .int .i64 8] 3 (0, 0)) := by
      have h := heap_alloc_new (w.alloc (.cells #[.string t.f0, .int .i64 t.f1, .int .i64 t.f2, .int .i64 t.f3, .int .u64 t.f4, .int .i64 t.f5, .int .i64 t.f6.f0, .int .i64 t.f6.f1, .int .i64 t.f6.f2, .string t.f6.f3] 91)) (.cells #[.int .i64 1, .int .i64 2, .int .i64 4, .int .i64 8] 3)
      rw [World.size_alloc] at h
      exact h
    have HG := Aside0.mk hg
    clear hg
    have y3 : ((w.alloc (.cells #[.string t.f0, .int .i64 t.f1, .int .i64 t.f2, .int .i64 t.f3, .int .u64 t.f4, .int .i64 t.f5, .int .i64 t.f6.f0, .int .i64 t.f6.f1, .int .i64 t.f6.f2, .string t.f6.f3] 91)).alloc (.cells #[.int .i64 1, .int .i64 2, .int .i64 4, .int .i64 8] 3)).cell? ⟨w.heap.size, 3, none⟩ = some (.int .i64 t.f3) := by rw [World.cell?_alloc_lt _ _ _ (by simp)]; simp
    have y4 : ((w.alloc (.cells #[.string t.f0, .int .i64 t.f1, .int .i64 t.f2, .int .i64 t.f3, .int .u64 t.f4, .int .i64 t.f5, .int .i64 t.f6.f0, .int .i64 t.f6.f1, .int .i64 t.f6.f2, .string t.f6.f3] 91)).alloc (.cells #[.int .i64 1, .int .i64 2, .int .i64 4, .int .i64 8] 3)).cell? ⟨w.heap.size, 4, none⟩ = some (.int .u64 t.f4) := by rw [World.cell?_alloc_lt _ _ _ (by simp)]; simp
    have y5 : ((w.alloc (.cells #[.string t.f0, .int .i64 t.f1, .int .i64 t.f2, .int .i64 t.f3, .int .u64 t.f4, .int .i64 t.f5, .int .i64 t.f6.f0, .int .i64 t.f6.f1, .int .i64 t.f6.f2, .string t.f6.f3] 91)).alloc (.cells #[.int .i64 1, .int .i64 2, .int .i64 4, .int .i64 8] 3)).cell? ⟨w.heap.size, 5, none⟩ = some (.int .i64 t.f5) := by rw [World.cell?_alloc_lt _ _ _ (by simp)]; simp
    generalize (w.alloc (.cells #[.string t.f0, .int .i64 t.f1, .int .i64 t.f2, .int .i64 t.f3, .int .u64 t.f4, .int .i64 t.f5, .int .i64 t.f6.f0, .int .i64 t.f6.f1, .int .i64 t.f6.f2, .string t.f6.f3] 91)).alloc (.cells #[.int .i64 1, .int .i64 2, .int .i64 4, .int .i64 8] 3) = w2 at *
    refine (HCC.out w2 (w.heap.size + 1) HG.out).mono ?_
    rintro e w' ⟨rfl, rfl⟩
    cases kk
    all_goals
      go_wp2_with fail
      all_goals
        refine (unless_calls _ _ _).mono ?_
        rintro e w' ⟨rfl, rfl⟩
        go_wp2_with fail
        all_goals
          go_ret
          refine ⟨?_, HB.out⟩
          rw [HE.out]
          refine congrArg (fun z => Ending.returned (Value.int .i64 z)) ?_
          simp [*]
          try omega
  · have b1 : (t.f1 == 1) = false := by rw [beq_eq_false_iff_ne]; exact k1
    by_cases k2 : t.f1 = 2
    · have b2 : (t.f1 == 2) = true := by rw [beq_iff_eq]; exact k2
      have HE := Aside0.mk (show eMsgVal c i = if t.f2 == 0 && t.f5 == 0 then 0 else 74 from by rw [HE.out, if_neg k1, if_pos k2])
      clear k1 k2
      go_enter Tryd.func61, Tryd.ntmps61
      go_wp2_with (first | ((with_reducible refine gate_dst (N := 12) rfl ?_); refine load91 HAX.out rfl (.tmp 11) rfl rfl ?_))
      all_goals
        refine (unless_calls _ _ _).mono ?_
        rintro e w' ⟨rfl, rfl⟩
        go_wp2_with fail
        all_goals
          go_ret
          refine ⟨?_, below_a w _⟩
          rw [HE.out]
          refine congrArg (fun z => Ending.returned (Value.int .i64 z)) ?_
          simp [*]
          try omega
    · have b2 : (t.f1 == 2) = false := by rw [beq_eq_false_iff_ne]; exact k2
      by_cases k3 : t.f1 = 3
      · have b3 : (t.f1 == 3) = true := by rw [beq_iff_eq]; exact k3
        have HE := Aside0.mk (show eMsgVal c i = if t.f2 == 0 && t.f4 == 0 && decide (1 ≤ t.f5) && decide (t.f5 ≤ 16) then 0 else 74 from by rw [HE.out, if_neg k1, if_neg k2, if_pos k3])
        clear k1 k2 k3
        go_enter Tryd.func61, Tryd.ntmps61
        go_wp2_with (first | ((with_reducible refine gate_dst (N := 12) rfl ?_); refine load91 HAX.out rfl (.tmp 11) rfl rfl ?_))
        all_goals
          refine (unless_calls _ _ _).mono ?_
          rintro e w' ⟨rfl, rfl⟩
          go_wp2_with fail
          all_goals
            go_ret
            refine ⟨?_, below_a w _⟩
            rw [HE.out]
            refine congrArg (fun z => Ending.returned (Value.int .i64 z)) ?_
            simp [*]
            try omega
      · have b3 : (t.f1 == 3) = false := by rw [beq_eq_false_iff_ne]; exact k3
        have HE := Aside0.mk (show eMsgVal c i = 74 from by rw [HE.out, if_neg k1, if_neg k2, if_neg k3]; rfl)
        clear k1 k2 k3
        go_enter Tryd.func61, Tryd.ntmps61
        go_wp2_with (first | ((with_reducible refine gate_dst (N := 12) rfl ?_); refine load91 HAX.out rfl (.tmp 11) rfl rfl ?_))
        go_ret
        refine ⟨?_, below_a w _⟩
        rw [HE.out]
        refine congrArg (fun z => Ending.returned (Value.int .i64 z)) ?_
        simp [*]
        try omega
def msgFrom (ms : List S91) (t : S91) : Bool := t.f1 == 1 || (decide (0 ≤ t.f3) && decide (t.f3 < ms.length) && (ms.getD t.f3.toNat z91).f1 == 1)
def eMsgFrom (c : S33) (i : Nat) : Int := if msgFrom c.f9 (c.f9.getD i z91) then 0 else 73
set_option maxRecDepth 1000000 in
set_option maxHeartbeats 4000000 in
theorem msgFrom_chk : Chk 62 (fun c => c.f9.length) (fun _ _ => True) eMsgFrom := by
  intro w B V c i h hi _
  obtain ⟨t, ad, ht, e, HA⟩ := msg_at h.cf.g i hi
  have q17 := h.cell17
  rw [e] at q17
  have HAX := Aside0.mk HA
  have HX := Aside0.mk h
  have HQ := Aside0.mk e
  have HE := Aside0.mk (show eMsgFrom c i = if msgFrom c.f9 t then 0 else 73 from by unfold eMsgFrom; rw [ht])
  clear h e ht HA
  unfold msgFrom at HE
  go_enter Tryd.func62, Tryd.ntmps62
  go_wp2_with (first | ((with_reducible refine gate_dst (N := 12) rfl ?_); refine load91 HAX.out rfl (.tmp 11) rfl rfl ?_))
  have HB := Aside0.mk (below_a w (.cells #[.string t.f0, .int .i64 t.f1, .int .i64 t.f2, .int .i64 t.f3, .int .u64 t.f4, .int .i64 t.f5, .int .i64 t.f6.f0, .int .i64 t.f6.f1, .int .i64 t.f6.f2, .string t.f6.f3] 91))
  have y1 : (w.alloc (.cells #[.string t.f0, .int .i64 t.f1, .int .i64 t.f2, .int .i64 t.f3, .int .u64 t.f4, .int .i64 t.f5, .int .i64 t.f6.f0, .int .i64 t.f6.f1, .int .i64 t.f6.f2, .string t.f6.f3] 91)).cell? ⟨w.heap.size, 1, none⟩ = some (.int .i64 t.f1) := by simp
  have y3 : (w.alloc (.cells #[.string t.f0, .int .i64 t.f1, .int .i64 t.f2, .int .i64 t.f3, .int .u64 t.f4, .int .i64 t.f5, .int .i64 t.f6.f0, .int .i64 t.f6.f1, .int .i64 t.f6.f2, .string t.f6.f3] 91)).cell? ⟨w.heap.size, 3, none⟩ = some (.int .i64 t.f3) := by simp
  have q17 := (HB.out.cell (World.block_lt_of_cell? w _ q17)).trans q17
  generalize w.alloc (.cells #[.string t.f0, .int .i64 t.f1, .int .i64 t.f2, .int .i64 t.f3, .int .u64 t.f4, .int .i64 t.f5, .int .i64 t.f6.f0, .int .i64 t.f6.f1, .int .i64 t.f6.f2, .string t.f6.f3] 91) = w1 at *
  have H1 := Aside0.mk (HX.out.below HB.out)
  by_cases k1 : t.f1 = 1
  · have b1 : (t.f1 == 1) = true := by rw [beq_iff_eq]; exact k1
    have HE := Aside0.mk (show eMsgFrom c i = 0 from by rw [HE.out, b1]; rfl)
    clear k1
    go_quiet (first | (go_at_call 38; refine Calls.quiet_of_same (unless_calls _ _ _)))
    go_wp2_with fail
    go_ret
    refine ⟨?_, HB.out.trans ((drewN_below _ _).mono HB.out.size)⟩
    rw [HE.out]
    refine congrArg (fun z => Ending.returned (Value.int .i64 z)) ?_
    simp [*]
    try omega
  · have b1 : (t.f1 == 1) = false := by rw [beq_eq_false_iff_ne]; exact k1
    by_cases k2 : 0 ≤ t.f3
    · have b2 : decide (0 ≤ t.f3) = true := decide_eq_true k2
      obtain ⟨p, hp⟩ : ∃ p : Nat, t.f3 = p := ⟨t.f3.toNat, by omega⟩
      rw [hp] at y3 HE b2
      by_cases k3 : p < c.f9.length
      · have b3 : decide ((p : Int) < (c.f9.length : Int)) = true := decide_eq_true (by omega)
        obtain ⟨u, ad2, hu, e2, HA2⟩ := msg_at H1.out.cf.g p k3
        have hade : ad2 = ad := by
          have := HQ.out.symm.trans e2
          injection this with this
          exact this.symm
        subst hade
        have g1 := HA2.g1
        have HE := Aside0.mk (show eMsgFrom c i = if u.f1 == 1 then 0 else 73 from by rw [HE.out, b1, b2, b3, Int.toNat_natCast, hu]; rfl)
        clear k1 k2 hp hu e2 HA2
        generalize u.f1 = u1 at *
        go_quiet (first | (go_at_call 38; refine Calls.quiet_of_same (unless_calls _ _ _)))
        go_wp2_with fail
        all_goals
          go_ret
          refine ⟨?_, HB.out.trans ((drewN_below _ _).mono HB.out.size)⟩
          rw [HE.out]
          refine congrArg (fun z => Ending.returned (Value.int .i64 z)) ?_
          simp [*]
          try omega
      · have b3 : decide ((p : Int) < (c.f9.length : Int)) = false := decide_eq_false (by omega)
        have HE := Aside0.mk (show eMsgFrom c i = 73 from by rw [HE.out, b1, b2, b3]; rfl)
        clear k1 k2 hp
        go_quiet (first | (go_at_call 38; refine Calls.quiet_of_same (unless_calls _ _ _)))
        go_wp2_with fail
        go_ret
        refine ⟨?_, HB.out.trans ((drewN_below _ _).mono HB.out.size)⟩
        rw [HE.out]
        refine congrArg (fun z => Ending.returned (Value.int .i64 z)) ?_
        simp [*]
        try omega
    · have b2 : decide (0 ≤ t.f3) = false := decide_eq_false k2
      have HE := Aside0.mk (show eMsgFrom c i = 73 from by rw [HE.out, b1, b2]; rfl)
      clear k1 k2
      go_quiet (first | (go_at_call 38; refine Calls.quiet_of_same (unless_calls _ _ _)))
      go_wp2_with fail
      go_ret
      refine ⟨?_, HB.out.trans ((drewN_below _ _).mono HB.out.size)⟩
      rw [HE.out]
      refine congrArg (fun z => Ending.returned (Value.int .i64 z)) ?_
      simp [*]
      try omega
end Go.Proofs.YthckjbmgeidkgaaDoor.XA
