/- the closures of package class' table: how many objects of a kind there are, their names; the event's check. -/
import Derived.Test.YthckjbmgeidkgaaDoorHMsg2
import Derived.Test.YthckjbmgeidkgaaDoorHIsr
namespace Go.Proofs.YthckjbmgeidkgaaDoor.XA
set_option linter.unusedVariables false
set_option linter.unusedSimpArgs false
open Go.RowKit Go.WideMaps Go.Maps Go.Proofs.YthckjbmgeidkgaaDoorW.PrintWords Go.Proofs.YthckjbmgeidkgaaDoorW.PrintLast Go.Proofs.YthckjbmgeidkgaaDoorW.PrintMore
/-- a count of objects -/
def Cnt (f : Nat) (n : S33 → Nat) : Prop := ∀ (w : World) (B : Nat) (V : CV) (c : S33), At w B V c → Calls Tryd.prog f #[.pointer (some ⟨B, 0, none⟩)] w fun e w' => e = .returned (.int .i64 (n c)) ∧ w' = w
/-- the names of objects -/
def Nam (f : Nat) (n : S33 → Nat) (nm : S33 → Nat → ByteArray) : Prop := ∀ (w : World) (B : Nat) (V : CV) (c : S33) (i : Nat), At w B V c → i < n c → Calls Tryd.prog f #[.pointer (some ⟨B, 0, none⟩), .int .i64 i] w fun e w' => e = .returned (.string (nm c i)) ∧ w' = w
set_option maxRecDepth 1000000 in
set_option maxHeartbeats 4000000 in
theorem cnt24 : Cnt 24 (fun _ => 1) := by
  intro w B V c h
  go_enter Tryd.func24, Tryd.ntmps24
  go_wp2_with fail
  go_ret
  exact ⟨rfl, rfl⟩
set_option maxRecDepth 1000000 in
set_option maxHeartbeats 4000000 in
theorem cnt26 : Cnt 26 (fun _ => 1) := by
  intro w B V c h
  go_enter Tryd.func26, Tryd.ntmps26
  go_wp2_with fail
  go_ret
  exact ⟨rfl, rfl⟩
set_option maxRecDepth 1000000 in
set_option maxHeartbeats 4000000 in
theorem nam25 : Nam 25 (fun _ => 1) (fun c _ => c.f0) := by
  intro w B V c i h hi
  have q := h.cell0
  clear h
  go_enter Tryd.func25, Tryd.ntmps25
  go_wp2_with fail
  go_ret
  exact ⟨rfl, rfl⟩
set_option maxRecDepth 1000000 in
set_option maxHeartbeats 4000000 in
theorem nam27 : Nam 27 (fun _ => 1) (fun c _ => c.f1.f0) := by
  intro w B V c i h hi
  have q := h.cell1
  clear h
  go_enter Tryd.func27, Tryd.ntmps27
  go_wp2_with fail
  go_ret
  exact ⟨rfl, rfl⟩
set_option maxRecDepth 1000000 in
set_option maxHeartbeats 4000000 in
theorem cnt28 : Cnt 28 (fun c => c.f2.length) := by
  intro w B V c h
  have q := h.cell10
  clear h
  go_enter Tryd.func28, Tryd.ntmps28
  go_wp2_with fail
  go_ret
  exact ⟨rfl, rfl⟩
set_option maxRecDepth 1000000 in
set_option maxHeartbeats 4000000 in
theorem nam29 : Nam 29 (fun c => c.f2.length) (fun c i => c.f2.getD i ⟨#[]⟩) := by
  intro w B V c i h hi
  have q := h.cell10
  obtain ⟨ad, e, hc0⟩ := (Kd.reads_of_C (d := (⟨#[]⟩ : ByteArray)) h.cf.m).2.2 (by have : i < c.f2.length := hi; omega)
  have hx := hc0 i hi
  rw [e] at q
  have hi : i < c.f2.length := hi
  show Calls _ _ _ _ fun e w' => e = .returned (.string (c.f2.getD i ⟨#[]⟩)) ∧ w' = w
  clear h hc0 e
  generalize c.f2.getD i ⟨#[]⟩ = s at *
  go_enter Tryd.func29, Tryd.ntmps29
  go_wp2_with fail
  go_ret
  exact ⟨rfl, rfl⟩
set_option maxRecDepth 1000000 in
set_option maxHeartbeats 4000000 in
theorem cnt30 : Cnt 30 (fun c => c.f4.length) := by
  intro w B V c h
  have q := h.cell12
  clear h
  go_enter Tryd.func30, Tryd.ntmps30
  go_wp2_with fail
  go_ret
  exact ⟨rfl, rfl⟩
set_option maxRecDepth 1000000 in
set_option maxHeartbeats 4000000 in
theorem nam31 : Nam 31 (fun c => c.f4.length) (fun c i => (c.f4.getD i z65).f0) := by
  intro w B V c i h hi
  have hi : i < c.f4.length := hi
  have q := h.cell12
  obtain ⟨t, ad, ht, e, HA⟩ := res_at h.cf.r i hi
  rw [e] at q
  have g := HA.g0
  show Calls _ _ _ _ fun e w' => e = .returned (.string (c.f4.getD i z65).f0) ∧ w' = w
  rw [ht]
  clear h e ht HA
  generalize t.f0 = s at *
  go_enter Tryd.func31, Tryd.ntmps31
  go_wp2_with fail
  go_ret
  exact ⟨rfl, rfl⟩
set_option maxRecDepth 1000000 in
set_option maxHeartbeats 4000000 in
theorem cnt35 : Cnt 35 (fun c => c.f5.length) := by
  intro w B V c h
  have q := h.cell13
  clear h
  go_enter Tryd.func35, Tryd.ntmps35
  go_wp2_with fail
  go_ret
  exact ⟨rfl, rfl⟩
set_option maxRecDepth 1000000 in
set_option maxHeartbeats 4000000 in
theorem nam36 : Nam 36 (fun c => c.f5.length) (fun c i => (c.f5.getD i z53).f0) := by
  intro w B V c i h hi
  have hi : i < c.f5.length := hi
  have q := h.cell13
  obtain ⟨t, ad, ht, e, HA⟩ := evt_at h.cf.e i hi
  rw [e] at q
  have g := HA.g0
  show Calls _ _ _ _ fun e w' => e = .returned (.string (c.f5.getD i z53).f0) ∧ w' = w
  rw [ht]
  clear h e ht HA
  generalize t.f0 = s at *
  go_enter Tryd.func36, Tryd.ntmps36
  go_wp2_with fail
  go_ret
  exact ⟨rfl, rfl⟩
set_option maxRecDepth 1000000 in
set_option maxHeartbeats 4000000 in
theorem cnt39 : Cnt 39 (fun c => c.f3.length) := by
  intro w B V c h
  have q := h.cell11
  clear h
  go_enter Tryd.func39, Tryd.ntmps39
  go_wp2_with fail
  go_ret
  exact ⟨rfl, rfl⟩
set_option maxRecDepth 1000000 in
set_option maxHeartbeats 4000000 in
theorem nam40 : Nam 40 (fun c => c.f3.length) (fun c i => (c.f3.getD i z49).f0) := by
  intro w B V c i h hi
  have hi : i < c.f3.length := hi
  have q := h.cell11
  obtain ⟨t, ad, A4, c4, A5, c5, A6, c6, A7, c7, ht, e, HA, _⟩ := task_at h.cf.t i hi
  rw [e] at q
  have g := HA.g0
  show Calls _ _ _ _ fun e w' => e = .returned (.string (c.f3.getD i z49).f0) ∧ w' = w
  rw [ht]
  clear h e ht HA
  generalize t.f0 = s at *
  go_enter Tryd.func40, Tryd.ntmps40
  go_wp2_with fail
  go_ret
  exact ⟨rfl, rfl⟩
set_option maxRecDepth 1000000 in
set_option maxHeartbeats 4000000 in
theorem cnt45 : Cnt 45 (fun c => c.f6.length) := by
  intro w B V c h
  have q := h.cell14
  clear h
  go_enter Tryd.func45, Tryd.ntmps45
  go_wp2_with fail
  go_ret
  exact ⟨rfl, rfl⟩
set_option maxRecDepth 1000000 in
set_option maxHeartbeats 4000000 in
theorem nam46 : Nam 46 (fun c => c.f6.length) (fun c i => (c.f6.getD i z62).f0) := by
  intro w B V c i h hi
  have hi : i < c.f6.length := hi
  have q := h.cell14
  obtain ⟨t, ad, ht, e, HA⟩ := ctr_at h.cf.x i hi
  rw [e] at q
  have g := HA.g0
  show Calls _ _ _ _ fun e w' => e = .returned (.string (c.f6.getD i z62).f0) ∧ w' = w
  rw [ht]
  clear h e ht HA
  generalize t.f0 = s at *
  go_enter Tryd.func46, Tryd.ntmps46
  go_wp2_with fail
  go_ret
  exact ⟨rfl, rfl⟩
set_option maxRecDepth 1000000 in
set_option maxHeartbeats 4000000 in
theorem cnt48 : Cnt 48 (fun c => c.f7.length) := by
  intro w B V c h
  have q := h.cell15
  clear h
  go_enter Tryd.func48, Tryd.ntmps48
  go_wp2_with fail
  go_ret
  exact ⟨rfl, rfl⟩
set_option maxRecDepth 1000000 in
set_option maxHeartbeats 4000000 in
theorem nam49 : Nam 49 (fun c => c.f7.length) (fun c i => (c.f7.getD i z60).f0) := by
  intro w B V c i h hi
  have hi : i < c.f7.length := hi
  have q := h.cell15
  obtain ⟨t, ad, A6, c6, ht, e, HA, _⟩ := alm_at h.cf.a i hi
  rw [e] at q
  have g := HA.g0
  show Calls _ _ _ _ fun e w' => e = .returned (.string (c.f7.getD i z60).f0) ∧ w' = w
  rw [ht]
  clear h e ht HA
  generalize t.f0 = s at *
  go_enter Tryd.func49, Tryd.ntmps49
  go_wp2_with fail
  go_ret
  exact ⟨rfl, rfl⟩
set_option maxRecDepth 1000000 in
set_option maxHeartbeats 4000000 in
theorem cnt54 : Cnt 54 (fun c => c.f8.length) := by
  intro w B V c h
  have q := h.cell16
  clear h
  go_enter Tryd.func54, Tryd.ntmps54
  go_wp2_with fail
  go_ret
  exact ⟨rfl, rfl⟩
set_option maxRecDepth 1000000 in
set_option maxHeartbeats 4000000 in
theorem nam55 : Nam 55 (fun c => c.f8.length) (fun c i => (c.f8.getD i z55).f0) := by
  intro w B V c i h hi
  have hi : i < c.f8.length := hi
  have q := h.cell16
  obtain ⟨t, ad, A3, c3, A4, c4, ht, e, HA, _⟩ := isr_at h.cf.i i hi
  rw [e] at q
  have g := HA.g0
  show Calls _ _ _ _ fun e w' => e = .returned (.string (c.f8.getD i z55).f0) ∧ w' = w
  rw [ht]
  clear h e ht HA
  generalize t.f0 = s at *
  go_enter Tryd.func55, Tryd.ntmps55
  go_wp2_with fail
  go_ret
  exact ⟨rfl, rfl⟩
set_option maxRecDepth 1000000 in
set_option maxHeartbeats 4000000 in
theorem cnt59 : Cnt 59 (fun c => c.f9.length) := by
  intro w B V c h
  have q := h.cell17
  clear h
  go_enter Tryd.func59, Tryd.ntmps59
  go_wp2_with fail
  go_ret
  exact ⟨rfl, rfl⟩
set_option maxRecDepth 1000000 in
set_option maxHeartbeats 4000000 in
theorem nam60 : Nam 60 (fun c => c.f9.length) (fun c i => (c.f9.getD i z91).f0) := by
  intro w B V c i h hi
  have hi : i < c.f9.length := hi
  have q := h.cell17
  obtain ⟨t, ad, ht, e, HA⟩ := msg_at h.cf.g i hi
  rw [e] at q
  have g := HA.g0
  show Calls _ _ _ _ fun e w' => e = .returned (.string (c.f9.getD i z91).f0) ∧ w' = w
  rw [ht]
  clear h e ht HA
  generalize t.f0 = s at *
  go_enter Tryd.func60, Tryd.ntmps60
  go_wp2_with fail
  go_ret
  exact ⟨rfl, rfl⟩
def eEvt (c : S33) (i : Nat) : Int := if (c.f5.getD i z53).f1 != 0 then 0 else 74
set_option maxRecDepth 1000000 in
set_option maxHeartbeats 4000000 in
theorem evt_chk : Chk 37 (fun c => c.f5.length) (fun _ _ => True) eEvt := by
  intro w B V c i h hi _
  obtain ⟨t, ad, ht, e, HA⟩ := evt_at h.cf.e i hi
  have q := h.cell13
  rw [e] at q
  have g1 := HA.g1
  have HE := Aside0.mk (show eEvt c i = if t.f1 != 0 then 0 else 74 from by unfold eEvt; rw [ht])
  clear h e ht HA
  generalize t.f1 = m at *
  go_enter Tryd.func37, Tryd.ntmps37
  go_wp2_with fail
  all_goals
    refine (unless_calls _ _ _).mono ?_
    rintro e w' ⟨rfl, rfl⟩
    go_wp2_with fail
    all_goals
      go_ret
      refine ⟨?_, Below.refl _ _⟩
      rw [HE.out]
      refine congrArg (fun z => Ending.returned (Value.int .i64 z)) ?_
      simp [*]
      try omega
end Go.Proofs.YthckjbmgeidkgaaDoor.XA
