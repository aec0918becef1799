/- OctetSums: the walk through the statement's own code. -/
import Derived.Test.YtbhlalnpefijkaaHBurst
import Derived.Test.YtbhlalnpefijkaaHOpen
namespace Go.Proofs.Ytbhlalnpefijkaa.XC
set_option linter.unusedVariables false
set_option linter.unusedSimpArgs false
open Go.RowKit Go.Proofs.YtbhlalnpefijkaaW.PrintWords Go.Proofs.YtbhlalnpefijkaaW.PrintLast Go.Proofs.YtbhlalnpefijkaaW.PrintMore

def okB (x : List Int) : Prop := ∀ y ∈ x, (Lit.int .u8 y).wf = true
def szB (x : List Int) : Prop := x.length * 1 ≤ reachBytes ∧ ∀ y ∈ x, True
def wtB (x : List Int) : Nat := (x.map fun _ => 1).sum + 1
theorem opn_bytes : Open.Opn Try.prog 23 (Kd.slice 5 (Kd.int .u8)) okB szB wtB :=
  Open.Opn.slice 5 (Open.Opn.int (k := .u8) (P := Try.prog) (t := 5) (by kernel_rfl) (by kernel_rfl)) Try.underlying23 (by kernel_rfl)
def okP (x : List (List Int)) : Prop := ∀ y ∈ x, okB y
def szP (x : List (List Int)) : Prop := x.length * 24 ≤ reachBytes ∧ ∀ y ∈ x, szB y
def wtP (x : List (List Int)) : Nat := (x.map wtB).sum + 1
theorem opn_parts : Open.Opn Try.prog 33 (Kd.slice 23 (Kd.slice 5 (Kd.int .u8))) okP szP wtP := Open.Opn.slice 23 opn_bytes Try.underlying33 (by kernel_rfl)
theorem flat_take_succ (ls : List (List Int)) (k : Nat) (h : k < ls.length) : (ls.take k).flatten ++ rd_L1 ls (k : Int) = (ls.take (k + 1)).flatten := by
  rw [List.take_succ_eq_append_getElem h, List.flatten_append]
  unfold rd_L1
  simp [List.getD_eq_getElem?_getD, List.getElem?_eq_getElem h]
theorem flat_take_le (ls : List (List Int)) (k : Nat) : (ls.take k).flatten.length ≤ ls.flatten.length := by
  have h : ls.flatten = (ls.take k).flatten ++ (ls.drop k).flatten := by rw [← List.flatten_append, List.take_append_drop]
  rw [h, List.length_append]
  omega
set_option maxRecDepth 1000000 in
set_option maxHeartbeats 1000000 in
theorem sums_walk (w : World) (A0 : Option Addr) (c0 : Nat) (ls : List (List Int)) (hr : (Kd.slice 5 (Kd.int .u8)).C w A0 ls.length ls) (hc : ls.length ≤ c0) (z : ls.flatten.length ≤ 1048576) (z2 : ls.length ≤ 1048576)
    (k1 k2 k3 k4 : Nat) (x : Int) (h1 : octet_Crc.f k1 ls = some x) (h2 : tappetref01_Crc.f k2 ls.flatten = some x) (h3 : octet_Crc.f k3 [ls.flatten] = some x) (h4 : octet_Crc.f k4 [] = some 65535) :
    Calls Try.prog 4 #[.slice A0 ls.length c0] w fun e w' => e = .returned (.bool true) ∧ Below w.heap.size w w' := by
  have HZ := Aside0.mk z
  have HR0 := Aside0.mk hr
  clear z hr
  go_enter Try.func4, Try.ntmps4
  go_wp2_with fail
  go_loopw [3, 4] (fun v i wr => ∃ k : Nat, k ≤ ls.length ∧ i = .int .i64 k ∧ Aside0 ((Kd.int .u8).R 5 wr w.heap.size (fun _ => True) v (ls.take k).flatten) ∧ Aside0 (Below w.heap.size w wr)) (fun _ i _ => ls.length - (intOf i).toNat)
  case atStart => exact ⟨0, by omega, rfl, Aside0.mk (Kd.R_nil _ _ _ _ _), Aside0.mk (Below.refl _ _)⟩
  case round =>
    obtain ⟨k, hk, rfl, HR, HB⟩ := hrel
    by_cases hlt : k < ls.length
    · have hd : decide ((k : Int) < (ls.length : Int)) = true := decide_eq_true (by omega)
      have hC := Kd.C_below HR0.out HB.out
      obtain ⟨ad, A, c, e1, hx, hl, hi⟩ := at_L1 hC (k : Int) (by omega) (by omega)
      cases e1
      rw [Int.toNat_natCast] at hx
      have HI := Aside0.mk hi
      have HL := Aside0.mk hl
      have HLn := Aside0.mk (Nat.le_trans (flat_take_le ls (k + 1)) HZ.out)
      have HE := Aside0.mk (flat_take_succ ls k hlt)
      clear hi hl hC
      go_wp2_with ((with_reducible refine gate_builtin (b := .append) (xs := #[.tmp 11, .tmp 15]) rfl ?_); at_builtin; refine Kd.R_append_row (w0 := w) (Value.int .u8) (0 : Int) w.heap.size rfl _ _ 23 5 (.int .u8 0) 1 rfl (by kernel_rfl) rd_info5 rfl (by omega) _ (ls.take k).flatten (rd_L1 ls (k : Int)) A (rd_L1 ls (k : Int)).length c (fun _ => True) rfl rfl (fun _ _ => trivial) HR.out HI.out HB.out HB.out.size ?hl ?_; (case hl => have := HLn.out; rw [← HE.out, List.length_append] at this; omega); intro v1 w1 HRa HBa HG HA; rw [HE.out] at HRa; have H2 := Aside0.mk HRa; have HB2 := Aside0.mk HBa; clear HRa HBa HG HA)
      go_roundw
      case rel => exact ⟨k + 1, by omega, by go_num, H2, HB2⟩
      case measure => simp [intOf]; omega
    · have hd : decide ((k : Int) < (ls.length : Int)) = false := decide_eq_false (by omega)
      have hfin : (ls.take k).flatten = ls.flatten := by rw [List.take_of_length_le (by omega)]
      rw [hfin] at HR
      clear hfin
      clear HZ
      generalize ls.flatten = fl at *
      have HC0 := Aside0.mk (Kd.C_below HR0.out HB.out)
      obtain ⟨Aa, ca, ea, hca, Ca⟩ := Kd.R_reads HR.out
      subst ea
      have Hca := Aside0.mk hca
      have HCa := Aside0.mk Ca
      clear hca Ca
      go_wp2_with fail
      refine (octet_Crc.calls k1 A0 c0 ls x _ HC0.out hc h1).mono ?_
      rintro e w1 ⟨rfl, ⟨n1, rfl⟩⟩
      go_wp2_with fail
      refine (tappetref01_Crc.calls k2 Aa ca fl x _ (Kd.C_below HCa.out (below_drewN (Below.refl _ _) _)) Hca.out h2).mono ?_
      rintro e w2 ⟨rfl, ⟨n2, rfl⟩⟩
      have HB2 := Aside0.mk (below_drewN (below_drewN HB.out n1) n2)
      have HCb := Aside0.mk (Kd.C_below HCa.out (below_drewN (below_drewN (Below.refl _ _) n1) n2))
      generalize hWX : World.drewN (World.drewN wr n1) n2 = WX at *
      clear hWX HCa HB
      have hxx : (x == x) = true := by simp
      go_wp2_with fail
      refine (octet_Crc.calls k3 (some ⟨WX.heap.size, 0, none⟩) 1 [fl] x _ (row_of WX Aa ca fl HCb.out Hca.out _ _) (by simp) h3).mono ?_
      rintro e w3 ⟨rfl, ⟨n3, rfl⟩⟩
      have HB3 := Aside0.mk (below_drewN (HB2.out.alloc HB2.out.size (.cells #[.slice Aa fl.length ca] 23)) n3)
      have HCc := Aside0.mk (Kd.C_below HCb.out (below_drewN ((Below.refl _ _).alloc (Nat.le_refl _) (.cells #[.slice Aa fl.length ca] 23)) n3))
      generalize hWY : World.drewN (WX.alloc (.cells #[.slice Aa fl.length ca] 23)) n3 = WY at *
      clear hWY HCb HB2
      go_wp2_with fail
      refine (tappetref01_Crc.calls k2 Aa ca fl x _ HCc.out Hca.out h2).mono ?_
      rintro e w4 ⟨rfl, ⟨n4, rfl⟩⟩
      have HB4 := Aside0.mk (below_drewN HB3.out n4)
      generalize hWZ : World.drewN WY n4 = WZ at *
      clear hWZ HB3
      go_wp2_with fail
      refine (octet_Crc.calls k4 none 0 [] 65535 _ (Kd.C_nil _ _) (Nat.le_refl _) h4).mono ?_
      rintro e w5 ⟨rfl, ⟨n5, rfl⟩⟩
      have HB5 := Aside0.mk (below_drewN HB4.out n5)
      generalize hWV : World.drewN WZ n5 = WV at *
      clear hWV HB4
      go_wp2_with fail
      refine (tappetlaw01_heads.calls true _ rfl).mono ?_
      rintro e w9 ⟨rfl, B9⟩
      have HB6 := Aside0.mk (HB5.out.trans (B9.mono HB5.out.size))
      go_wp2_with fail
      go_ret
      exact ⟨rfl, HB6.out⟩
end Go.Proofs.Ytbhlalnpefijkaa.XC
