/- OctetHexes: the walk through the statement's own code. -/
import Derived.Test.YtbhlalnpefijkaaHWrites
import Derived.Test.YtbhlalnpefijkaaXHx2
namespace Go.Proofs.Ytbhlalnpefijkaa.XC
set_option linter.unusedVariables false
set_option linter.unusedSimpArgs false
open Go.RowKit Go.Proofs.YtbhlalnpefijkaaW.PrintWords Go.Proofs.YtbhlalnpefijkaaW.PrintLast Go.Proofs.YtbhlalnpefijkaaW.PrintMore

set_option maxRecDepth 1000000 in
set_option maxHeartbeats 2000000 in
theorem hexes_walk (w : World) (A0 : Option Addr) (c0 : Nat) (b : List Int) (hr : (Kd.int .u8).C w A0 b.length b) (hc : b.length ≤ c0) (s : ByteArray) (xl : List Int) (e : Int) (h : ByteArray) (ku kv kh kz ks : Nat) (q : Bool) (yh : ByteArray)
    (hu : XH.octet_Unhex.f ku s = some (xl, e)) (hur : XH.tappetref01_Unhex.f kv s = some (xl, e)) (hh : XH.octet_Hex.f kh b = some h) (hhr : XH.tappetref01_Hex.f kh b = some h) (hz : XH.octet_Unhex.f kz h = some (b, 0)) (hs1 : tappetref01_Same.f ks xl xl = some true) (hs2 : tappetref01_Same.f ks b b = some true)
    (hy : XH.tappetref01_Hex.f kh xl = some yh) (hq : e = 0 → yh = s) (hbl : b.length ≤ 1048576) (hxl : xl.length ≤ 1048576) :
    Calls Try.prog 9 #[.slice A0 b.length c0, .string s] w fun e w' => e = .returned (.bool true) ∧ Below w.heap.size w w' := by
  go_enter Try.func9, Try.ntmps9
  go_wp2_with fail
  refine (XH.octet_Unhex.calls ku s xl e _ hu).mono ?_
  rintro e_ w1 ⟨v1, rfl, R1, B1⟩
  obtain ⟨A1, c1, rfl⟩ := Kd.R_slice R1
  have H1 := Aside0.mk R1; have HB1 := Aside0.mk B1; clear R1 B1
  go_wp2_with fail
  refine (XH.tappetref01_Unhex.calls kv s xl e _ hur).mono ?_
  rintro e_ w2 ⟨v2, rfl, R2, B2⟩
  obtain ⟨A2, c2, rfl⟩ := Kd.R_slice R2
  have H2 := Aside0.mk R2; have HB2 := Aside0.mk B2; clear R2 B2
  go_wp2_with fail
  have B02 := HB1.out.trans (HB2.out.mono HB1.out.size)
  refine (XH.octet_Hex.calls kh A0 c0 b h _ (Kd.C_below hr B02) hc hh).mono ?_
  rintro e_ w3 ⟨rfl, B3⟩
  have HB3 := Aside0.mk B3; clear B3
  go_wp2_with fail
  refine (XH.octet_Unhex.calls kz h b 0 _ hz).mono ?_
  rintro e_ w4 ⟨v4, rfl, R4, B4⟩
  obtain ⟨A4, c4, rfl⟩ := Kd.R_slice R4
  have H4 := Aside0.mk R4; have HB4 := Aside0.mk B4; clear R4 B4
  have G1 := Aside0.mk (rng H1.out); have G2 := Aside0.mk (rng H2.out); have G4 := Aside0.mk (rng H4.out)
  have B34 := HB4.out
  have B24 := HB3.out.trans (B34.mono HB3.out.size)
  have B14 := HB2.out.trans (B24.mono HB2.out.size)
  have HX1 := Aside0.mk (Kd.R_below H1.out B14); have HX2 := Aside0.mk (Kd.R_below H2.out B24); have HX4 := H4
  have HBT := Aside0.mk (HB1.out.trans (B14.mono HB1.out.size))
  have HS := Aside0.mk (show w.heap.size ≤ w1.heap.size ∧ w1.heap.size ≤ w2.heap.size ∧ w2.heap.size ≤ w3.heap.size ∧ w3.heap.size ≤ w4.heap.size from ⟨HB1.out.size, HB2.out.size, HB3.out.size, HB4.out.size⟩)
  clear B34 B24 B14 H1 H2 H4 HB1 HB2 HB3 HB4 B02
  obtain ⟨_, hc1, C1⟩ := Kd.R_reads' HX1.out
  obtain ⟨_, hc2, C2⟩ := Kd.R_reads' HX2.out
  obtain ⟨_, hc4, C4⟩ := Kd.R_reads' HX4.out
  have C0 := Kd.C_below hr HBT.out
  go_wp2_with fail
  refine (tappetref01_Same.calls ks A1 c1 xl A2 c2 xl true _ C1 hc1 C2 hc2 hs1).mono ?_
  rintro e_ w5 ⟨rfl, ⟨n5, rfl⟩⟩
  clear C1 C2
  go_wp2_with fail
  refine (tappetref01_Same.calls ks A4 c4 b A0 c0 b true _ (Kd.C_below C4 (below_drewN (Below.refl _ _) _)) hc4 (Kd.C_below C0 (below_drewN (Below.refl _ _) _)) hc hs2).mono ?_
  rintro e_ w6 ⟨rfl, ⟨n6, rfl⟩⟩
  clear C4 C0
  have HB6 := Aside0.mk (below_drewN (below_drewN (Below.refl w4.heap.size w4) n5) n6)
  generalize hW6 : World.drewN (World.drewN w4 n5) n6 = w6 at *
  clear hW6
  go_wp2_with fail
  refine (XH.octet_Unhex.calls ku s xl e _ hu).mono ?_
  rintro e_ w7 ⟨v7, rfl, R7, B7⟩
  obtain ⟨A7, c7, rfl⟩ := Kd.R_slice R7
  have H7 := Aside0.mk R7; have HB7 := Aside0.mk B7; clear R7 B7
  have G7 := Aside0.mk (rng H7.out)
  have B67 := HB7.out
  have B47 := HB6.out.trans (B67.mono HB6.out.size)
  have HB07 := Aside0.mk (HBT.out.trans (B47.mono HBT.out.size))
  have hs07 := HBT.out.size
  have hs47 := B47.size
  have hs46 := HB6.out.size
  have hs67 := HB7.out.size
  obtain ⟨z1, z2, z3, z4⟩ := HS.out
  have hmv : ∀ (o : Obj), Below w7.heap.size w7 (w7.alloc o) := fun o => (Below.refl _ _).alloc (Nat.le_refl _) o
  have U1 := us_of (Kd.R_below (Kd.R_below HX1.out B47) (hmv (.cells #[.slice A1 xl.length c1, .slice A7 xl.length c7, .slice A4 b.length c4] 23))) (Nat.le_refl _)
  have U4 := us_of (b := w.heap.size) (Kd.R_below (Kd.R_below HX4.out B47) (hmv (.cells #[.slice A1 xl.length c1, .slice A7 xl.length c7, .slice A4 b.length c4] 23))) (by omega)
  have U7 := us_of (b := w.heap.size) (Kd.R_below H7.out (hmv (.cells #[.slice A1 xl.length c1, .slice A7 xl.length c7, .slice A4 b.length c4] 23))) (by omega)
  have HROWS : Rows (w7.alloc (.cells #[.slice A1 xl.length c1, .slice A7 xl.length c7, .slice A4 b.length c4] 23)) w.heap.size [.slice A1 xl.length c1, .slice A7 xl.length c7, .slice A4 b.length c4] (fun i => if i < 2 then xl else b) := by
    intro i v hv
    match i, hv with
    | 0, hv => simp at hv; subst hv; exact U1
    | 1, hv => simp at hv; subst hv; exact U7
    | 2, hv => simp at hv; subst hv; exact U4
    | i + 3, hv => simp at hv
  have HAP : Apart [.slice A1 xl.length c1, .slice A7 xl.length c7, .slice A4 b.length c4] w7.heap.size := by
    refine apart_of _ _ (fun i => match i with | 0 => (w.heap.size, w1.heap.size) | 1 => (w6.heap.size, w7.heap.size) | _ => (w3.heap.size, w4.heap.size)) ?_ ?_
    · intro i v hv k hk
      match i, hv with
      | 0, hv => simp at hv; subst hv; have := G1.out k hk; exact ⟨this.1, this.2, by show w1.heap.size ≤ w7.heap.size; omega⟩
      | 1, hv => simp at hv; subst hv; have := G7.out k hk; exact ⟨this.1, this.2, Nat.le_refl _⟩
      | 2, hv => simp at hv; subst hv; have := G4.out k hk; exact ⟨this.1, this.2, by show w4.heap.size ≤ w7.heap.size; omega⟩
      | i + 3, hv => simp at hv
    · intro i j hi hj hij
      simp at hi hj
      rcases (by omega : i = 0 ∨ i = 1 ∨ i = 2) with rfl | rfl | rfl <;> rcases (by omega : j = 0 ∨ j = 1 ∨ j = 2) with rfl | rfl | rfl <;> simp only [] <;> first | exact absurd rfl hij | omega
  have HLIST : ListAt (w7.alloc (.cells #[.slice A1 xl.length c1, .slice A7 xl.length c7, .slice A4 b.length c4] 23)) (some ⟨w7.heap.size, 0, none⟩) w7.heap.size [.slice A1 xl.length c1, .slice A7 xl.length c7, .slice A4 b.length c4] := by
    intro i v hv
    have e : (Addr.add ⟨w7.heap.size, 0, none⟩ i) = ⟨w7.heap.size, i, none⟩ := by unfold Addr.add; split <;> simp_all
    refine ⟨_, rfl, by rw [e], ?_⟩
    rw [e, World.cell?_alloc_new]
    simpa using hv
  have HOWN := Aside0.mk (own_keeps (w7.alloc (.cells #[.slice A1 xl.length c1, .slice A7 xl.length c7, .slice A4 b.length c4] 23)) w.heap.size w7.heap.size 3 (some ⟨w7.heap.size, 0, none⟩) _ _ HROWS HAP HLIST (by rw [World.size_alloc]; omega) (by simp) (by intro i; show (if i < 2 then xl else b).length ≤ _; split <;> omega))
  have U2 := Aside0.mk (us_of (b := w.heap.size) (Kd.R_below (Kd.R_below HX2.out B47) (hmv (.cells #[.slice A1 xl.length c1, .slice A7 xl.length c7, .slice A4 b.length c4] 23))) (by omega))
  have HOF := Aside0.mk (show ∀ k, (Value.slice A2 xl.length c2).ownBlock = some k → ¬ Of [.slice A1 xl.length c1, .slice A7 xl.length c7, .slice A4 b.length c4] k from by
    rintro k hk ⟨v, hv, hvk⟩
    have h2 := G2.out k hk
    simp only [List.mem_cons, List.not_mem_nil, or_false] at hv
    rcases hv with rfl | rfl | rfl
    · have := G1.out k hvk; omega
    · have := G7.out k hvk; omega
    · have := G4.out k hvk; omega)
  clear U1 U4 U7 HROWS HAP HLIST hmv B67 B47 hs07 hs47 hs46 hs67 z1 z2 z3 z4
  go_wp2_with fail
  refine HOWN.out.mono ?_
  rintro e_ w9 ⟨rfl, B9, K9⟩
  have UY := Aside0.mk (US.move U2.out (fun k hk => K9.2 k (US.lt U2.out k hk) (HOF.out k hk)))
  have HB9 := Aside0.mk ((HB07.out.alloc HB07.out.size (.cells #[.slice A1 xl.length c1, .slice A7 xl.length c7, .slice A4 b.length c4] 23)).trans B9)
  clear B9
  go_wp2_with fail
  refine (XH.octet_Hex.calls kh A0 c0 b h _ (Kd.C_below hr HB9.out) hc hh).mono ?_
  rintro e_ w10 ⟨rfl, B10⟩
  have HB10 := Aside0.mk (HB9.out.trans (B10.mono HB9.out.size))
  have B10' := B10
  clear B10
  go_wp2_with fail
  refine (XH.tappetref01_Hex.calls kh A0 c0 b h _ (Kd.C_below hr HB10.out) hc hhr).mono ?_
  rintro e_ w11 ⟨rfl, B11⟩
  have HB11 := Aside0.mk (HB10.out.trans (B11.mono HB10.out.size))
  have B11' := B11
  clear B11
  have B911 : Below w9.heap.size w9 w11 := B10'.trans (B11'.mono B10'.size)
  obtain ⟨_, hcy, CY⟩ := Kd.R_reads' (Kd.R_of_own (enc := Value.int .u8) (h1 := fun _ => rfl) (ok := fun _ => True) (UY.out.below B911) (fun _ _ => trivial))
  have hhh : (h.toList == h.toList) = true := by simp
  by_cases he : e = 0
  · subst he
    obtain rfl := hq rfl
    go_wp2_with fail
    refine (XH.tappetref01_Hex.calls kh A2 c2 xl yh _ CY hcy hy).mono ?_
    rintro e_ w13 ⟨rfl, B13⟩
    have HB13 := Aside0.mk (HB11.out.trans (B13.mono HB11.out.size))
    clear B13
    have hyy : (yh.toList == yh.toList) = true := by simp
    go_wp2_with fail
    refine (tappetlaw01_heads.calls true _ rfl).mono ?_
    rintro e_ w12 ⟨rfl, B12⟩
    have HB12 := Aside0.mk (HB13.out.trans (B12.mono HB13.out.size))
    go_wp2_with fail
    go_ret
    exact ⟨rfl, HB12.out⟩
  · have he2 : (e != 0) = true := by simpa using he
    go_wp2_with fail
    refine (tappetlaw01_heads.calls true _ rfl).mono ?_
    rintro e_ w12 ⟨rfl, B12⟩
    have HB12 := Aside0.mk (HB11.out.trans (B12.mono HB11.out.size))
    go_wp2_with fail
    go_ret
    exact ⟨rfl, HB12.out⟩

end Go.Proofs.Ytbhlalnpefijkaa.XC
