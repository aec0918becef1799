/- OctetWrites: the walk through the statement's own code. -/
import Derived.Test.YtbhlalnpefijkaaHOwn
namespace Go.Proofs.Ytbhlalnpefijkaa.XC
set_option linter.unusedVariables false
set_option linter.unusedSimpArgs false
open Go.RowKit Go.Proofs.YtbhlalnpefijkaaW.PrintWords Go.Proofs.YtbhlalnpefijkaaW.PrintLast Go.Proofs.YtbhlalnpefijkaaW.PrintMore

theorem us_of {w : World} {b b' : Nat} {ok : Nat → Prop} {v : Value} {xs : List Int} (h : (Kd.int .u8).R 5 w b' ok v xs) (hb : b ≤ b') : US w b v xs := Kd.own_of_R (enc := Value.int .u8) (Kd.R_lower h hb)
theorem us_base {w : World} {b : Nat} {v : Value} {xs : List Int} (h : US w b v xs) (k : Nat) (hk : v.ownBlock = some k) : b ≤ k := own_base h k hk

/-- rows that lie in ranges of blocks of their own -/
theorem apart_of (vs : List Value) (g : Nat) (rs : Nat → Nat × Nat) (h : ∀ (i : Nat) v, vs[i]? = some v → ∀ k, v.ownBlock = some k → (rs i).1 ≤ k ∧ k < (rs i).2 ∧ (rs i).2 ≤ g) (hd : ∀ i j, i < vs.length → j < vs.length → i ≠ j → (rs i).2 ≤ (rs j).1 ∨ (rs j).2 ≤ (rs i).1) : Apart vs g where
  own := by
    intro i j v u hv hu hij
    rcases hk : v.ownBlock with _ | k
    · exact .inl rfl
    · right
      intro e
      have h1 := h i v hv k hk
      have h2 := h j u hu k e.symm
      have hi : i < vs.length := (List.getElem?_eq_some_iff.mp hv).1
      have hj : j < vs.length := (List.getElem?_eq_some_iff.mp hu).1
      have := hd i j hi hj hij
      omega
  list := by
    intro i v hv e
    have := h i v hv g e
    omega
theorem rng {w : World} {b : Nat} {ok : Nat → Prop} {v : Value} {xs : List Int} (h : (Kd.int .u8).R 5 w b ok v xs) (k : Nat) (hk : v.ownBlock = some k) : b ≤ k ∧ k < w.heap.size :=
  ⟨us_base (us_of h (Nat.le_refl _)) k hk, (us_of h (Nat.le_refl _)).lt k hk⟩

set_option maxRecDepth 1000000 in
set_option maxHeartbeats 2000000 in
theorem writes_walk (w : World) (a0 a1 : Int) (s : ByteArray) (nl tl : List Int) (ne te : Int) (kn kr kt kp ks : Nat) (hn : octet_Number.f kn a0 a1 = some (nl, ne)) (hnr : tappetref01_Number.f kr a0 a1 = some (nl, ne)) (ht : octet_Text.f s = some (tl, te)) (htr : tappetref01_Text.f kt s = some (tl, te)) (hp : tappetref01_Plain.f kp s = some (plainB s)) (hs1 : tappetref01_Same.f ks nl nl = some true) (hs2 : tappetref01_Same.f ks tl tl = some true) (hnl : nl.length ≤ 1000) (htl : tl.length ≤ 1000) :
    Calls Try.prog 3 #[.int .u64 a0, .int .i64 a1, .string s] w fun e w' => e = .returned (.bool true) ∧ Below w.heap.size w w' := by
  go_enter Try.func3, Try.ntmps3
  go_wp2_with fail
  refine (octet_Number.calls kn a0 a1 nl ne _ hn).mono ?_
  rintro e w1 ⟨v1, rfl, R1, B1⟩
  have H1 := Aside0.mk R1; have HB1 := Aside0.mk B1; clear R1 B1
  go_wp2_with fail
  refine (tappetref01_Number.calls kr a0 a1 nl ne _ hnr).mono ?_
  rintro e w2 ⟨v2, rfl, R2, B2⟩
  have H2 := Aside0.mk R2; have HB2 := Aside0.mk B2; clear R2 B2
  go_wp2_with fail
  refine (octet_Text.calls s tl te _ ht).mono ?_
  rintro e w3 ⟨v3, rfl, R3, B3⟩
  have H3 := Aside0.mk R3; have HB3 := Aside0.mk B3; clear R3 B3
  go_wp2_with fail
  refine (tappetref01_Text.calls kt s tl te _ htr).mono ?_
  rintro e w4 ⟨v4, rfl, R4, B4⟩
  have H4 := Aside0.mk R4; have HB4 := Aside0.mk B4; clear R4 B4
  have G1 := Aside0.mk (rng H1.out); have G3 := Aside0.mk (rng H3.out)
  have HS := Aside0.mk (show w.heap.size ≤ w1.heap.size ∧ w1.heap.size ≤ w2.heap.size ∧ w2.heap.size ≤ w3.heap.size ∧ w3.heap.size ≤ w4.heap.size from ⟨HB1.out.size, HB2.out.size, HB3.out.size, HB4.out.size⟩)
  have B34 := HB4.out
  have B24 := HB3.out.trans (B34.mono HB3.out.size)
  have B14 := HB2.out.trans (B24.mono HB2.out.size)
  have HX1 := Aside0.mk (Kd.R_below H1.out B14); have HX2 := Aside0.mk (Kd.R_below H2.out B24); have HX3 := Aside0.mk (Kd.R_below H3.out B34); have HX4 := H4
  have HBT := Aside0.mk (HB1.out.trans (B14.mono HB1.out.size))
  clear B34 B24 B14 H1 H2 H3 H4 HB1 HB2 HB3 HB4
  obtain ⟨A1, c1, e1, hc1, C1⟩ := Kd.R_reads HX1.out
  obtain ⟨A2, c2, e2, hc2, C2⟩ := Kd.R_reads HX2.out
  obtain ⟨A3, c3, e3, hc3, C3⟩ := Kd.R_reads HX3.out
  obtain ⟨A4, c4, e4, hc4, C4⟩ := Kd.R_reads HX4.out
  subst e1 e2 e3 e4
  go_wp2_with fail
  refine (tappetref01_Same.calls ks A1 c1 nl A2 c2 nl true _ C1 (by simpa using hc1) C2 (by simpa using hc2) hs1).mono ?_
  rintro e w5 ⟨rfl, ⟨n5, rfl⟩⟩
  clear C1 C2
  go_wp2_with fail
  refine (tappetref01_Same.calls ks A3 c3 tl A4 c4 tl true _ (Kd.C_below C3 (below_drewN (Below.refl _ _) _)) (by simpa using hc3) (Kd.C_below C4 (below_drewN (Below.refl _ _) _)) (by simpa using hc4) hs2).mono ?_
  rintro e w6 ⟨rfl, ⟨n6, rfl⟩⟩
  clear C3 C4
  have HB6 := Aside0.mk (below_drewN (below_drewN (Below.refl w4.heap.size w4) n5) n6)
  generalize hW6 : World.drewN (World.drewN w4 n5) n6 = w6 at *
  clear hW6
  go_wp2_with fail
  refine (octet_Number.calls kn a0 a1 nl ne _ hn).mono ?_
  rintro e w7 ⟨v7, rfl, R7, B7⟩
  obtain ⟨A7, c7, rfl⟩ := Kd.R_slice R7
  have H7 := Aside0.mk R7; have HB7 := Aside0.mk B7; clear R7 B7
  go_wp2_with fail
  refine (octet_Text.calls s tl te _ ht).mono ?_
  rintro e w8 ⟨v8, rfl, R8, B8⟩
  obtain ⟨A8, c8, rfl⟩ := Kd.R_slice R8
  have H8 := Aside0.mk R8; have HB8 := Aside0.mk B8; clear R8 B8
  have G7 := Aside0.mk (rng H7.out); have G8 := Aside0.mk (rng H8.out)
  have B78 := HB8.out
  have B68 := HB7.out.trans (B78.mono HB7.out.size)
  have B48 := HB6.out.trans (B68.mono HB6.out.size)
  have HB08 := Aside0.mk (HBT.out.trans (B48.mono HBT.out.size))
  have hs08 := HBT.out.size
  have hs48 := B48.size
  have hs68 := B68.size
  have hs46 := HB6.out.size
  have hs67 := HB7.out.size
  have hs78 := HB8.out.size
  obtain ⟨z1, z2, z3, z4⟩ := HS.out
  have hmv : ∀ (o : Obj), Below w8.heap.size w8 (w8.alloc o) := fun o => (Below.refl _ _).alloc (Nat.le_refl _) o
  have U1 := us_of (Kd.R_below (Kd.R_below HX1.out B48) (hmv (.cells #[.slice A1 nl.length c1, .slice A7 nl.length c7, .slice A3 tl.length c3, .slice A8 tl.length c8] 23))) (Nat.le_refl _)
  have U3 := us_of (b := w.heap.size) (Kd.R_below (Kd.R_below HX3.out B48) (hmv (.cells #[.slice A1 nl.length c1, .slice A7 nl.length c7, .slice A3 tl.length c3, .slice A8 tl.length c8] 23))) (by omega)
  have U7 := us_of (b := w.heap.size) (Kd.R_below (Kd.R_below H7.out B78) (hmv (.cells #[.slice A1 nl.length c1, .slice A7 nl.length c7, .slice A3 tl.length c3, .slice A8 tl.length c8] 23))) (by omega)
  have U8 := us_of (b := w.heap.size) (Kd.R_below H8.out (hmv (.cells #[.slice A1 nl.length c1, .slice A7 nl.length c7, .slice A3 tl.length c3, .slice A8 tl.length c8] 23))) (by omega)
  have HROWS : Rows (w8.alloc (.cells #[.slice A1 nl.length c1, .slice A7 nl.length c7, .slice A3 tl.length c3, .slice A8 tl.length c8] 23)) w.heap.size [.slice A1 nl.length c1, .slice A7 nl.length c7, .slice A3 tl.length c3, .slice A8 tl.length c8] (fun i => if i < 2 then nl else tl) := by
    intro i v hv
    match i, hv with
    | 0, hv => simp at hv; subst hv; exact U1
    | 1, hv => simp at hv; subst hv; exact U7
    | 2, hv => simp at hv; subst hv; exact U3
    | 3, hv => simp at hv; subst hv; exact U8
    | i + 4, hv => simp at hv
  have HAP : Apart [.slice A1 nl.length c1, .slice A7 nl.length c7, .slice A3 tl.length c3, .slice A8 tl.length c8] w8.heap.size := by
    refine apart_of _ _ (fun i => match i with | 0 => (w.heap.size, w1.heap.size) | 1 => (w6.heap.size, w7.heap.size) | 2 => (w2.heap.size, w3.heap.size) | _ => (w7.heap.size, w8.heap.size)) ?_ ?_
    · intro i v hv k hk
      match i, hv with
      | 0, hv => simp at hv; subst hv; have := G1.out k hk; exact ⟨this.1, this.2, by show w1.heap.size ≤ w8.heap.size; omega⟩
      | 1, hv => simp at hv; subst hv; have := G7.out k hk; exact ⟨this.1, this.2, by show w7.heap.size ≤ w8.heap.size; omega⟩
      | 2, hv => simp at hv; subst hv; have := G3.out k hk; exact ⟨this.1, this.2, by show w3.heap.size ≤ w8.heap.size; omega⟩
      | 3, hv => simp at hv; subst hv; have := G8.out k hk; exact ⟨this.1, this.2, Nat.le_refl _⟩
      | i + 4, hv => simp at hv
    · intro i j hi hj hij
      simp at hi hj
      rcases (by omega : i = 0 ∨ i = 1 ∨ i = 2 ∨ i = 3) with rfl | rfl | rfl | rfl <;> rcases (by omega : j = 0 ∨ j = 1 ∨ j = 2 ∨ j = 3) with rfl | rfl | rfl | rfl <;> simp only [] <;> first | exact absurd rfl hij | omega
  have HLIST : ListAt (w8.alloc (.cells #[.slice A1 nl.length c1, .slice A7 nl.length c7, .slice A3 tl.length c3, .slice A8 tl.length c8] 23)) (some ⟨w8.heap.size, 0, none⟩) w8.heap.size [.slice A1 nl.length c1, .slice A7 nl.length c7, .slice A3 tl.length c3, .slice A8 tl.length c8] := by
    intro i v hv
    have e : (Addr.add ⟨w8.heap.size, 0, none⟩ i) = ⟨w8.heap.size, i, none⟩ := by unfold Addr.add; split <;> simp_all
    refine ⟨_, rfl, by rw [e], ?_⟩
    rw [e, World.cell?_alloc_new]
    simpa using hv
  have HOWN := Aside0.mk (own_calls (w8.alloc (.cells #[.slice A1 nl.length c1, .slice A7 nl.length c7, .slice A3 tl.length c3, .slice A8 tl.length c8] 23)) w.heap.size w8.heap.size 4 (some ⟨w8.heap.size, 0, none⟩) _ _ HROWS HAP HLIST (by rw [World.size_alloc]; omega) (by simp) (by intro i; show (if i < 2 then nl else tl).length ≤ _; split <;> omega))
  clear U1 U3 U7 U8 HROWS HAP HLIST hmv B78 B68 B48 hs08 hs48 hs68 hs46 hs67 hs78 z1 z2 z3 z4
  go_wp2_with fail
  refine HOWN.out.mono ?_
  rintro e w9 ⟨rfl, B9⟩
  have HB9 := Aside0.mk ((HB08.out.alloc HB08.out.size (.cells #[.slice A1 nl.length c1, .slice A7 nl.length c7, .slice A3 tl.length c3, .slice A8 tl.length c8] 23)).trans B9)
  clear B9
  go_wp2_with fail
  refine (octet_Plain.calls s (plainB s) _ rfl).mono ?_
  rintro e w10 ⟨rfl, B10⟩
  have HB10 := Aside0.mk (HB9.out.trans (B10.mono HB9.out.size))
  clear B10
  go_wp2_with fail
  refine (tappetref01_Plain.calls kp s (plainB s) _ hp).mono ?_
  rintro e w11 ⟨rfl, ⟨n11, rfl⟩⟩
  have HB11 := Aside0.mk (below_drewN HB10.out n11)
  generalize hW11 : World.drewN w10 n11 = w11 at *
  clear hW11
  have hpp : (plainB s == plainB s) = true := by simp
  go_wp2_with fail
  refine (tappetlaw01_heads.calls true _ rfl).mono ?_
  rintro e w12 ⟨rfl, B12⟩
  have HB12 := Aside0.mk (HB11.out.trans (B12.mono HB11.out.size))
  go_wp2_with fail
  go_ret
  exact ⟨rfl, HB12.out⟩

end Go.Proofs.Ytbhlalnpefijkaa.XC
