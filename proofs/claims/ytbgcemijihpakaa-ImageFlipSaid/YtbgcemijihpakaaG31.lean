/- image's reader: taken, rows without lists. -/
import Derived.Test.YtbgcemijihpakaaG30
namespace Go.Proofs.Ytbgcemijihpakaa.XA
set_option linter.unusedVariables false
set_option linter.unusedSimpArgs false
open Go.RowKit Go.WideMaps Go.Maps Go.Proofs.YtbgcemijihpakaaW.PrintWords Go.Proofs.YtbgcemijihpakaaW.PrintLast Go.Proofs.YtbgcemijihpakaaW.PrintMore
def isRows {α : Type} (d : Kd α) (e : TypeId) (b : Nat) : World → List α → Value → Prop := fun w l v => d.R e w b (fun _ => True) v l
theorem inf88 : (Try.prog.info? 88).map (fun i => (i.zero, i.size, i.bytes)) = some (some (.agg #[(.int .i64 0), (.int .i64 0)]), 2, 16) := by kernel_rfl
set_option maxRecDepth 1000000 in
set_option maxHeartbeats 4000000 in
theorem taken_88 (B base g n : Nat) (bs : List Int) (w : World) (h : RdSt w base B bs) (hb : ∀ x ∈ bs, 0 ≤ x ∧ x ≤ 255) (hx : RBox w g B) (hn : n ≤ 65535) :
    Calls Try.prog 38 #[.int .i64 n, .func (.func 39) #[] #[.pointer (some ⟨g, 0, none⟩)]] w fun e w' => Got (pReps pRing n bs) (isRows k88 88 w.heap.size) base B w e w' := by
  have hgB : g ≠ B := by
    rintro rfl
    obtain ⟨A, c, h1, _⟩ := h
    unfold RBox at hx
    rw [h1] at hx
    injection hx with hx
    injection hx with _ hx _
    cases hx
  have HGB := Aside0.mk hgB
  have HGL := Aside0.mk (blk_lt hx)
  have HLT := Aside0.mk (rd_lt h)
  have HK0 := Aside0.mk (show KSt k88 88 pRing w w base B g n bs (.slice none 0 0) [] bs n from ⟨Kd.R_nil _ _ _ _ _, h, only_refl _ _, hb, (pre_nil _).symm, by simp, hx⟩)
  have HN := Aside0.mk hn
  clear h hb hx hgB hn
  go_enter Try.func38, Try.ntmps38
  go_wp2_with fail
  go_loopg [5, 7] n (fun gg s5 s7 wr => ∃ (m k : Nat) (A : Option Addr) (q c : Nat) (xs : List S88) (r : List Int), m = gg ∧ s5 = .slice A q c ∧ s7 = .int .i64 (k : Int) ∧ k + m = n ∧ Aside0 (KSt k88 88 pRing w wr base B g n bs (.slice A q c) xs r m))
  case atStart => exact ⟨_, 0, none, 0, 0, [], bs, rfl, rfl, rfl, by omega, HK0⟩
  case round =>
    obtain ⟨m, k, A, q, c, xs, r, rfl, rfl, rfl, hkm, HL⟩ := hrel
    rcases m with _ | m
    · have HP2 := Aside0.mk (show pReps pRing n bs = .ok (xs, r) by rw [HL.out.eq, pre_done])
      obtain rfl : k = n := by omega
      have hd : decide ((k : Int) < (k : Int)) = false := decide_eq_false (by omega)
      go_wp2_with fail
      go_ret
      exact Got.mk_yes HP2.out HL.out.only _ rfl HL.out.row HL.out.st HL.out.bd
    · have hkn : k < n := by omega
      have hd : decide ((k : Int) < (n : Int)) = true := decide_eq_true (by omega)
      have hn5 := HN.out
      rcases hp2 : pRing r with c2 | ⟨x2, r2⟩
      · have HP2 := Aside0.mk (show pReps pRing n bs = .error c2 by rw [HL.out.eq, pre_fail m xs hp2])
        have HQ2 := Aside0.mk hp2
        clear hp2
        go_wp2_with fail
        refine (ring_calls B base g r wr HL.out.st HL.out.bd HL.out.box).mono ?_
        rintro e w2 hg
        obtain ⟨O2, rfl⟩ := hg.no HQ2.out
        exact ⟨rfl, Got.mk_no HP2.out (only_trans HL.out.only O2) rfl⟩
      · have HQ2 := Aside0.mk hp2
        clear hp2
        go_wp2_with fail
        refine (ring_calls B base g r wr HL.out.st HL.out.bd HL.out.box).mono ?_
        rintro e w2 hg
        obtain ⟨O2, v2, rfl, hV, S2, b2⟩ := hg.yes HQ2.out
        cases hV
        have HR2 := Aside0.mk (R_only HL.out.row O2 HLT.out)
        have HS2 := Aside0.mk S2
        have HB2 := Aside0.mk b2
        have HO2 := Aside0.mk (only_trans HL.out.only O2)
        have HX2 := Aside0.mk (HL.out.box.only O2 HGB.out)
        have HN2 := Aside0.mk (show xs.length + (m + 1) = n from HL.out.len)
        have HE2 := Aside0.mk (HL.out.eq.trans (pre_step m xs HQ2.out))
        clear hg O2 S2 b2 HL
        go_wp2_with ((with_reducible refine gate_builtin (b := .append) (xs := #[.tmp 9, .tmp 12]) rfl ?_); at_builtin; refine Kd.R_append k88 (w0 := w2) w.heap.size rfl (.tmp 9) (.tmp 12) 26 88 (.agg #[(.int .i64 0), (.int .i64 0)]) 16 rfl Try.underlying26 inf88 rfl (by decide) (by omega) _ xs x2 [.int .i64 x2.f0, .int .i64 x2.f1] (fun _ => True) (fun _ => False) rfl rfl (k88_mkM _ _ _ x2) (fun _ h => h.elim) (fun _ _ => trivial) HR2.out (Below.refl _ _) HO2.out.size ?aL ?_; (case aL => have := HN2.out; have := HN.out; omega); intro v3 w3 HR3 HB3 HG3 HA3; obtain ⟨A3, n3, c3, hv3⟩ : ∃ A n c, v3 = .slice A n c := (by obtain ⟨A, c, h⟩ := Kd.R_slice HR3; exact ⟨A, _, c, h⟩); subst hv3; have HRR := Aside0.mk HR3; have HGG := Aside0.mk HG3; clear HR3 HB3 HG3 HA3)
        have HFR := Aside0.mk (show ∀ k, (Value.slice A q c).ownBlock = some k → w.heap.size ≤ k from fun k hk => by
          obtain ⟨_, inner, ho, _⟩ := HR2.out
          exact own_base ho k hk)
        have HL3 := Aside0.mk (show KSt k88 88 pRing w w3 base B g n bs (.slice A3 n3 c3) (xs ++ [x2]) r2 m from
          ⟨HRR.out, HS2.out.grown HGG.out (own3 HR2.out (by decide) (by decide)), only_grown HO2.out HGG.out HFR.out, HB2.out, HE2.out, by have := HN2.out; simp; omega,
           HX2.out.grown HGG.out (fun he => by have := HFR.out _ he.symm; have := HGL.out; omega)⟩)
        go_roundg m
        case measure => omega
        case rel => exact ⟨m, k + 1, A3, n3, c3, _, r2, rfl, rfl, by simp, by omega, HL3⟩
theorem inf66 : (Try.prog.info? 66).map (fun i => (i.zero, i.size, i.bytes)) = some (some (.agg #[(.bool false), (.int .i64 0)]), 2, 16) := by kernel_rfl
set_option maxRecDepth 1000000 in
set_option maxHeartbeats 4000000 in
theorem taken_66 (B base g n : Nat) (bs : List Int) (w : World) (h : RdSt w base B bs) (hb : ∀ x ∈ bs, 0 ≤ x ∧ x ≤ 255) (hx : RBox w g B) (hn : n ≤ 65535) :
    Calls Try.prog 40 #[.int .i64 n, .func (.func 41) #[] #[.pointer (some ⟨g, 0, none⟩)]] w fun e w' => Got (pReps pRes n bs) (isRows k66 66 w.heap.size) base B w e w' := by
  have hgB : g ≠ B := by
    rintro rfl
    obtain ⟨A, c, h1, _⟩ := h
    unfold RBox at hx
    rw [h1] at hx
    injection hx with hx
    injection hx with _ hx _
    cases hx
  have HGB := Aside0.mk hgB
  have HGL := Aside0.mk (blk_lt hx)
  have HLT := Aside0.mk (rd_lt h)
  have HK0 := Aside0.mk (show KSt k66 66 pRes w w base B g n bs (.slice none 0 0) [] bs n from ⟨Kd.R_nil _ _ _ _ _, h, only_refl _ _, hb, (pre_nil _).symm, by simp, hx⟩)
  have HN := Aside0.mk hn
  clear h hb hx hgB hn
  go_enter Try.func40, Try.ntmps40
  go_wp2_with fail
  go_loopg [5, 7] n (fun gg s5 s7 wr => ∃ (m k : Nat) (A : Option Addr) (q c : Nat) (xs : List S66) (r : List Int), m = gg ∧ s5 = .slice A q c ∧ s7 = .int .i64 (k : Int) ∧ k + m = n ∧ Aside0 (KSt k66 66 pRes w wr base B g n bs (.slice A q c) xs r m))
  case atStart => exact ⟨_, 0, none, 0, 0, [], bs, rfl, rfl, rfl, by omega, HK0⟩
  case round =>
    obtain ⟨m, k, A, q, c, xs, r, rfl, rfl, rfl, hkm, HL⟩ := hrel
    rcases m with _ | m
    · have HP2 := Aside0.mk (show pReps pRes n bs = .ok (xs, r) by rw [HL.out.eq, pre_done])
      obtain rfl : k = n := by omega
      have hd : decide ((k : Int) < (k : Int)) = false := decide_eq_false (by omega)
      go_wp2_with fail
      go_ret
      exact Got.mk_yes HP2.out HL.out.only _ rfl HL.out.row HL.out.st HL.out.bd
    · have hkn : k < n := by omega
      have hd : decide ((k : Int) < (n : Int)) = true := decide_eq_true (by omega)
      have hn5 := HN.out
      rcases hp2 : pRes r with c2 | ⟨x2, r2⟩
      · have HP2 := Aside0.mk (show pReps pRes n bs = .error c2 by rw [HL.out.eq, pre_fail m xs hp2])
        have HQ2 := Aside0.mk hp2
        clear hp2
        go_wp2_with fail
        refine (res_calls B base g r wr HL.out.st HL.out.bd HL.out.box).mono ?_
        rintro e w2 hg
        obtain ⟨O2, rfl⟩ := hg.no HQ2.out
        exact ⟨rfl, Got.mk_no HP2.out (only_trans HL.out.only O2) rfl⟩
      · have HQ2 := Aside0.mk hp2
        clear hp2
        go_wp2_with fail
        refine (res_calls B base g r wr HL.out.st HL.out.bd HL.out.box).mono ?_
        rintro e w2 hg
        obtain ⟨O2, v2, rfl, hV, S2, b2⟩ := hg.yes HQ2.out
        cases hV
        have HR2 := Aside0.mk (R_only HL.out.row O2 HLT.out)
        have HS2 := Aside0.mk S2
        have HB2 := Aside0.mk b2
        have HO2 := Aside0.mk (only_trans HL.out.only O2)
        have HX2 := Aside0.mk (HL.out.box.only O2 HGB.out)
        have HN2 := Aside0.mk (show xs.length + (m + 1) = n from HL.out.len)
        have HE2 := Aside0.mk (HL.out.eq.trans (pre_step m xs HQ2.out))
        clear hg O2 S2 b2 HL
        go_wp2_with ((with_reducible refine gate_builtin (b := .append) (xs := #[.tmp 9, .tmp 12]) rfl ?_); at_builtin; refine Kd.R_append k66 (w0 := w2) w.heap.size rfl (.tmp 9) (.tmp 12) 27 66 (.agg #[(.bool false), (.int .i64 0)]) 16 rfl Try.underlying27 inf66 rfl (by decide) (by omega) _ xs x2 [.bool x2.f0, .int .i64 x2.f1] (fun _ => True) (fun _ => False) rfl rfl (k66_mkM _ _ _ x2) (fun _ h => h.elim) (fun _ _ => trivial) HR2.out (Below.refl _ _) HO2.out.size ?aL ?_; (case aL => have := HN2.out; have := HN.out; omega); intro v3 w3 HR3 HB3 HG3 HA3; obtain ⟨A3, n3, c3, hv3⟩ : ∃ A n c, v3 = .slice A n c := (by obtain ⟨A, c, h⟩ := Kd.R_slice HR3; exact ⟨A, _, c, h⟩); subst hv3; have HRR := Aside0.mk HR3; have HGG := Aside0.mk HG3; clear HR3 HB3 HG3 HA3)
        have HFR := Aside0.mk (show ∀ k, (Value.slice A q c).ownBlock = some k → w.heap.size ≤ k from fun k hk => by
          obtain ⟨_, inner, ho, _⟩ := HR2.out
          exact own_base ho k hk)
        have HL3 := Aside0.mk (show KSt k66 66 pRes w w3 base B g n bs (.slice A3 n3 c3) (xs ++ [x2]) r2 m from
          ⟨HRR.out, HS2.out.grown HGG.out (own3 HR2.out (by decide) (by decide)), only_grown HO2.out HGG.out HFR.out, HB2.out, HE2.out, by have := HN2.out; simp; omega,
           HX2.out.grown HGG.out (fun he => by have := HFR.out _ he.symm; have := HGL.out; omega)⟩)
        go_roundg m
        case measure => omega
        case rel => exact ⟨m, k + 1, A3, n3, c3, _, r2, rfl, rfl, by simp, by omega, HL3⟩
theorem inf95 : (Try.prog.info? 95).map (fun i => (i.zero, i.size, i.bytes)) = some (some (.agg #[(.int .u32 0), (.int .u32 0), (.int .u32 0)]), 3, 12) := by kernel_rfl
set_option maxRecDepth 1000000 in
set_option maxHeartbeats 4000000 in
theorem taken_95 (B base g n : Nat) (bs : List Int) (w : World) (h : RdSt w base B bs) (hb : ∀ x ∈ bs, 0 ≤ x ∧ x ≤ 255) (hx : RBox w g B) (hn : n ≤ 65535) :
    Calls Try.prog 43 #[.int .i64 n, .func (.func 44) #[] #[.pointer (some ⟨g, 0, none⟩)]] w fun e w' => Got (pReps pCtr n bs) (isRows k95 95 w.heap.size) base B w e w' := by
  have hgB : g ≠ B := by
    rintro rfl
    obtain ⟨A, c, h1, _⟩ := h
    unfold RBox at hx
    rw [h1] at hx
    injection hx with hx
    injection hx with _ hx _
    cases hx
  have HGB := Aside0.mk hgB
  have HGL := Aside0.mk (blk_lt hx)
  have HLT := Aside0.mk (rd_lt h)
  have HK0 := Aside0.mk (show KSt k95 95 pCtr w w base B g n bs (.slice none 0 0) [] bs n from ⟨Kd.R_nil _ _ _ _ _, h, only_refl _ _, hb, (pre_nil _).symm, by simp, hx⟩)
  have HN := Aside0.mk hn
  clear h hb hx hgB hn
  go_enter Try.func43, Try.ntmps43
  go_wp2_with fail
  go_loopg [5, 7] n (fun gg s5 s7 wr => ∃ (m k : Nat) (A : Option Addr) (q c : Nat) (xs : List S95) (r : List Int), m = gg ∧ s5 = .slice A q c ∧ s7 = .int .i64 (k : Int) ∧ k + m = n ∧ Aside0 (KSt k95 95 pCtr w wr base B g n bs (.slice A q c) xs r m))
  case atStart => exact ⟨_, 0, none, 0, 0, [], bs, rfl, rfl, rfl, by omega, HK0⟩
  case round =>
    obtain ⟨m, k, A, q, c, xs, r, rfl, rfl, rfl, hkm, HL⟩ := hrel
    rcases m with _ | m
    · have HP2 := Aside0.mk (show pReps pCtr n bs = .ok (xs, r) by rw [HL.out.eq, pre_done])
      obtain rfl : k = n := by omega
      have hd : decide ((k : Int) < (k : Int)) = false := decide_eq_false (by omega)
      go_wp2_with fail
      go_ret
      exact Got.mk_yes HP2.out HL.out.only _ rfl HL.out.row HL.out.st HL.out.bd
    · have hkn : k < n := by omega
      have hd : decide ((k : Int) < (n : Int)) = true := decide_eq_true (by omega)
      have hn5 := HN.out
      rcases hp2 : pCtr r with c2 | ⟨x2, r2⟩
      · have HP2 := Aside0.mk (show pReps pCtr n bs = .error c2 by rw [HL.out.eq, pre_fail m xs hp2])
        have HQ2 := Aside0.mk hp2
        clear hp2
        go_wp2_with fail
        refine (ctr_calls B base g r wr HL.out.st HL.out.bd HL.out.box).mono ?_
        rintro e w2 hg
        obtain ⟨O2, rfl⟩ := hg.no HQ2.out
        exact ⟨rfl, Got.mk_no HP2.out (only_trans HL.out.only O2) rfl⟩
      · have HQ2 := Aside0.mk hp2
        clear hp2
        go_wp2_with fail
        refine (ctr_calls B base g r wr HL.out.st HL.out.bd HL.out.box).mono ?_
        rintro e w2 hg
        obtain ⟨O2, v2, rfl, hV, S2, b2⟩ := hg.yes HQ2.out
        cases hV
        have HR2 := Aside0.mk (R_only HL.out.row O2 HLT.out)
        have HS2 := Aside0.mk S2
        have HB2 := Aside0.mk b2
        have HO2 := Aside0.mk (only_trans HL.out.only O2)
        have HX2 := Aside0.mk (HL.out.box.only O2 HGB.out)
        have HN2 := Aside0.mk (show xs.length + (m + 1) = n from HL.out.len)
        have HE2 := Aside0.mk (HL.out.eq.trans (pre_step m xs HQ2.out))
        clear hg O2 S2 b2 HL
        go_wp2_with ((with_reducible refine gate_builtin (b := .append) (xs := #[.tmp 9, .tmp 12]) rfl ?_); at_builtin; refine Kd.R_append k95 (w0 := w2) w.heap.size rfl (.tmp 9) (.tmp 12) 28 95 (.agg #[(.int .u32 0), (.int .u32 0), (.int .u32 0)]) 12 rfl Try.underlying28 inf95 rfl (by decide) (by omega) _ xs x2 [.int .u32 x2.f0, .int .u32 x2.f1, .int .u32 x2.f2] (fun _ => True) (fun _ => False) rfl rfl (k95_mkM _ _ _ x2) (fun _ h => h.elim) (fun _ _ => trivial) HR2.out (Below.refl _ _) HO2.out.size ?aL ?_; (case aL => have := HN2.out; have := HN.out; omega); intro v3 w3 HR3 HB3 HG3 HA3; obtain ⟨A3, n3, c3, hv3⟩ : ∃ A n c, v3 = .slice A n c := (by obtain ⟨A, c, h⟩ := Kd.R_slice HR3; exact ⟨A, _, c, h⟩); subst hv3; have HRR := Aside0.mk HR3; have HGG := Aside0.mk HG3; clear HR3 HB3 HG3 HA3)
        have HFR := Aside0.mk (show ∀ k, (Value.slice A q c).ownBlock = some k → w.heap.size ≤ k from fun k hk => by
          obtain ⟨_, inner, ho, _⟩ := HR2.out
          exact own_base ho k hk)
        have HL3 := Aside0.mk (show KSt k95 95 pCtr w w3 base B g n bs (.slice A3 n3 c3) (xs ++ [x2]) r2 m from
          ⟨HRR.out, HS2.out.grown HGG.out (own3 HR2.out (by decide) (by decide)), only_grown HO2.out HGG.out HFR.out, HB2.out, HE2.out, by have := HN2.out; simp; omega,
           HX2.out.grown HGG.out (fun he => by have := HFR.out _ he.symm; have := HGL.out; omega)⟩)
        go_roundg m
        case measure => omega
        case rel => exact ⟨m, k + 1, A3, n3, c3, _, r2, rfl, rfl, by simp, by omega, HL3⟩
theorem inf102 : (Try.prog.info? 102).map (fun i => (i.zero, i.size, i.bytes)) = some (some (.agg #[(.int .i64 0), (.int .i64 0), (.int .i64 0), (.int .u32 0), (.int .u32 0), (.int .u32 0), (.int .u32 0)]), 7, 48) := by kernel_rfl
set_option maxRecDepth 1000000 in
set_option maxHeartbeats 4000000 in
theorem taken_102 (B base g n : Nat) (bs : List Int) (w : World) (h : RdSt w base B bs) (hb : ∀ x ∈ bs, 0 ≤ x ∧ x ≤ 255) (hx : RBox w g B) (hn : n ≤ 65535) :
    Calls Try.prog 45 #[.int .i64 n, .func (.func 46) #[] #[.pointer (some ⟨g, 0, none⟩)]] w fun e w' => Got (pReps pAlm n bs) (isRows k102 102 w.heap.size) base B w e w' := by
  have hgB : g ≠ B := by
    rintro rfl
    obtain ⟨A, c, h1, _⟩ := h
    unfold RBox at hx
    rw [h1] at hx
    injection hx with hx
    injection hx with _ hx _
    cases hx
  have HGB := Aside0.mk hgB
  have HGL := Aside0.mk (blk_lt hx)
  have HLT := Aside0.mk (rd_lt h)
  have HK0 := Aside0.mk (show KSt k102 102 pAlm w w base B g n bs (.slice none 0 0) [] bs n from ⟨Kd.R_nil _ _ _ _ _, h, only_refl _ _, hb, (pre_nil _).symm, by simp, hx⟩)
  have HN := Aside0.mk hn
  clear h hb hx hgB hn
  go_enter Try.func45, Try.ntmps45
  go_wp2_with fail
  go_loopg [5, 7] n (fun gg s5 s7 wr => ∃ (m k : Nat) (A : Option Addr) (q c : Nat) (xs : List S102) (r : List Int), m = gg ∧ s5 = .slice A q c ∧ s7 = .int .i64 (k : Int) ∧ k + m = n ∧ Aside0 (KSt k102 102 pAlm w wr base B g n bs (.slice A q c) xs r m))
  case atStart => exact ⟨_, 0, none, 0, 0, [], bs, rfl, rfl, rfl, by omega, HK0⟩
  case round =>
    obtain ⟨m, k, A, q, c, xs, r, rfl, rfl, rfl, hkm, HL⟩ := hrel
    rcases m with _ | m
    · have HP2 := Aside0.mk (show pReps pAlm n bs = .ok (xs, r) by rw [HL.out.eq, pre_done])
      obtain rfl : k = n := by omega
      have hd : decide ((k : Int) < (k : Int)) = false := decide_eq_false (by omega)
      go_wp2_with fail
      go_ret
      exact Got.mk_yes HP2.out HL.out.only _ rfl HL.out.row HL.out.st HL.out.bd
    · have hkn : k < n := by omega
      have hd : decide ((k : Int) < (n : Int)) = true := decide_eq_true (by omega)
      have hn5 := HN.out
      rcases hp2 : pAlm r with c2 | ⟨x2, r2⟩
      · have HP2 := Aside0.mk (show pReps pAlm n bs = .error c2 by rw [HL.out.eq, pre_fail m xs hp2])
        have HQ2 := Aside0.mk hp2
        clear hp2
        go_wp2_with fail
        refine (alm_calls B base g r wr HL.out.st HL.out.bd HL.out.box).mono ?_
        rintro e w2 hg
        obtain ⟨O2, rfl⟩ := hg.no HQ2.out
        exact ⟨rfl, Got.mk_no HP2.out (only_trans HL.out.only O2) rfl⟩
      · have HQ2 := Aside0.mk hp2
        clear hp2
        go_wp2_with fail
        refine (alm_calls B base g r wr HL.out.st HL.out.bd HL.out.box).mono ?_
        rintro e w2 hg
        obtain ⟨O2, v2, rfl, hV, S2, b2⟩ := hg.yes HQ2.out
        cases hV
        have HR2 := Aside0.mk (R_only HL.out.row O2 HLT.out)
        have HS2 := Aside0.mk S2
        have HB2 := Aside0.mk b2
        have HO2 := Aside0.mk (only_trans HL.out.only O2)
        have HX2 := Aside0.mk (HL.out.box.only O2 HGB.out)
        have HN2 := Aside0.mk (show xs.length + (m + 1) = n from HL.out.len)
        have HE2 := Aside0.mk (HL.out.eq.trans (pre_step m xs HQ2.out))
        clear hg O2 S2 b2 HL
        go_wp2_with ((with_reducible refine gate_builtin (b := .append) (xs := #[.tmp 9, .tmp 12]) rfl ?_); at_builtin; refine Kd.R_append k102 (w0 := w2) w.heap.size rfl (.tmp 9) (.tmp 12) 29 102 (.agg #[(.int .i64 0), (.int .i64 0), (.int .i64 0), (.int .u32 0), (.int .u32 0), (.int .u32 0), (.int .u32 0)]) 48 rfl Try.underlying29 inf102 rfl (by decide) (by omega) _ xs x2 [.int .i64 x2.f0, .int .i64 x2.f1.f0, .int .i64 x2.f1.f1, .int .u32 x2.f1.f2, .int .u32 x2.f2, .int .u32 x2.f3, .int .u32 x2.f4] (fun _ => True) (fun _ => False) rfl rfl (k102_mkM _ _ _ x2) (fun _ h => h.elim) (fun _ _ => trivial) HR2.out (Below.refl _ _) HO2.out.size ?aL ?_; (case aL => have := HN2.out; have := HN.out; omega); intro v3 w3 HR3 HB3 HG3 HA3; obtain ⟨A3, n3, c3, hv3⟩ : ∃ A n c, v3 = .slice A n c := (by obtain ⟨A, c, h⟩ := Kd.R_slice HR3; exact ⟨A, _, c, h⟩); subst hv3; have HRR := Aside0.mk HR3; have HGG := Aside0.mk HG3; clear HR3 HB3 HG3 HA3)
        have HFR := Aside0.mk (show ∀ k, (Value.slice A q c).ownBlock = some k → w.heap.size ≤ k from fun k hk => by
          obtain ⟨_, inner, ho, _⟩ := HR2.out
          exact own_base ho k hk)
        have HL3 := Aside0.mk (show KSt k102 102 pAlm w w3 base B g n bs (.slice A3 n3 c3) (xs ++ [x2]) r2 m from
          ⟨HRR.out, HS2.out.grown HGG.out (own3 HR2.out (by decide) (by decide)), only_grown HO2.out HGG.out HFR.out, HB2.out, HE2.out, by have := HN2.out; simp; omega,
           HX2.out.grown HGG.out (fun he => by have := HFR.out _ he.symm; have := HGL.out; omega)⟩)
        go_roundg m
        case measure => omega
        case rel => exact ⟨m, k + 1, A3, n3, c3, _, r2, rfl, rfl, by simp, by omega, HL3⟩
theorem inf113 : (Try.prog.info? 113).map (fun i => (i.zero, i.size, i.bytes)) = some (some (.agg #[(.int .i64 0), (.int .i64 0), (.int .i64 0), (.int .u64 0), (.int .i64 0), (.int .i64 0), (.int .i64 0), (.int .u32 0)]), 8, 64) := by kernel_rfl
set_option maxRecDepth 1000000 in
set_option maxHeartbeats 4000000 in
theorem taken_113 (B base g n : Nat) (bs : List Int) (w : World) (h : RdSt w base B bs) (hb : ∀ x ∈ bs, 0 ≤ x ∧ x ≤ 255) (hx : RBox w g B) (hn : n ≤ 65535) :
    Calls Try.prog 51 #[.int .i64 n, .func (.func 52) #[] #[.pointer (some ⟨g, 0, none⟩)]] w fun e w' => Got (pReps pMsg n bs) (isRows k113 113 w.heap.size) base B w e w' := by
  have hgB : g ≠ B := by
    rintro rfl
    obtain ⟨A, c, h1, _⟩ := h
    unfold RBox at hx
    rw [h1] at hx
    injection hx with hx
    injection hx with _ hx _
    cases hx
  have HGB := Aside0.mk hgB
  have HGL := Aside0.mk (blk_lt hx)
  have HLT := Aside0.mk (rd_lt h)
  have HK0 := Aside0.mk (show KSt k113 113 pMsg w w base B g n bs (.slice none 0 0) [] bs n from ⟨Kd.R_nil _ _ _ _ _, h, only_refl _ _, hb, (pre_nil _).symm, by simp, hx⟩)
  have HN := Aside0.mk hn
  clear h hb hx hgB hn
  go_enter Try.func51, Try.ntmps51
  go_wp2_with fail
  go_loopg [5, 7] n (fun gg s5 s7 wr => ∃ (m k : Nat) (A : Option Addr) (q c : Nat) (xs : List S113) (r : List Int), m = gg ∧ s5 = .slice A q c ∧ s7 = .int .i64 (k : Int) ∧ k + m = n ∧ Aside0 (KSt k113 113 pMsg w wr base B g n bs (.slice A q c) xs r m))
  case atStart => exact ⟨_, 0, none, 0, 0, [], bs, rfl, rfl, rfl, by omega, HK0⟩
  case round =>
    obtain ⟨m, k, A, q, c, xs, r, rfl, rfl, rfl, hkm, HL⟩ := hrel
    rcases m with _ | m
    · have HP2 := Aside0.mk (show pReps pMsg n bs = .ok (xs, r) by rw [HL.out.eq, pre_done])
      obtain rfl : k = n := by omega
      have hd : decide ((k : Int) < (k : Int)) = false := decide_eq_false (by omega)
      go_wp2_with fail
      go_ret
      exact Got.mk_yes HP2.out HL.out.only _ rfl HL.out.row HL.out.st HL.out.bd
    · have hkn : k < n := by omega
      have hd : decide ((k : Int) < (n : Int)) = true := decide_eq_true (by omega)
      have hn5 := HN.out
      rcases hp2 : pMsg r with c2 | ⟨x2, r2⟩
      · have HP2 := Aside0.mk (show pReps pMsg n bs = .error c2 by rw [HL.out.eq, pre_fail m xs hp2])
        have HQ2 := Aside0.mk hp2
        clear hp2
        go_wp2_with fail
        refine (msg_calls B base g r wr HL.out.st HL.out.bd HL.out.box).mono ?_
        rintro e w2 hg
        obtain ⟨O2, rfl⟩ := hg.no HQ2.out
        exact ⟨rfl, Got.mk_no HP2.out (only_trans HL.out.only O2) rfl⟩
      · have HQ2 := Aside0.mk hp2
        clear hp2
        go_wp2_with fail
        refine (msg_calls B base g r wr HL.out.st HL.out.bd HL.out.box).mono ?_
        rintro e w2 hg
        obtain ⟨O2, v2, rfl, hV, S2, b2⟩ := hg.yes HQ2.out
        cases hV
        have HR2 := Aside0.mk (R_only HL.out.row O2 HLT.out)
        have HS2 := Aside0.mk S2
        have HB2 := Aside0.mk b2
        have HO2 := Aside0.mk (only_trans HL.out.only O2)
        have HX2 := Aside0.mk (HL.out.box.only O2 HGB.out)
        have HN2 := Aside0.mk (show xs.length + (m + 1) = n from HL.out.len)
        have HE2 := Aside0.mk (HL.out.eq.trans (pre_step m xs HQ2.out))
        clear hg O2 S2 b2 HL
        go_wp2_with ((with_reducible refine gate_builtin (b := .append) (xs := #[.tmp 9, .tmp 12]) rfl ?_); at_builtin; refine Kd.R_append k113 (w0 := w2) w.heap.size rfl (.tmp 9) (.tmp 12) 31 113 (.agg #[(.int .i64 0), (.int .i64 0), (.int .i64 0), (.int .u64 0), (.int .i64 0), (.int .i64 0), (.int .i64 0), (.int .u32 0)]) 64 rfl Try.underlying31 inf113 rfl (by decide) (by omega) _ xs x2 [.int .i64 x2.f0, .int .i64 x2.f1, .int .i64 x2.f2, .int .u64 x2.f3, .int .i64 x2.f4, .int .i64 x2.f5.f0, .int .i64 x2.f5.f1, .int .u32 x2.f5.f2] (fun _ => True) (fun _ => False) rfl rfl (k113_mkM _ _ _ x2) (fun _ h => h.elim) (fun _ _ => trivial) HR2.out (Below.refl _ _) HO2.out.size ?aL ?_; (case aL => have := HN2.out; have := HN.out; omega); intro v3 w3 HR3 HB3 HG3 HA3; obtain ⟨A3, n3, c3, hv3⟩ : ∃ A n c, v3 = .slice A n c := (by obtain ⟨A, c, h⟩ := Kd.R_slice HR3; exact ⟨A, _, c, h⟩); subst hv3; have HRR := Aside0.mk HR3; have HGG := Aside0.mk HG3; clear HR3 HB3 HG3 HA3)
        have HFR := Aside0.mk (show ∀ k, (Value.slice A q c).ownBlock = some k → w.heap.size ≤ k from fun k hk => by
          obtain ⟨_, inner, ho, _⟩ := HR2.out
          exact own_base ho k hk)
        have HL3 := Aside0.mk (show KSt k113 113 pMsg w w3 base B g n bs (.slice A3 n3 c3) (xs ++ [x2]) r2 m from
          ⟨HRR.out, HS2.out.grown HGG.out (own3 HR2.out (by decide) (by decide)), only_grown HO2.out HGG.out HFR.out, HB2.out, HE2.out, by have := HN2.out; simp; omega,
           HX2.out.grown HGG.out (fun he => by have := HFR.out _ he.symm; have := HGL.out; omega)⟩)
        go_roundg m
        case measure => omega
        case rel => exact ⟨m, k + 1, A3, n3, c3, _, r2, rfl, rfl, by simp, by omega, HL3⟩
end Go.Proofs.Ytbgcemijihpakaa.XA
