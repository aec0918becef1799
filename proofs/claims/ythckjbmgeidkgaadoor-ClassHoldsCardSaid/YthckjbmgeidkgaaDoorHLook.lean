/- look: the first object of a kind that may not be. -/
import Derived.Test.YthckjbmgeidkgaaDoorHMapS
namespace Go.Proofs.YthckjbmgeidkgaaDoor.XA
set_option linter.unusedVariables false
set_option linter.unusedSimpArgs false
open Go.RowKit Go.WideMaps Go.Maps Go.Proofs.YthckjbmgeidkgaaDoorW.PrintWords Go.Proofs.YthckjbmgeidkgaaDoorW.PrintLast Go.Proofs.YthckjbmgeidkgaaDoorW.PrintMore
/-- the first error of a list of checks; 0: none -/
def errF : List (S33 → Nat → Int) → S33 → Nat → Int
  | [], _, _ => 0
  | E :: r, c, i => if E c i ≠ 0 then E c i else errF r c i
theorem errF_none {Es : List (S33 → Nat → Int)} {c : S33} {i : Nat} (h : ∀ (k : Nat) E, Es[k]? = some E → E c i = 0) : errF Es c i = 0 := by
  induction Es with
  | nil => rfl
  | cons E r ih =>
    unfold errF
    rw [if_neg (by have := h 0 E rfl; omega)]
    exact ih (fun k E' hE => h (k + 1) E' hE)
theorem errF_some {Es : List (S33 → Nat → Int)} {c : S33} {i : Nat} : ∀ {k : Nat} {E : S33 → Nat → Int}, Es[k]? = some E → (∀ (m : Nat) E', m < k → Es[m]? = some E' → E' c i = 0) → E c i ≠ 0 → errF Es c i = E c i := by
  induction Es with
  | nil => intro k E h; simp at h
  | cons E0 r ih =>
    intro k E h h1 h2
    unfold errF
    cases k with
    | zero =>
      injection h with h
      subst h
      rw [if_pos h2]
    | succ k =>
      rw [if_neg (by have := h1 0 E0 (by omega) rfl; omega)]
      exact ih (by simpa using h) (fun m E' hm hE => h1 (m + 1) E' (by omega) (by simpa using hE)) h2
/-- what is wrong with an object; 0: nothing -/
def objV (nm : S33 → Nat → ByteArray) (Es : List (S33 → Nat → Int)) (c : S33) (i : Nat) : Int := if nameB (nm c i) && !memS ((List.range i).map (nm c)) (nm c i) then errF Es c i else 72
/-- the first place where something is wrong -/
def firstF (f : Nat → Int) : Nat → Nat → Option (Int × Nat)
  | 0, _ => none
  | m + 1, i => if f i ≠ 0 then some (f i, i) else firstF f m (i + 1)
theorem firstF_skip (f : Nat → Int) : ∀ (m i k : Nat), k ≤ m → (∀ j, j < k → f (i + j) = 0) → firstF f m i = firstF f (m - k) (i + k)
  | m, i, 0, _, _ => rfl
  | 0, i, k + 1, h, _ => by omega
  | m + 1, i, k + 1, h, h1 => by
    rw [firstF, if_neg (by have := h1 0 (by omega); simpa using this), firstF_skip f m (i + 1) k (by omega) (fun j hj => by have := h1 (j + 1) (by omega); rw [show i + 1 + j = i + (j + 1) by omega]; exact this)]
    congr 1
    · omega
    · omega
theorem firstF_none (f : Nat → Int) (n : Nat) (h : ∀ j, j < n → f j = 0) : firstF f n 0 = none := by
  rw [firstF_skip f n 0 n (Nat.le_refl _) (fun j hj => by rw [Nat.zero_add]; exact h j hj), Nat.sub_self]
  rfl
theorem firstF_some (f : Nat → Int) (n i : Nat) (hi : i < n) (h : ∀ j, j < i → f j = 0) (h1 : f i ≠ 0) : firstF f n 0 = some (f i, i) := by
  rw [firstF_skip f n 0 i (by omega) (fun j hj => by rw [Nat.zero_add]; exact h j hj), Nat.zero_add]
  obtain ⟨m, hm⟩ : ∃ m, n - i = m + 1 := ⟨n - i - 1, by omega⟩
  rw [hm, firstF, if_pos h1]
/-- a kind: what it is called, how many there may be, and what is asked of each -/
structure Kind where
  word : ByteArray
  fc : Nat
  fn : Nat
  lo : Int
  hi : Int
  fs : List Nat
  n : S33 → Nat
  nm : S33 → Nat → ByteArray
  Es : List (S33 → Nat → Int)
def Kind.look (K : Kind) (c : S33) : Option (Int × Nat) := if (K.n c : Int) < K.lo ∨ K.hi < (K.n c : Int) then some (71, 0) else firstF (objV K.nm K.Es c) (K.n c) 0
def Ent (f : Nat) : Prop := ∀ (args : Array Value) (w : World), (callFunc f args).run Tryd.prog w = .ok (.enter f args) w
theorem ent_of {f : Nat} {fn : Func} {c : Code} (hf : Tryd.prog.funcs[f]? = some fn) (hname : (fn.name == "runtime.NumGoroutine") = false) (hb : fn.body = some c) : Ent f := fun args w => by
  have hn : ¬ fn.name = "runtime.NumGoroutine" := by simpa using hname
  simp [callFunc, hf, hn, hb]
structure Kind.Ok (K : Kind) : Prop where
  ec : Ent K.fc
  en : Ent K.fn
  ef : ∀ f ∈ K.fs, Ent f
  cnt : Cnt K.fc K.n
  nam : Nam K.fn K.n K.nm
  len : K.fs.length = K.Es.length
  chk : ∀ (k : Nat) f E, K.fs[k]? = some f → K.Es[k]? = some E → ∀ (w : World) (B : Nat) (V : CV) (c : S33) (i : Nat), At w B V c → i < K.n c → (∀ (m : Nat) E', m < k → K.Es[m]? = some E' → E' c i = 0) →
    Calls Tryd.prog f #[.pointer (some ⟨B, 0, none⟩), .int .i64 i] w fun e w' => e = .returned (.int .i64 (E c i)) ∧ Below w.heap.size w w'
  bd : ∀ c, Bd c → K.n c ≤ 8796093022208
def fun_ (f : Nat) : Value := .func (.func f) #[] #[]
/-- the functions of a kind, read -/
def FunsAt (w : World) (A : Option Addr) (fs : List Nat) : Prop := ∀ (k : Nat) f, fs[k]? = some f → ∃ ad, A = some ad ∧ w.cell? (ad.add k) = some (.func (.func f) #[] #[])
theorem FunsAt.below {w w1 : World} {A : Option Addr} {fs : List Nat} (h : FunsAt w A fs) (hB : Below w.heap.size w w1) : FunsAt w1 A fs := fun k f hf => by
  obtain ⟨ad, e, hc⟩ := h k f hf
  exact ⟨ad, e, (hB.cell (World.block_lt_of_cell? w _ hc)).trans hc⟩
/-- what look answers -/
def LookIs (word : ByteArray) (r : Option (Int × Nat)) (b : Nat) (v : Value) (w : World) : Prop := match r with
  | none => v = .nilIface
  | some (code, id) => ∃ g, v = .iface 73 (.pointer (some ⟨g, 0, none⟩)) ∧ b ≤ g ∧ w.heap[g]? = some (.cells #[.int .i64 code, .string word, .int .i64 id] 81 (0, 0))
/-- what stands while the objects are looked at -/
structure LookSt (w0 wr : World) (Bm : Nat) (names : List ByteArray) (cs : Array Value) : Prop where
  bel : Below w0.heap.size w0 wr
  box : wr.heap[w0.heap.size]? = some (.cells cs 72 (0, 0))
  map : MapS wr Bm names
theorem LookSt.below {w0 wr w1 : World} {Bm : Nat} {names : List ByteArray} {cs : Array Value} (h : LookSt w0 wr Bm names cs) (hB : Below wr.heap.size wr w1) : LookSt w0 w1 Bm names cs :=
  ⟨h.bel.trans (hB.mono h.bel.size), (hB.block _ (blk_lt h.box)).trans h.box, h.map.below hB⟩
theorem LookSt.put {w0 wr w1 : World} {Bm : Nat} {names : List ByteArray} {cs : Array Value} (h : LookSt w0 wr Bm names cs) (hb : w0.heap.size < Bm) (s : ByteArray) (hm : MapS w1 Bm (names ++ [s])) (hg : wr.grownBy w1 (some Bm)) : LookSt w0 w1 Bm (names ++ [s]) cs :=
  ⟨h.bel.grown hg h.bel.size (fun j hj => by injection hj with hj; omega), (hg.block _ (blk_lt h.box) (fun e => by injection e with e; omega)).trans h.box, hm⟩
set_option maxRecDepth 1000000 in
set_option maxHeartbeats 4000000 in
theorem look_calls (K : Kind) (hK : K.Ok) (A : Option Addr) (cap : Nat) (B : Nat) (V : CV) (c : S33) (w : World) (h : At w B V c) (hf : FunsAt w A K.fs) (hcap : K.fs.length ≤ cap) (hfl : K.fs.length ≤ 8) : Calls Tryd.prog 18 #[.agg #[.string K.word, .func (.func K.fc) #[] #[], .func (.func K.fn) #[] #[], .int .i64 K.lo, .int .i64 K.hi, .slice A K.fs.length cap], .pointer (some ⟨B, 0, none⟩)] w fun e w' => ∃ v, e = .returned v ∧ LookIs K.word (K.look c) w.heap.size v w' ∧ Below w.heap.size w w' := by
  have hn := hK.bd c h.cf.bd
  have HA := Aside0.mk h
  have HF := Aside0.mk hf
  have HO := Aside0.mk hK
  have HB := Aside0.mk (below_a w (.cells #[.string K.word, .func (.func K.fc) #[] #[], .func (.func K.fn) #[] #[], .int .i64 K.lo, .int .i64 K.hi, .slice A K.fs.length cap] 72))
  have HBX := Aside0.mk (heap_alloc_new w (.cells #[.string K.word, .func (.func K.fc) #[] #[], .func (.func K.fn) #[] #[], .int .i64 K.lo, .int .i64 K.hi, .slice A K.fs.length cap] 72))
  clear h hf hK
  have hcf := HO.out.ec
  unfold Ent at hcf
  go_enter Tryd.func18, Tryd.ntmps18
  go_wp2_with fail
  generalize w.alloc (.cells #[.string K.word, .func (.func K.fc) #[] #[], .func (.func K.fn) #[] #[], .int .i64 K.lo, .int .i64 K.hi, .slice A K.fs.length cap] 72) = w1 at *
  refine (HO.out.cnt w1 B V c (HA.out.below HB.out)).mono ?_
  rintro e w' ⟨rfl, rfl⟩
  clear hcf
  have y0 : w'.cell? ⟨w.heap.size, 0, none⟩ = some (.string K.word) := by have := cell_of (j := 0) HBX.out rfl; exact this
  have y3 : w'.cell? ⟨w.heap.size, 3, none⟩ = some (.int .i64 K.lo) := by have := cell_of (j := 3) HBX.out rfl; exact this
  have y4 : w'.cell? ⟨w.heap.size, 4, none⟩ = some (.int .i64 K.hi) := by have := cell_of (j := 4) HBX.out rfl; exact this
  have HLK := Aside0.mk (show K.look c = if (K.n c : Int) < K.lo ∨ K.hi < (K.n c : Int) then some (71, 0) else firstF (objV K.nm K.Es c) (K.n c) 0 from rfl)
  by_cases hov : (K.n c : Int) < K.lo ∨ K.hi < (K.n c : Int)
  · have HE := Aside0.mk (show K.look c = some (71, 0) from by rw [HLK.out, if_pos hov])
    clear HLK
    by_cases h1 : (K.n c : Int) < K.lo
    · have d1 : decide ((K.n c : Int) < K.lo) = true := decide_eq_true h1
      go_wp2_with fail
      go_ret
      exact ⟨_, rfl, by rw [HE.out]; exact ⟨_, rfl, HB.out.size, heap_alloc_new _ _⟩, HB.out.alloc HB.out.size _⟩
    · have d1 : decide ((K.n c : Int) < K.lo) = false := decide_eq_false h1
      have d2 : decide (K.hi < (K.n c : Int)) = true := decide_eq_true (by rcases hov with h | h; exact absurd h h1; exact h)
      go_wp2_with fail
      go_ret
      exact ⟨_, rfl, by rw [HE.out]; exact ⟨_, rfl, HB.out.size, heap_alloc_new _ _⟩, HB.out.alloc HB.out.size _⟩
  · have HE := Aside0.mk (show K.look c = firstF (objV K.nm K.Es c) (K.n c) 0 from by rw [HLK.out, if_neg hov])
    clear HLK
    have d1 : decide ((K.n c : Int) < K.lo) = false := decide_eq_false (fun h => hov (.inl h))
    have d2 : decide (K.hi < (K.n c : Int)) = false := decide_eq_false (fun h => hov (.inr h))
    clear hov
    have hmm := @run_makeMap Tryd.prog
    have HST := Aside0.mk (show LookSt w (w'.alloc (.map #[] 0)) w'.heap.size [] #[.string K.word, .func (.func K.fc) #[] #[], .func (.func K.fn) #[] #[], .int .i64 K.lo, .int .i64 K.hi, .slice A K.fs.length cap] from
      ⟨HB.out.alloc HB.out.size _, (heap_alloc_old w' _ (blk_lt HBX.out)).trans HBX.out, ⟨heap_alloc_new w' _, by simp⟩⟩)
    have HBM := Aside0.mk (show w.heap.size < w'.heap.size from blk_lt HBX.out)
    go_wp2_with fail
    clear hmm d1 d2 y0 y3 y4
    generalize w'.alloc (.map #[] 0) = w2 at *
    generalize w'.heap.size = Bm at *
    clear HB HBX
    go_loopw [34] (fun iv wr => ∃ i : Nat, i ≤ K.n c ∧ iv = .int .i64 i ∧ Aside0 (LookSt w wr Bm ((List.range i).map (K.nm c)) #[.string K.word, .func (.func K.fc) #[] #[], .func (.func K.fn) #[] #[], .int .i64 K.lo, .int .i64 K.hi, .slice A K.fs.length cap]) ∧ Aside0 (∀ j, j < i → objV K.nm K.Es c j = 0)) (fun iv _ => K.n c - (intOf iv).toNat)
    case atStart => exact ⟨0, by omega, rfl, HST, ⟨fun j hj => by omega⟩⟩
    case round =>
      clear HST
      obtain ⟨i, hi, rfl, HS, HR⟩ := hrel
      by_cases hlt : i < K.n c
      · have hd : decide ((i : Int) < (K.n c : Int)) = true := decide_eq_true (by omega)
        have y2 : wr.cell? ⟨w.heap.size, 2, none⟩ = some (.func (.func K.fn) #[] #[]) := by have := cell_of (j := 2) HS.out.box rfl; exact this
        have hen := HO.out.en
        unfold Ent at hen
        go_wp2_with fail
        refine (HO.out.nam wr B V c i (HA.out.below HS.out.bel) hlt).mono ?_
        rintro e w' ⟨rfl, rfl⟩
        clear hen y2
        have HV := Aside0.mk (show objV K.nm K.Es c i = if nameB (K.nm c i) && !memS ((List.range i).map (K.nm c)) (K.nm c i) then errF K.Es c i else 72 from rfl)
        have HBAD := Aside0.mk (fun (he : objV K.nm K.Es c i ≠ 0) => show K.look c = some (objV K.nm K.Es c i, i) from by rw [HE.out]; exact firstF_some _ _ _ hlt HR.out he)
        have HNM := Aside0.mk (show (List.range (i + 1)).map (K.nm c) = (List.range i).map (K.nm c) ++ [K.nm c i] from by rw [List.range_succ, List.map_append]; rfl)
        have HSZ := Aside0.mk (show nameB (K.nm c i) = true → (K.nm c i).size ≤ 63 from fun h => by
          unfold nameB at h
          simp only [Bool.and_eq_true, decide_eq_true_eq] at h
          exact h.2)
        generalize K.nm c i = s at *
        go_wp2_with fail
        refine (isName_calls s w').mono ?_
        rintro e w3 ⟨rfl, B3⟩
        have HS3 := Aside0.mk (HS.out.below B3)
        clear B3 HS
        rcases hnb : nameB s with _ | _
        · have HX := Aside0.mk (show K.look c = some (72, i) from by
            have hv : objV K.nm K.Es c i = 72 := by rw [HV.out, hnb]; rfl
            rw [← hv]
            exact HBAD.out (by rw [hv]; decide))
          have y0 : w3.cell? ⟨w.heap.size, 0, none⟩ = some (.string K.word) := by have := cell_of (j := 0) HS3.out.box rfl; exact this
          clear hnb
          go_wp2_with fail
          go_ret
          exact ⟨_, rfl, by rw [HX.out]; exact ⟨_, rfl, HS3.out.bel.size, heap_alloc_new _ _⟩, HS3.out.bel.alloc HS3.out.bel.size _⟩
        · have hsz := HSZ.out hnb
          have hlk := mapS_get HS3.out.map s hsz
          rcases hmb : memS ((List.range i).map (K.nm c)) s with _ | _
          · rw [hmb] at hlk
            have HV := Aside0.mk (show objV K.nm K.Es c i = errF K.Es c i from by rw [HV.out, hnb, hmb]; rfl)
            obtain ⟨w4, hup, hm4, hg4⟩ := mapS_put HS3.out.map s hsz (fun h => by rw [memS_iff.mpr h] at hmb; cases hmb)
            have HS4 := Aside0.mk (HS3.out.put HBM.out s hm4 hg4)
            rw [← HNM.out] at HS4
            have y5 : w4.cell? ⟨w.heap.size, 5, none⟩ = some (.slice A K.fs.length cap) := by have := cell_of (j := 5) HS4.out.box rfl; exact this
            clear hnb hmb hm4 hg4 HS3 hsz
            go_wp2_with fail
            clear hlk hup y5
            go_loopw [62] (fun kv wx => ∃ k : Nat, k ≤ K.fs.length ∧ kv = .int .i64 k ∧ Aside0 (LookSt w wx Bm ((List.range (i + 1)).map (K.nm c)) #[.string K.word, .func (.func K.fc) #[] #[], .func (.func K.fn) #[] #[], .int .i64 K.lo, .int .i64 K.hi, .slice A K.fs.length cap]) ∧ Aside0 (∀ (m : Nat) E', m < k → K.Es[m]? = some E' → E' c i = 0)) (fun kv _ => K.fs.length - (intOf kv).toNat)
            case atStart => exact ⟨0, by omega, rfl, HS4, ⟨fun m E' hm => by omega⟩⟩
            case round =>
              clear HS4
              obtain ⟨k, hk, rfl, HS, HP⟩ := hrel
              by_cases hkl : k < K.fs.length
              · have hdk : decide ((k : Int) < (K.fs.length : Int)) = true := decide_eq_true (by omega)
                obtain ⟨f, hf⟩ : ∃ f, K.fs[k]? = some f := ⟨_, List.getElem?_eq_getElem hkl⟩
                obtain ⟨E, hE⟩ : ∃ E, K.Es[k]? = some E := ⟨_, List.getElem?_eq_getElem (by rw [← HO.out.len]; exact hkl)⟩
                obtain ⟨ad, hA, hcl⟩ := (HF.out.below HS.out.bel) k f hf
                subst hA
                have hef := HO.out.ef f (List.mem_of_getElem? hf)
                unfold Ent at hef
                have HCK := Aside0.mk (HO.out.chk k f E hf hE wr B V c i (HA.out.below HS.out.bel) hlt HP.out)
                have HRR := Aside0.mk (fun he : E c i ≠ 0 => show errF K.Es c i = E c i from errF_some hE HP.out he)
                have HP2 := Aside0.mk (fun he : E c i = 0 => show ∀ (m : Nat) E', m < k + 1 → K.Es[m]? = some E' → E' c i = 0 from fun m E' hm hE' => by
                  rcases Nat.lt_succ_iff_lt_or_eq.mp hm with h1 | rfl
                  · exact HP.out m E' h1 hE'
                  · rw [hE] at hE'
                    injection hE' with hE'
                    rw [← hE']
                    exact he)
                clear hf hE
                generalize E c i = ev at *
                go_wp2_with fail
                refine HCK.out.mono ?_
                clear HCK
                rintro e w5 ⟨rfl, B5⟩
                have HS5 := Aside0.mk (HS.out.below B5)
                clear B5 hef hcl HS
                by_cases he : ev = 0
                · have hb : (ev != 0) = false := by simp [he]
                  have HP3 := Aside0.mk (HP2.out he)
                  clear he
                  go_wp2_with fail
                  go_roundw
                  case rel => exact ⟨k + 1, by omega, by go_num, HS5, HP3⟩
                  case measure => simp [intOf]; omega
                · have hb : (ev != 0) = true := by simp [he]
                  have HX := Aside0.mk (show K.look c = some (ev, i) from by
                    have hv : objV K.nm K.Es c i = ev := by rw [HV.out, HRR.out he]
                    rw [← hv]
                    exact HBAD.out (by rw [hv]; exact he))
                  have y0 : w5.cell? ⟨w.heap.size, 0, none⟩ = some (.string K.word) := by have := cell_of (j := 0) HS5.out.box rfl; exact this
                  clear he
                  go_wp2_with fail
                  go_ret
                  exact ⟨_, rfl, by rw [HX.out]; exact ⟨_, rfl, HS5.out.bel.size, heap_alloc_new _ _⟩, HS5.out.bel.alloc HS5.out.bel.size _⟩
              · have hdk : decide ((k : Int) < (K.fs.length : Int)) = false := decide_eq_false (by omega)
                have HN := Aside0.mk (show ∀ j, j < i + 1 → objV K.nm K.Es c j = 0 from fun j hj => by
                  rcases Nat.lt_succ_iff_lt_or_eq.mp hj with h1 | rfl
                  · exact HR.out j h1
                  · rw [HV.out]
                    refine errF_none (fun m E' hE' => HP.out m E' ?_ hE')
                    have := (List.getElem?_eq_some_iff.mp hE').1
                    rw [← HO.out.len] at this
                    omega)
                go_wp2_with fail
                go_roundw
                case rel => exact ⟨i + 1, by omega, by go_num, HS, HN⟩
                case measure => simp [intOf]; omega
          · rw [hmb] at hlk
            have HX := Aside0.mk (show K.look c = some (72, i) from by
              have hv : objV K.nm K.Es c i = 72 := by rw [HV.out, hnb, hmb]; rfl
              rw [← hv]
              exact HBAD.out (by rw [hv]; decide))
            have y0 : w3.cell? ⟨w.heap.size, 0, none⟩ = some (.string K.word) := by have := cell_of (j := 0) HS3.out.box rfl; exact this
            clear hnb hmb
            go_wp2_with fail
            go_ret
            exact ⟨_, rfl, by rw [HX.out]; exact ⟨_, rfl, HS3.out.bel.size, heap_alloc_new _ _⟩, HS3.out.bel.alloc HS3.out.bel.size _⟩
      · have hd : decide ((i : Int) < (K.n c : Int)) = false := decide_eq_false (by omega)
        have HX := Aside0.mk (show K.look c = none from by rw [HE.out]; exact firstF_none _ _ (fun j hj => HR.out j (by omega)))
        go_wp2_with fail
        go_ret
        exact ⟨_, rfl, by rw [HX.out]; rfl, HS.out.bel⟩
end Go.Proofs.YthckjbmgeidkgaaDoor.XA
