/- rows of each kind, written one behind the other. -/
import Derived.Test.YtbgcemijihpakaaG17
namespace Go.Proofs.Ytbgcemijihpakaa.XA
set_option linter.unusedVariables false
set_option linter.unusedSimpArgs false
open Go.RowKit Go.WideMaps Go.Maps Go.Proofs.YtbgcemijihpakaaW.PrintWords Go.Proofs.YtbgcemijihpakaaW.PrintLast Go.Proofs.YtbgcemijihpakaaW.PrintMore
theorem b1_len (x : Int) : (bytes1 [x]).length ≤ 8 := by have := bytes1_len [x]; simpa using this
theorem b2_len (x y : Int) : (bytes1 [x, y]).length ≤ 16 := by have := bytes1_len [x, y]; simpa using this
theorem b3_len (x y z : Int) : (bytes1 [x, y, z]).length ≤ 24 := by have := bytes1_len [x, y, z]; simpa using this
theorem flag_len (b : Bool) : (flagL b).length ≤ 8 := by have := leN_len 1 (if b then 1 else 0); unfold flagL; omega
theorem act_len (a : S100) : (actL a).length ≤ 20 := by have := b2_len a.f0 a.f1; have := leN_len 4 a.f2; unfold actL; simp only [List.length_append]; omega
theorem list_len (l : List Int) (h : l.length ≤ 1000) : (listL l).length ≤ 8008 := by have := b1_len (l.length : Int); have := bytes1_len l; unfold listL; simp only [List.length_append]; omega
theorem encTask_len {x : S69} (h : OkTask x) : (encTask x).length ≤ 8200 := by
 have := b2_len x.f0 x.f1; have := flag_len x.f2; have := b1_len x.f3; have := leN_len 4 x.f4; have := b1_len (x.f5 + 1); have := list_len x.f6 h.s6.1; have := leN_len 1 x.f7
 unfold encTask; simp only [List.length_append]; omega
theorem encRing_len {x : S88} (_h : OkRing x) : (encRing x).length ≤ 8200 := by have := b1_len x.f0; have := leN_len 2 x.f1; unfold encRing; simp only [List.length_append]; omega
theorem encRes_len {x : S66} (_h : OkRes x) : (encRes x).length ≤ 8200 := by have := b1_len (x.f1 + 1); have := flag_len x.f0; unfold encRes; simp only [List.length_append]; omega
theorem encCtr_len {x : S95} (_h : OkCtr x) : (encCtr x).length ≤ 8200 := by have := flat_len8 4 [x.f0, x.f1, x.f2] (by omega); simp only [List.length_cons, List.length_nil] at this; unfold encCtr; omega
theorem encAlm_len {x : S102} (_h : OkAlm x) : (encAlm x).length ≤ 8200 := by
 have h1 := flat_len8 4 [x.f3, x.f4] (by omega); have := b1_len x.f0; have := act_len x.f1; have := leN_len 1 x.f2
 simp only [List.length_cons, List.length_nil] at h1; unfold encAlm; simp only [List.length_append]; omega
theorem encIsr_len {x : S107} (h : OkIsr x) : (encIsr x).length ≤ 8200 := by have := b2_len x.f0 x.f1; have := list_len x.f2 h.s2.1; unfold encIsr; simp only [List.length_append]; omega
theorem encMsg_len {x : S113} (_h : OkMsg x) : (encMsg x).length ≤ 8200 := by
 have := b3_len x.f0 x.f1 x.f2; have := leN_len 8 x.f3; have := b1_len x.f4; have := act_len x.f5
 unfold encMsg; simp only [List.length_append]; omega
theorem flatF_len {α : Type} (f : α → List Int) (m : Nat) (xs : List α) (h : ∀ x ∈ xs, (f x).length ≤ m) : (xs.flatMap f).length ≤ m * xs.length := by
 induction xs with
 | nil => simp
 | cons x xs ih =>
  have h1 := h x (List.mem_cons_self ..)
  have h2 := ih (fun y hy => h y (List.mem_cons_of_mem _ hy))
  simp only [List.flatMap_cons, List.length_append, List.length_cons, Nat.mul_add, Nat.mul_one]
  omega
set_option maxRecDepth 1000000 in
set_option maxHeartbeats 4000000 in
theorem task_rows (w0 : World) (B base : Nat) (v : Value) (bs : List Int) (A : Option Addr) (c : Nat) (xs : List S69) (w : World) (hW : WS w base B v bs) (h0 : k69.C w0 A xs.length xs) (hc : xs.length ≤ c) (hb0 : Below w0.heap.size w0 w) (hbb : w0.heap.size ≤ base)
  (hok : ∀ x ∈ xs, OkTask x) (hn : xs.length ≤ 1000) (hlim : bs.length ≤ 500000000000) :
  Calls Try.prog 68 #[.pointer (some ⟨B, 0, none⟩), .slice A xs.length c, .func (.func 69) #[] #[]] w fun e w' => ∃ v', e = .returned (.tuple #[]) ∧ WS w' base B v' (bs ++ xs.flatMap encTask) ∧ Wr base w w' B v v' := by
 have HBS := Aside0.mk hW.base
 have HLIM := Aside0.mk hlim
 have HN := Aside0.mk hn
 have HOK := Aside0.mk hok
 have HBB := Aside0.mk hbb
 have H0 := Aside0.mk h0
 have HB0 := Aside0.mk hb0
 have HW := Aside0.mk hW
 have HR := Aside0.mk (Wr.refl base w B v)
 clear hW hlim hok hbb h0 hb0
 go_enter Try.func68, Try.ntmps68
 go_wp2_with fail
 go_loopg [10] xs.length (fun g i wr => ∃ (k : Nat) (v' : Value), k ≤ xs.length ∧ g = xs.length - k ∧ i = .int .i64 k ∧ Aside0 (WS wr base B v' (bs ++ (xs.take k).flatMap encTask)) ∧ Aside0 (Wr base w wr B v v'))
 case atStart => exact ⟨0, v, by omega, rfl, rfl, ⟨by simpa using HW.out⟩, HR⟩
 case round =>
  clear HW HR
  obtain ⟨k, v', hk, rfl, rfl, HW, HR⟩ := hrel
  by_cases hlt : k < xs.length
  ·have hd : decide ((k : Int) < (xs.length : Int)) = true := decide_eq_true (by omega)
   have HLT := Aside0.mk hlt
   have HBR := Aside0.mk (HB0.out.trans (HR.out.kp.low.mono HBB.out))
   obtain ⟨x, ad, A6, c6, hx, e, HA, l6, g6⟩ := task_at H0.out k hlt
   subst e
   have HAX := Aside0.mk (HA.below HBR.out)
   have HOX := Aside0.mk (show OkTask x from by have := HOK.out _ (getD_mem (d := z69) hlt); rwa [hx] at this)
   have HFS := Aside0.mk (show (xs.take (k + 1)).flatMap encTask = (xs.take k).flatMap encTask ++ encTask x from by
    rw [take_snoc xs k z69 hlt, List.flatMap_append, hx]; simp)
   have HFL := Aside0.mk (show ((xs.take k).flatMap encTask).length ≤ 8200 * 1000 from by
    have h1 := flatF_len encTask 8200 (xs.take k) (fun y hy => encTask_len (HOK.out y (List.mem_of_mem_take hy)))
    have h2 : (xs.take k).length ≤ xs.length := List.length_take_le' _ _
    have h3 : 8200 * (xs.take k).length ≤ 8200 * 1000 := Nat.mul_le_mul_left _ (by omega)
    omega)
   have HX := Aside0.mk (At69.made wr x A6 c6)
   have HW2 := Aside0.mk (HW.out.new (.cells #[.int .i64 x.f0, .int .i64 x.f1, .bool x.f2, .int .i64 x.f3, .int .u32 x.f4, .int .i64 x.f5, .slice A6 x.f6.length c6, .int .u32 x.f7] 69))
   have HR2 := Aside0.mk (HR.out.trans (Wr.new HW.out (.cells #[.int .i64 x.f0, .int .i64 x.f1, .bool x.f2, .int .i64 x.f3, .int .u32 x.f4, .int .i64 x.f5, .slice A6 x.f6.length c6, .int .u32 x.f7] 69)) HBS.out)
   clear hx HA HW HR HBR
   go_upto_region 3 with (first | ((with_reducible refine gate_dst (N := 13) rfl ?_); refine load69 HAX.out rfl (.tmp 12) rfl rfl ?_) | (refine store69 (by rfl) #[.int .i64 x.f0, .int .i64 x.f1, .bool x.f2, .int .i64 x.f3, .int .u32 x.f4, .int .i64 x.f5, .slice A6 x.f6.length c6, .int .u32 x.f7] (by rfl) (by simp [Value.oneCell']) (by rfl) (.tmp 7) (.tmp 13) (by rfl) (by rfl) (by rfl) (by rfl) ?_))
   generalize wr.alloc (.cells #[.int .i64 x.f0, .int .i64 x.f1, .bool x.f2, .int .i64 x.f3, .int .u32 x.f4, .int .i64 x.f5, .slice A6 x.f6.length c6, .int .u32 x.f7] 69) = w2 at *
   generalize wr.heap.size = P at *
   go_wp2_with ((with_reducible refine gate_dst (N := 16) rfl ?_); refine load69 HX.out rfl (.tmp 7) rfl rfl ?_)
   have HBW := HB0.out.trans (HR2.out.kp.low.mono HBB.out)
   refine (task_w_calls B base v' (bs ++ (xs.take k).flatMap encTask) x A6 c6 w2 HW2.out (by rw [List.length_append]; have := HFL.out; have := HLIM.out; omega) HOX.out (fun w1 h1 => Kd.C_below g6 (HBW.trans (h1.mono HBB.out))) l6).mono ?_
   rintro e w3 ⟨v3, rfl, W3, R3⟩
   rw [List.append_assoc, ← HFS.out] at W3
   have HW3 := Aside0.mk W3
   have HR3 := Aside0.mk (HR2.out.trans R3 HBS.out)
   clear W3 R3 HX HAX HBW
   go_wp2_with fail
   go_roundg (xs.length - (k + 1))
   case measure => have := HLT.out; omega
   case rel => exact ⟨k + 1, _, HLT.out, rfl, by go_num, HW3, HR3⟩
  ·have hd : decide ((k : Int) < (xs.length : Int)) = false := decide_eq_false (by omega)
   obtain rfl : k = xs.length := by omega
   rw [List.take_length] at HW
   go_wp2_with fail
   go_end0
   exact ⟨v', rfl, HW.out, HR.out⟩
set_option maxRecDepth 1000000 in
set_option maxHeartbeats 4000000 in
theorem ring_rows (w0 : World) (B base : Nat) (v : Value) (bs : List Int) (A : Option Addr) (c : Nat) (xs : List S88) (w : World) (hW : WS w base B v bs) (h0 : k88.C w0 A xs.length xs) (hc : xs.length ≤ c) (hb0 : Below w0.heap.size w0 w) (hbb : w0.heap.size ≤ base)
  (hok : ∀ x ∈ xs, OkRing x) (hn : xs.length ≤ 1000) (hlim : bs.length ≤ 500000000000) :
  Calls Try.prog 73 #[.pointer (some ⟨B, 0, none⟩), .slice A xs.length c, .func (.func 74) #[] #[]] w fun e w' => ∃ v', e = .returned (.tuple #[]) ∧ WS w' base B v' (bs ++ xs.flatMap encRing) ∧ Wr base w w' B v v' := by
 have HBS := Aside0.mk hW.base
 have HLIM := Aside0.mk hlim
 have HN := Aside0.mk hn
 have HOK := Aside0.mk hok
 have HBB := Aside0.mk hbb
 have H0 := Aside0.mk h0
 have HB0 := Aside0.mk hb0
 have HW := Aside0.mk hW
 have HR := Aside0.mk (Wr.refl base w B v)
 clear hW hlim hok hbb h0 hb0
 go_enter Try.func73, Try.ntmps73
 go_wp2_with fail
 go_loopg [10] xs.length (fun g i wr => ∃ (k : Nat) (v' : Value), k ≤ xs.length ∧ g = xs.length - k ∧ i = .int .i64 k ∧ Aside0 (WS wr base B v' (bs ++ (xs.take k).flatMap encRing)) ∧ Aside0 (Wr base w wr B v v'))
 case atStart => exact ⟨0, v, by omega, rfl, rfl, ⟨by simpa using HW.out⟩, HR⟩
 case round =>
  clear HW HR
  obtain ⟨k, v', hk, rfl, rfl, HW, HR⟩ := hrel
  by_cases hlt : k < xs.length
  ·have hd : decide ((k : Int) < (xs.length : Int)) = true := decide_eq_true (by omega)
   have HLT := Aside0.mk hlt
   have HBR := Aside0.mk (HB0.out.trans (HR.out.kp.low.mono HBB.out))
   obtain ⟨x, ad, hx, e, HA⟩ := ring_at H0.out k hlt
   subst e
   have HAX := Aside0.mk (HA.below HBR.out)
   have HOX := Aside0.mk (show OkRing x from by have := HOK.out _ (getD_mem (d := z88) hlt); rwa [hx] at this)
   have HFS := Aside0.mk (show (xs.take (k + 1)).flatMap encRing = (xs.take k).flatMap encRing ++ encRing x from by
    rw [take_snoc xs k z88 hlt, List.flatMap_append, hx]; simp)
   have HFL := Aside0.mk (show ((xs.take k).flatMap encRing).length ≤ 8200 * 1000 from by
    have h1 := flatF_len encRing 8200 (xs.take k) (fun y hy => encRing_len (HOK.out y (List.mem_of_mem_take hy)))
    have h2 : (xs.take k).length ≤ xs.length := List.length_take_le' _ _
    have h3 : 8200 * (xs.take k).length ≤ 8200 * 1000 := Nat.mul_le_mul_left _ (by omega)
    omega)
   have HX := Aside0.mk (At88.made wr x )
   have HW2 := Aside0.mk (HW.out.new (.cells #[.int .i64 x.f0, .int .i64 x.f1] 88))
   have HR2 := Aside0.mk (HR.out.trans (Wr.new HW.out (.cells #[.int .i64 x.f0, .int .i64 x.f1] 88)) HBS.out)
   clear hx HA HW HR HBR
   go_upto_region 3 with (first | ((with_reducible refine gate_dst (N := 13) rfl ?_); refine load88 HAX.out rfl (.tmp 12) rfl rfl ?_) | (refine store88 (by rfl) #[.int .i64 x.f0, .int .i64 x.f1] (by rfl) (by simp [Value.oneCell']) (by rfl) (.tmp 7) (.tmp 13) (by rfl) (by rfl) (by rfl) (by rfl) ?_))
   generalize wr.alloc (.cells #[.int .i64 x.f0, .int .i64 x.f1] 88) = w2 at *
   generalize wr.heap.size = P at *
   go_wp2_with ((with_reducible refine gate_dst (N := 16) rfl ?_); refine load88 HX.out rfl (.tmp 7) rfl rfl ?_)
   have HBW := HB0.out.trans (HR2.out.kp.low.mono HBB.out)
   refine (ring_w_calls B base v' (bs ++ (xs.take k).flatMap encRing) x  w2 HW2.out (by rw [List.length_append]; have := HFL.out; have := HLIM.out; omega) HOX.out).mono ?_
   rintro e w3 ⟨v3, rfl, W3, R3⟩
   rw [List.append_assoc, ← HFS.out] at W3
   have HW3 := Aside0.mk W3
   have HR3 := Aside0.mk (HR2.out.trans R3 HBS.out)
   clear W3 R3 HX HAX HBW
   go_wp2_with fail
   go_roundg (xs.length - (k + 1))
   case measure => have := HLT.out; omega
   case rel => exact ⟨k + 1, _, HLT.out, rfl, by go_num, HW3, HR3⟩
  ·have hd : decide ((k : Int) < (xs.length : Int)) = false := decide_eq_false (by omega)
   obtain rfl : k = xs.length := by omega
   rw [List.take_length] at HW
   go_wp2_with fail
   go_end0
   exact ⟨v', rfl, HW.out, HR.out⟩
set_option maxRecDepth 1000000 in
set_option maxHeartbeats 4000000 in
theorem res_rows (w0 : World) (B base : Nat) (v : Value) (bs : List Int) (A : Option Addr) (c : Nat) (xs : List S66) (w : World) (hW : WS w base B v bs) (h0 : k66.C w0 A xs.length xs) (hc : xs.length ≤ c) (hb0 : Below w0.heap.size w0 w) (hbb : w0.heap.size ≤ base)
  (hok : ∀ x ∈ xs, OkRes x) (hn : xs.length ≤ 1000) (hlim : bs.length ≤ 500000000000) :
  Calls Try.prog 75 #[.pointer (some ⟨B, 0, none⟩), .slice A xs.length c, .func (.func 76) #[] #[]] w fun e w' => ∃ v', e = .returned (.tuple #[]) ∧ WS w' base B v' (bs ++ xs.flatMap encRes) ∧ Wr base w w' B v v' := by
 have HBS := Aside0.mk hW.base
 have HLIM := Aside0.mk hlim
 have HN := Aside0.mk hn
 have HOK := Aside0.mk hok
 have HBB := Aside0.mk hbb
 have H0 := Aside0.mk h0
 have HB0 := Aside0.mk hb0
 have HW := Aside0.mk hW
 have HR := Aside0.mk (Wr.refl base w B v)
 clear hW hlim hok hbb h0 hb0
 go_enter Try.func75, Try.ntmps75
 go_wp2_with fail
 go_loopg [10] xs.length (fun g i wr => ∃ (k : Nat) (v' : Value), k ≤ xs.length ∧ g = xs.length - k ∧ i = .int .i64 k ∧ Aside0 (WS wr base B v' (bs ++ (xs.take k).flatMap encRes)) ∧ Aside0 (Wr base w wr B v v'))
 case atStart => exact ⟨0, v, by omega, rfl, rfl, ⟨by simpa using HW.out⟩, HR⟩
 case round =>
  clear HW HR
  obtain ⟨k, v', hk, rfl, rfl, HW, HR⟩ := hrel
  by_cases hlt : k < xs.length
  ·have hd : decide ((k : Int) < (xs.length : Int)) = true := decide_eq_true (by omega)
   have HLT := Aside0.mk hlt
   have HBR := Aside0.mk (HB0.out.trans (HR.out.kp.low.mono HBB.out))
   obtain ⟨x, ad, hx, e, HA⟩ := res_at H0.out k hlt
   subst e
   have HAX := Aside0.mk (HA.below HBR.out)
   have HOX := Aside0.mk (show OkRes x from by have := HOK.out _ (getD_mem (d := z66) hlt); rwa [hx] at this)
   have HFS := Aside0.mk (show (xs.take (k + 1)).flatMap encRes = (xs.take k).flatMap encRes ++ encRes x from by
    rw [take_snoc xs k z66 hlt, List.flatMap_append, hx]; simp)
   have HFL := Aside0.mk (show ((xs.take k).flatMap encRes).length ≤ 8200 * 1000 from by
    have h1 := flatF_len encRes 8200 (xs.take k) (fun y hy => encRes_len (HOK.out y (List.mem_of_mem_take hy)))
    have h2 : (xs.take k).length ≤ xs.length := List.length_take_le' _ _
    have h3 : 8200 * (xs.take k).length ≤ 8200 * 1000 := Nat.mul_le_mul_left _ (by omega)
    omega)
   have HX := Aside0.mk (At66.made wr x )
   have HW2 := Aside0.mk (HW.out.new (.cells #[.bool x.f0, .int .i64 x.f1] 66))
   have HR2 := Aside0.mk (HR.out.trans (Wr.new HW.out (.cells #[.bool x.f0, .int .i64 x.f1] 66)) HBS.out)
   clear hx HA HW HR HBR
   go_upto_region 3 with (first | ((with_reducible refine gate_dst (N := 13) rfl ?_); refine load66 HAX.out rfl (.tmp 12) rfl rfl ?_) | (refine store66 (by rfl) #[.bool x.f0, .int .i64 x.f1] (by rfl) (by simp [Value.oneCell']) (by rfl) (.tmp 7) (.tmp 13) (by rfl) (by rfl) (by rfl) (by rfl) ?_))
   generalize wr.alloc (.cells #[.bool x.f0, .int .i64 x.f1] 66) = w2 at *
   generalize wr.heap.size = P at *
   go_wp2_with ((with_reducible refine gate_dst (N := 16) rfl ?_); refine load66 HX.out rfl (.tmp 7) rfl rfl ?_)
   have HBW := HB0.out.trans (HR2.out.kp.low.mono HBB.out)
   refine (res_w_calls B base v' (bs ++ (xs.take k).flatMap encRes) x  w2 HW2.out (by rw [List.length_append]; have := HFL.out; have := HLIM.out; omega) HOX.out).mono ?_
   rintro e w3 ⟨v3, rfl, W3, R3⟩
   rw [List.append_assoc, ← HFS.out] at W3
   have HW3 := Aside0.mk W3
   have HR3 := Aside0.mk (HR2.out.trans R3 HBS.out)
   clear W3 R3 HX HAX HBW
   go_wp2_with fail
   go_roundg (xs.length - (k + 1))
   case measure => have := HLT.out; omega
   case rel => exact ⟨k + 1, _, HLT.out, rfl, by go_num, HW3, HR3⟩
  ·have hd : decide ((k : Int) < (xs.length : Int)) = false := decide_eq_false (by omega)
   obtain rfl : k = xs.length := by omega
   rw [List.take_length] at HW
   go_wp2_with fail
   go_end0
   exact ⟨v', rfl, HW.out, HR.out⟩
set_option maxRecDepth 1000000 in
set_option maxHeartbeats 4000000 in
theorem ctr_rows (w0 : World) (B base : Nat) (v : Value) (bs : List Int) (A : Option Addr) (c : Nat) (xs : List S95) (w : World) (hW : WS w base B v bs) (h0 : k95.C w0 A xs.length xs) (hc : xs.length ≤ c) (hb0 : Below w0.heap.size w0 w) (hbb : w0.heap.size ≤ base)
  (hok : ∀ x ∈ xs, OkCtr x) (hn : xs.length ≤ 1000) (hlim : bs.length ≤ 500000000000) :
  Calls Try.prog 77 #[.pointer (some ⟨B, 0, none⟩), .slice A xs.length c, .func (.func 78) #[] #[]] w fun e w' => ∃ v', e = .returned (.tuple #[]) ∧ WS w' base B v' (bs ++ xs.flatMap encCtr) ∧ Wr base w w' B v v' := by
 have HBS := Aside0.mk hW.base
 have HLIM := Aside0.mk hlim
 have HN := Aside0.mk hn
 have HOK := Aside0.mk hok
 have HBB := Aside0.mk hbb
 have H0 := Aside0.mk h0
 have HB0 := Aside0.mk hb0
 have HW := Aside0.mk hW
 have HR := Aside0.mk (Wr.refl base w B v)
 clear hW hlim hok hbb h0 hb0
 go_enter Try.func77, Try.ntmps77
 go_wp2_with fail
 go_loopg [10] xs.length (fun g i wr => ∃ (k : Nat) (v' : Value), k ≤ xs.length ∧ g = xs.length - k ∧ i = .int .i64 k ∧ Aside0 (WS wr base B v' (bs ++ (xs.take k).flatMap encCtr)) ∧ Aside0 (Wr base w wr B v v'))
 case atStart => exact ⟨0, v, by omega, rfl, rfl, ⟨by simpa using HW.out⟩, HR⟩
 case round =>
  clear HW HR
  obtain ⟨k, v', hk, rfl, rfl, HW, HR⟩ := hrel
  by_cases hlt : k < xs.length
  ·have hd : decide ((k : Int) < (xs.length : Int)) = true := decide_eq_true (by omega)
   have HLT := Aside0.mk hlt
   have HBR := Aside0.mk (HB0.out.trans (HR.out.kp.low.mono HBB.out))
   obtain ⟨x, ad, hx, e, HA⟩ := ctr_at H0.out k hlt
   subst e
   have HAX := Aside0.mk (HA.below HBR.out)
   have HOX := Aside0.mk (show OkCtr x from by have := HOK.out _ (getD_mem (d := z95) hlt); rwa [hx] at this)
   have HFS := Aside0.mk (show (xs.take (k + 1)).flatMap encCtr = (xs.take k).flatMap encCtr ++ encCtr x from by
    rw [take_snoc xs k z95 hlt, List.flatMap_append, hx]; simp)
   have HFL := Aside0.mk (show ((xs.take k).flatMap encCtr).length ≤ 8200 * 1000 from by
    have h1 := flatF_len encCtr 8200 (xs.take k) (fun y hy => encCtr_len (HOK.out y (List.mem_of_mem_take hy)))
    have h2 : (xs.take k).length ≤ xs.length := List.length_take_le' _ _
    have h3 : 8200 * (xs.take k).length ≤ 8200 * 1000 := Nat.mul_le_mul_left _ (by omega)
    omega)
   have HX := Aside0.mk (At95.made wr x )
   have HW2 := Aside0.mk (HW.out.new (.cells #[.int .u32 x.f0, .int .u32 x.f1, .int .u32 x.f2] 95))
   have HR2 := Aside0.mk (HR.out.trans (Wr.new HW.out (.cells #[.int .u32 x.f0, .int .u32 x.f1, .int .u32 x.f2] 95)) HBS.out)
   clear hx HA HW HR HBR
   go_upto_region 3 with (first | ((with_reducible refine gate_dst (N := 13) rfl ?_); refine load95 HAX.out rfl (.tmp 12) rfl rfl ?_) | (refine store95 (by rfl) #[.int .u32 x.f0, .int .u32 x.f1, .int .u32 x.f2] (by rfl) (by simp [Value.oneCell']) (by rfl) (.tmp 7) (.tmp 13) (by rfl) (by rfl) (by rfl) (by rfl) ?_))
   generalize wr.alloc (.cells #[.int .u32 x.f0, .int .u32 x.f1, .int .u32 x.f2] 95) = w2 at *
   generalize wr.heap.size = P at *
   go_wp2_with ((with_reducible refine gate_dst (N := 16) rfl ?_); refine load95 HX.out rfl (.tmp 7) rfl rfl ?_)
   have HBW := HB0.out.trans (HR2.out.kp.low.mono HBB.out)
   refine (ctr_w_calls B base v' (bs ++ (xs.take k).flatMap encCtr) x  w2 HW2.out (by rw [List.length_append]; have := HFL.out; have := HLIM.out; omega) HOX.out).mono ?_
   rintro e w3 ⟨v3, rfl, W3, R3⟩
   rw [List.append_assoc, ← HFS.out] at W3
   have HW3 := Aside0.mk W3
   have HR3 := Aside0.mk (HR2.out.trans R3 HBS.out)
   clear W3 R3 HX HAX HBW
   go_wp2_with fail
   go_roundg (xs.length - (k + 1))
   case measure => have := HLT.out; omega
   case rel => exact ⟨k + 1, _, HLT.out, rfl, by go_num, HW3, HR3⟩
  ·have hd : decide ((k : Int) < (xs.length : Int)) = false := decide_eq_false (by omega)
   obtain rfl : k = xs.length := by omega
   rw [List.take_length] at HW
   go_wp2_with fail
   go_end0
   exact ⟨v', rfl, HW.out, HR.out⟩
set_option maxRecDepth 1000000 in
set_option maxHeartbeats 4000000 in
theorem alm_rows (w0 : World) (B base : Nat) (v : Value) (bs : List Int) (A : Option Addr) (c : Nat) (xs : List S102) (w : World) (hW : WS w base B v bs) (h0 : k102.C w0 A xs.length xs) (hc : xs.length ≤ c) (hb0 : Below w0.heap.size w0 w) (hbb : w0.heap.size ≤ base)
  (hok : ∀ x ∈ xs, OkAlm x) (hn : xs.length ≤ 1000) (hlim : bs.length ≤ 500000000000) :
  Calls Try.prog 79 #[.pointer (some ⟨B, 0, none⟩), .slice A xs.length c, .func (.func 80) #[] #[]] w fun e w' => ∃ v', e = .returned (.tuple #[]) ∧ WS w' base B v' (bs ++ xs.flatMap encAlm) ∧ Wr base w w' B v v' := by
 have HBS := Aside0.mk hW.base
 have HLIM := Aside0.mk hlim
 have HN := Aside0.mk hn
 have HOK := Aside0.mk hok
 have HBB := Aside0.mk hbb
 have H0 := Aside0.mk h0
 have HB0 := Aside0.mk hb0
 have HW := Aside0.mk hW
 have HR := Aside0.mk (Wr.refl base w B v)
 clear hW hlim hok hbb h0 hb0
 go_enter Try.func79, Try.ntmps79
 go_wp2_with fail
 go_loopg [10] xs.length (fun g i wr => ∃ (k : Nat) (v' : Value), k ≤ xs.length ∧ g = xs.length - k ∧ i = .int .i64 k ∧ Aside0 (WS wr base B v' (bs ++ (xs.take k).flatMap encAlm)) ∧ Aside0 (Wr base w wr B v v'))
 case atStart => exact ⟨0, v, by omega, rfl, rfl, ⟨by simpa using HW.out⟩, HR⟩
 case round =>
  clear HW HR
  obtain ⟨k, v', hk, rfl, rfl, HW, HR⟩ := hrel
  by_cases hlt : k < xs.length
  ·have hd : decide ((k : Int) < (xs.length : Int)) = true := decide_eq_true (by omega)
   have HLT := Aside0.mk hlt
   have HBR := Aside0.mk (HB0.out.trans (HR.out.kp.low.mono HBB.out))
   obtain ⟨x, ad, hx, e, HA⟩ := alm_at H0.out k hlt
   subst e
   have HAX := Aside0.mk (HA.below HBR.out)
   have HOX := Aside0.mk (show OkAlm x from by have := HOK.out _ (getD_mem (d := z102) hlt); rwa [hx] at this)
   have HFS := Aside0.mk (show (xs.take (k + 1)).flatMap encAlm = (xs.take k).flatMap encAlm ++ encAlm x from by
    rw [take_snoc xs k z102 hlt, List.flatMap_append, hx]; simp)
   have HFL := Aside0.mk (show ((xs.take k).flatMap encAlm).length ≤ 8200 * 1000 from by
    have h1 := flatF_len encAlm 8200 (xs.take k) (fun y hy => encAlm_len (HOK.out y (List.mem_of_mem_take hy)))
    have h2 : (xs.take k).length ≤ xs.length := List.length_take_le' _ _
    have h3 : 8200 * (xs.take k).length ≤ 8200 * 1000 := Nat.mul_le_mul_left _ (by omega)
    omega)
   have HX := Aside0.mk (At102.made wr x )
   have HW2 := Aside0.mk (HW.out.new (.cells #[.int .i64 x.f0, .int .i64 x.f1.f0, .int .i64 x.f1.f1, .int .u32 x.f1.f2, .int .u32 x.f2, .int .u32 x.f3, .int .u32 x.f4] 102))
   have HR2 := Aside0.mk (HR.out.trans (Wr.new HW.out (.cells #[.int .i64 x.f0, .int .i64 x.f1.f0, .int .i64 x.f1.f1, .int .u32 x.f1.f2, .int .u32 x.f2, .int .u32 x.f3, .int .u32 x.f4] 102)) HBS.out)
   clear hx HA HW HR HBR
   go_upto_region 3 with (first | ((with_reducible refine gate_dst (N := 13) rfl ?_); refine load102 HAX.out rfl (.tmp 12) rfl rfl ?_) | (refine store102 (by rfl) #[.int .i64 x.f0, .int .i64 x.f1.f0, .int .i64 x.f1.f1, .int .u32 x.f1.f2, .int .u32 x.f2, .int .u32 x.f3, .int .u32 x.f4] (by rfl) (by simp [Value.oneCell']) (by rfl) (.tmp 7) (.tmp 13) (by rfl) (by rfl) (by rfl) (by rfl) ?_))
   generalize wr.alloc (.cells #[.int .i64 x.f0, .int .i64 x.f1.f0, .int .i64 x.f1.f1, .int .u32 x.f1.f2, .int .u32 x.f2, .int .u32 x.f3, .int .u32 x.f4] 102) = w2 at *
   generalize wr.heap.size = P at *
   go_wp2_with ((with_reducible refine gate_dst (N := 16) rfl ?_); refine load102 HX.out rfl (.tmp 7) rfl rfl ?_)
   have HBW := HB0.out.trans (HR2.out.kp.low.mono HBB.out)
   refine (alm_w_calls B base v' (bs ++ (xs.take k).flatMap encAlm) x  w2 HW2.out (by rw [List.length_append]; have := HFL.out; have := HLIM.out; omega) HOX.out).mono ?_
   rintro e w3 ⟨v3, rfl, W3, R3⟩
   rw [List.append_assoc, ← HFS.out] at W3
   have HW3 := Aside0.mk W3
   have HR3 := Aside0.mk (HR2.out.trans R3 HBS.out)
   clear W3 R3 HX HAX HBW
   go_wp2_with fail
   go_roundg (xs.length - (k + 1))
   case measure => have := HLT.out; omega
   case rel => exact ⟨k + 1, _, HLT.out, rfl, by go_num, HW3, HR3⟩
  ·have hd : decide ((k : Int) < (xs.length : Int)) = false := decide_eq_false (by omega)
   obtain rfl : k = xs.length := by omega
   rw [List.take_length] at HW
   go_wp2_with fail
   go_end0
   exact ⟨v', rfl, HW.out, HR.out⟩
set_option maxRecDepth 1000000 in
set_option maxHeartbeats 4000000 in
theorem isr_rows (w0 : World) (B base : Nat) (v : Value) (bs : List Int) (A : Option Addr) (c : Nat) (xs : List S107) (w : World) (hW : WS w base B v bs) (h0 : k107.C w0 A xs.length xs) (hc : xs.length ≤ c) (hb0 : Below w0.heap.size w0 w) (hbb : w0.heap.size ≤ base)
  (hok : ∀ x ∈ xs, OkIsr x) (hn : xs.length ≤ 1000) (hlim : bs.length ≤ 500000000000) :
  Calls Try.prog 82 #[.pointer (some ⟨B, 0, none⟩), .slice A xs.length c, .func (.func 83) #[] #[]] w fun e w' => ∃ v', e = .returned (.tuple #[]) ∧ WS w' base B v' (bs ++ xs.flatMap encIsr) ∧ Wr base w w' B v v' := by
 have HBS := Aside0.mk hW.base
 have HLIM := Aside0.mk hlim
 have HN := Aside0.mk hn
 have HOK := Aside0.mk hok
 have HBB := Aside0.mk hbb
 have H0 := Aside0.mk h0
 have HB0 := Aside0.mk hb0
 have HW := Aside0.mk hW
 have HR := Aside0.mk (Wr.refl base w B v)
 clear hW hlim hok hbb h0 hb0
 go_enter Try.func82, Try.ntmps82
 go_wp2_with fail
 go_loopg [10] xs.length (fun g i wr => ∃ (k : Nat) (v' : Value), k ≤ xs.length ∧ g = xs.length - k ∧ i = .int .i64 k ∧ Aside0 (WS wr base B v' (bs ++ (xs.take k).flatMap encIsr)) ∧ Aside0 (Wr base w wr B v v'))
 case atStart => exact ⟨0, v, by omega, rfl, rfl, ⟨by simpa using HW.out⟩, HR⟩
 case round =>
  clear HW HR
  obtain ⟨k, v', hk, rfl, rfl, HW, HR⟩ := hrel
  by_cases hlt : k < xs.length
  ·have hd : decide ((k : Int) < (xs.length : Int)) = true := decide_eq_true (by omega)
   have HLT := Aside0.mk hlt
   have HBR := Aside0.mk (HB0.out.trans (HR.out.kp.low.mono HBB.out))
   obtain ⟨x, ad, A2, c2, hx, e, HA, l2, g2⟩ := isr_at H0.out k hlt
   subst e
   have HAX := Aside0.mk (HA.below HBR.out)
   have HOX := Aside0.mk (show OkIsr x from by have := HOK.out _ (getD_mem (d := z107) hlt); rwa [hx] at this)
   have HFS := Aside0.mk (show (xs.take (k + 1)).flatMap encIsr = (xs.take k).flatMap encIsr ++ encIsr x from by
    rw [take_snoc xs k z107 hlt, List.flatMap_append, hx]; simp)
   have HFL := Aside0.mk (show ((xs.take k).flatMap encIsr).length ≤ 8200 * 1000 from by
    have h1 := flatF_len encIsr 8200 (xs.take k) (fun y hy => encIsr_len (HOK.out y (List.mem_of_mem_take hy)))
    have h2 : (xs.take k).length ≤ xs.length := List.length_take_le' _ _
    have h3 : 8200 * (xs.take k).length ≤ 8200 * 1000 := Nat.mul_le_mul_left _ (by omega)
    omega)
   have HX := Aside0.mk (At107.made wr x A2 c2)
   have HW2 := Aside0.mk (HW.out.new (.cells #[.int .i64 x.f0, .int .i64 x.f1, .slice A2 x.f2.length c2] 107))
   have HR2 := Aside0.mk (HR.out.trans (Wr.new HW.out (.cells #[.int .i64 x.f0, .int .i64 x.f1, .slice A2 x.f2.length c2] 107)) HBS.out)
   clear hx HA HW HR HBR
   go_upto_region 3 with (first | ((with_reducible refine gate_dst (N := 13) rfl ?_); refine load107 HAX.out rfl (.tmp 12) rfl rfl ?_) | (refine store107 (by rfl) #[.int .i64 x.f0, .int .i64 x.f1, .slice A2 x.f2.length c2] (by rfl) (by simp [Value.oneCell']) (by rfl) (.tmp 7) (.tmp 13) (by rfl) (by rfl) (by rfl) (by rfl) ?_))
   generalize wr.alloc (.cells #[.int .i64 x.f0, .int .i64 x.f1, .slice A2 x.f2.length c2] 107) = w2 at *
   generalize wr.heap.size = P at *
   go_wp2_with ((with_reducible refine gate_dst (N := 16) rfl ?_); refine load107 HX.out rfl (.tmp 7) rfl rfl ?_)
   have HBW := HB0.out.trans (HR2.out.kp.low.mono HBB.out)
   refine (isr_w_calls B base v' (bs ++ (xs.take k).flatMap encIsr) x A2 c2 w2 HW2.out (by rw [List.length_append]; have := HFL.out; have := HLIM.out; omega) HOX.out (fun w1 h1 => Kd.C_below g2 (HBW.trans (h1.mono HBB.out))) l2).mono ?_
   rintro e w3 ⟨v3, rfl, W3, R3⟩
   rw [List.append_assoc, ← HFS.out] at W3
   have HW3 := Aside0.mk W3
   have HR3 := Aside0.mk (HR2.out.trans R3 HBS.out)
   clear W3 R3 HX HAX HBW
   go_wp2_with fail
   go_roundg (xs.length - (k + 1))
   case measure => have := HLT.out; omega
   case rel => exact ⟨k + 1, _, HLT.out, rfl, by go_num, HW3, HR3⟩
  ·have hd : decide ((k : Int) < (xs.length : Int)) = false := decide_eq_false (by omega)
   obtain rfl : k = xs.length := by omega
   rw [List.take_length] at HW
   go_wp2_with fail
   go_end0
   exact ⟨v', rfl, HW.out, HR.out⟩
set_option maxRecDepth 1000000 in
set_option maxHeartbeats 4000000 in
theorem msg_rows (w0 : World) (B base : Nat) (v : Value) (bs : List Int) (A : Option Addr) (c : Nat) (xs : List S113) (w : World) (hW : WS w base B v bs) (h0 : k113.C w0 A xs.length xs) (hc : xs.length ≤ c) (hb0 : Below w0.heap.size w0 w) (hbb : w0.heap.size ≤ base)
  (hok : ∀ x ∈ xs, OkMsg x) (hn : xs.length ≤ 1000) (hlim : bs.length ≤ 500000000000) :
  Calls Try.prog 84 #[.pointer (some ⟨B, 0, none⟩), .slice A xs.length c, .func (.func 85) #[] #[]] w fun e w' => ∃ v', e = .returned (.tuple #[]) ∧ WS w' base B v' (bs ++ xs.flatMap encMsg) ∧ Wr base w w' B v v' := by
 have HBS := Aside0.mk hW.base
 have HLIM := Aside0.mk hlim
 have HN := Aside0.mk hn
 have HOK := Aside0.mk hok
 have HBB := Aside0.mk hbb
 have H0 := Aside0.mk h0
 have HB0 := Aside0.mk hb0
 have HW := Aside0.mk hW
 have HR := Aside0.mk (Wr.refl base w B v)
 clear hW hlim hok hbb h0 hb0
 go_enter Try.func84, Try.ntmps84
 go_wp2_with fail
 go_loopg [10] xs.length (fun g i wr => ∃ (k : Nat) (v' : Value), k ≤ xs.length ∧ g = xs.length - k ∧ i = .int .i64 k ∧ Aside0 (WS wr base B v' (bs ++ (xs.take k).flatMap encMsg)) ∧ Aside0 (Wr base w wr B v v'))
 case atStart => exact ⟨0, v, by omega, rfl, rfl, ⟨by simpa using HW.out⟩, HR⟩
 case round =>
  clear HW HR
  obtain ⟨k, v', hk, rfl, rfl, HW, HR⟩ := hrel
  by_cases hlt : k < xs.length
  ·have hd : decide ((k : Int) < (xs.length : Int)) = true := decide_eq_true (by omega)
   have HLT := Aside0.mk hlt
   have HBR := Aside0.mk (HB0.out.trans (HR.out.kp.low.mono HBB.out))
   obtain ⟨x, ad, hx, e, HA⟩ := msg_at H0.out k hlt
   subst e
   have HAX := Aside0.mk (HA.below HBR.out)
   have HOX := Aside0.mk (show OkMsg x from by have := HOK.out _ (getD_mem (d := z113) hlt); rwa [hx] at this)
   have HFS := Aside0.mk (show (xs.take (k + 1)).flatMap encMsg = (xs.take k).flatMap encMsg ++ encMsg x from by
    rw [take_snoc xs k z113 hlt, List.flatMap_append, hx]; simp)
   have HFL := Aside0.mk (show ((xs.take k).flatMap encMsg).length ≤ 8200 * 1000 from by
    have h1 := flatF_len encMsg 8200 (xs.take k) (fun y hy => encMsg_len (HOK.out y (List.mem_of_mem_take hy)))
    have h2 : (xs.take k).length ≤ xs.length := List.length_take_le' _ _
    have h3 : 8200 * (xs.take k).length ≤ 8200 * 1000 := Nat.mul_le_mul_left _ (by omega)
    omega)
   have HX := Aside0.mk (At113.made wr x )
   have HW2 := Aside0.mk (HW.out.new (.cells #[.int .i64 x.f0, .int .i64 x.f1, .int .i64 x.f2, .int .u64 x.f3, .int .i64 x.f4, .int .i64 x.f5.f0, .int .i64 x.f5.f1, .int .u32 x.f5.f2] 113))
   have HR2 := Aside0.mk (HR.out.trans (Wr.new HW.out (.cells #[.int .i64 x.f0, .int .i64 x.f1, .int .i64 x.f2, .int .u64 x.f3, .int .i64 x.f4, .int .i64 x.f5.f0, .int .i64 x.f5.f1, .int .u32 x.f5.f2] 113)) HBS.out)
   clear hx HA HW HR HBR
   go_upto_region 3 with (first | ((with_reducible refine gate_dst (N := 13) rfl ?_); refine load113 HAX.out rfl (.tmp 12) rfl rfl ?_) | (refine store113 (by rfl) #[.int .i64 x.f0, .int .i64 x.f1, .int .i64 x.f2, .int .u64 x.f3, .int .i64 x.f4, .int .i64 x.f5.f0, .int .i64 x.f5.f1, .int .u32 x.f5.f2] (by rfl) (by simp [Value.oneCell']) (by rfl) (.tmp 7) (.tmp 13) (by rfl) (by rfl) (by rfl) (by rfl) ?_))
   generalize wr.alloc (.cells #[.int .i64 x.f0, .int .i64 x.f1, .int .i64 x.f2, .int .u64 x.f3, .int .i64 x.f4, .int .i64 x.f5.f0, .int .i64 x.f5.f1, .int .u32 x.f5.f2] 113) = w2 at *
   generalize wr.heap.size = P at *
   go_wp2_with ((with_reducible refine gate_dst (N := 16) rfl ?_); refine load113 HX.out rfl (.tmp 7) rfl rfl ?_)
   have HBW := HB0.out.trans (HR2.out.kp.low.mono HBB.out)
   refine (msg_w_calls B base v' (bs ++ (xs.take k).flatMap encMsg) x  w2 HW2.out (by rw [List.length_append]; have := HFL.out; have := HLIM.out; omega) HOX.out).mono ?_
   rintro e w3 ⟨v3, rfl, W3, R3⟩
   rw [List.append_assoc, ← HFS.out] at W3
   have HW3 := Aside0.mk W3
   have HR3 := Aside0.mk (HR2.out.trans R3 HBS.out)
   clear W3 R3 HX HAX HBW
   go_wp2_with fail
   go_roundg (xs.length - (k + 1))
   case measure => have := HLT.out; omega
   case rel => exact ⟨k + 1, _, HLT.out, rfl, by go_num, HW3, HR3⟩
  ·have hd : decide ((k : Int) < (xs.length : Int)) = false := decide_eq_false (by omega)
   obtain rfl : k = xs.length := by omega
   rw [List.take_length] at HW
   go_wp2_with fail
   go_end0
   exact ⟨v', rfl, HW.out, HR.out⟩
end Go.Proofs.Ytbgcemijihpakaa.XA
