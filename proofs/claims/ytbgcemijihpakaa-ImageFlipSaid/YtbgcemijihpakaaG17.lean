/- the writer's flag, maybe, list, action; a row of each kind. -/
import Derived.Test.YtbgcemijihpakaaG16
namespace Go.Proofs.Ytbgcemijihpakaa.XA
set_option linter.unusedVariables false
set_option linter.unusedSimpArgs false
open Go.RowKit Go.WideMaps Go.Maps Go.Proofs.YtbgcemijihpakaaW.PrintWords Go.Proofs.YtbgcemijihpakaaW.PrintLast Go.Proofs.YtbgcemijihpakaaW.PrintMore
theorem box_kept {w w' : World} {base B P : Nat} {T : TypeId} {v : Value} {bs : List Int} {cs : Array Value} (hW : WS w base B v bs) (hk : Kp base w w' B v) (h : w.heap[P]? = some (.cells cs T (0, 0))) (h1 : T ≠ 59) (h2 : 5 ≠ T) : w'.heap[P]? = some (.cells cs T (0, 0)) := by
 refine (hk.keep P (blk_lt h) (fun e => ?_) (fun e => Kd.R_ne hW.row h h2 e.symm)).trans h
 subst e
 have := hW.box
 rw [h] at this
 injection this with this
 injection this with _ this
 exact h1 this
theorem cells_box {w : World} {P : Nat} {T : TypeId} {cs : List Value} (h : w.heap[P]? = some (.cells cs.toArray T (0, 0))) : ∀ j v, cs[j]? = some v → w.cell? ((⟨P, 0, none⟩ : Addr).add j) = some v := fun j v hj => cell_of h (by simpa using hj)
def flagL (b : Bool) : List Int := leN 1 (if b then 1 else 0)
def listL (l : List Int) : List Int := bytes1 [(l.length : Int)] ++ bytes1 l
def actL (a : S100) : List Int := bytes1 [a.f0, a.f1] ++ leN 4 a.f2
def encTask (x : S69) : List Int := bytes1 [x.f0, x.f1] ++ flagL x.f2 ++ bytes1 [x.f3] ++ leN 4 x.f4 ++ bytes1 [x.f5 + 1] ++ listL x.f6 ++ leN 1 x.f7
def encRing (x : S88) : List Int := bytes1 [x.f0] ++ leN 2 x.f1
def encRes (x : S66) : List Int := flagL x.f0 ++ bytes1 [x.f1 + 1]
def encCtr (x : S95) : List Int := [x.f0, x.f1, x.f2].flatMap (leN 4)
def encAlm (x : S102) : List Int := bytes1 [x.f0] ++ actL x.f1 ++ leN 1 x.f2 ++ [x.f3, x.f4].flatMap (leN 4)
def encIsr (x : S107) : List Int := bytes1 [x.f0, x.f1] ++ listL x.f2
def encMsg (x : S113) : List Int := bytes1 [x.f0, x.f1, x.f2] ++ leN 8 x.f3 ++ bytes1 [x.f4] ++ actL x.f5
/-- small numbers, none below zero -/
def Sm (x : Int) : Prop := 0 ≤ x ∧ x ≤ 4294967295
structure OkAct (a : S100) : Prop where
 s0 : Sm a.f0
 s1 : Sm a.f1
 s2 : Sm a.f2
structure OkTask (x : S69) : Prop where
 s0 : Sm x.f0
 s1 : Sm x.f1
 s3 : Sm x.f3
 s4 : Sm x.f4
 s5 : Sm (x.f5 + 1)
 s6 : x.f6.length ≤ 1000 ∧ ∀ y ∈ x.f6, Sm y
 s7 : Sm x.f7
structure OkRing (x : S88) : Prop where
 s0 : Sm x.f0
 s1 : Sm x.f1
structure OkRes (x : S66) : Prop where
 s1 : Sm (x.f1 + 1)
structure OkCtr (x : S95) : Prop where
 s0 : Sm x.f0
 s1 : Sm x.f1
 s2 : Sm x.f2
structure OkAlm (x : S102) : Prop where
 s0 : Sm x.f0
 s1 : OkAct x.f1
 s2 : Sm x.f2
 s3 : Sm x.f3
 s4 : Sm x.f4
structure OkIsr (x : S107) : Prop where
 s0 : Sm x.f0
 s1 : Sm x.f1
 s2 : x.f2.length ≤ 1000 ∧ ∀ y ∈ x.f2, Sm y
structure OkMsg (x : S113) : Prop where
 s0 : Sm x.f0
 s1 : Sm x.f1
 s2 : Sm x.f2
 s3 : Sm x.f3
 s4 : Sm x.f4
 s5 : OkAct x.f5
theorem bytes1_len (l : List Int) : (bytes1 l).length ≤ 8 * l.length := by have := flat_len 1 l; unfold bytes1; omega
theorem flat_len8 (n : Nat) (l : List Int) (h : n ≤ 8) : (l.flatMap (leN n)).length ≤ 8 * l.length := Nat.le_trans (flat_len n l) (Nat.mul_le_mul_right _ h)
theorem Kp.trans2 {base B : Nat} {w w1 w2 : World} {v v1 : Value} (_h : Kp base w w1 B v) (h : Wr base w w1 B v v1) (h2 : Kp base w1 w2 B v1) (hb : base ≤ w.heap.size) : Kp base w w2 B v := (h.trans (v2 := v1) ⟨h2, .inl rfl⟩ hb).kp
set_option maxRecDepth 1000000 in
set_option maxHeartbeats 4000000 in
theorem flag_calls (B base : Nat) (v : Value) (bs : List Int) (f : Bool) (w : World) (hW : WS w base B v bs) (hlim : bs.length ≤ 549755913888) :
  Calls Try.prog 70 #[.pointer (some ⟨B, 0, none⟩), .bool f] w fun e w' => ∃ v', e = .returned (.tuple #[]) ∧ WS w' base B v' (bs ++ flagL f) ∧ Wr base w w' B v v' := by
 have HW := Aside0.mk hW
 have HLIM := Aside0.mk hlim
 clear hW hlim
 cases f
 all_goals
  go_enter Try.func70, Try.ntmps70
  go_wp2_with fail
  first
   | refine (bytes_calls B base v bs (some ⟨w.heap.size, 0, none⟩) 1 [0] (w.alloc (.cells #[.int .i64 0] 3)) (HW.out.new _) (kept_new (k := .i64) (cs := [0]) HW.out rfl (by simp)) (by simp) (by simp) (by have := HLIM.out; simp only [List.length_cons, List.length_nil]; omega)).mono ?_
   | refine (bytes_calls B base v bs (some ⟨w.heap.size, 0, none⟩) 1 [1] (w.alloc (.cells #[.int .i64 1] 3)) (HW.out.new _) (kept_new (k := .i64) (cs := [1]) HW.out rfl (by simp)) (by simp) (by simp) (by have := HLIM.out; simp only [List.length_cons, List.length_nil]; omega)).mono ?_
  rintro e w1 ⟨v1, rfl, W1, R1⟩
  have HW1 := Aside0.mk W1
  have HR1 := Aside0.mk ((Wr.new HW.out _).trans R1 HW.out.base)
  clear W1 R1
  go_wp2_with fail
  go_end0
  exact ⟨v1, rfl, by simpa [bytes1, flagL] using HW1.out, HR1.out⟩
set_option maxRecDepth 1000000 in
set_option maxHeartbeats 4000000 in
theorem maybe_calls (B base : Nat) (v : Value) (bs : List Int) (x : Int) (w : World) (hW : WS w base B v bs) (hlim : bs.length ≤ 549755913888) (hs : Sm (x + 1)) :
  Calls Try.prog 71 #[.pointer (some ⟨B, 0, none⟩), .int .i64 x] w fun e w' => ∃ v', e = .returned (.tuple #[]) ∧ WS w' base B v' (bs ++ bytes1 [x + 1]) ∧ Wr base w w' B v v' := by
 have HW := Aside0.mk hW
 have HLIM := Aside0.mk hlim
 have HS := Aside0.mk hs
 unfold Sm at hs
 have hwx : IntKind.i64.wrap (x + 1) = x + 1 := IntWalk.i64_in _ (by omega)
 clear hW hlim hs
 go_enter Try.func71, Try.ntmps71
 go_wp2_with fail
 refine (bytes_calls B base v bs (some ⟨w.heap.size, 0, none⟩) 1 [x + 1] (w.alloc (.cells #[.int .i64 (x + 1)] 3)) (HW.out.new _) (kept_new (k := .i64) (cs := [x + 1]) HW.out rfl (by simp)) (by simp) (by simp; have := HS.out; unfold Sm at this; omega) (by have := HLIM.out; simp only [List.length_cons, List.length_nil]; omega)).mono ?_
 rintro e w1 ⟨v1, rfl, W1, R1⟩
 have HW1 := Aside0.mk W1
 have HR1 := Aside0.mk ((Wr.new HW.out _).trans R1 HW.out.base)
 clear W1 R1
 go_wp2_with fail
 go_end0
 exact ⟨v1, rfl, HW1.out, HR1.out⟩
set_option maxRecDepth 1000000 in
set_option maxHeartbeats 4000000 in
theorem list_calls (B base : Nat) (v : Value) (bs : List Int) (A : Option Addr) (c : Nat) (l : List Int) (w : World) (hW : WS w base B v bs) (hlim : bs.length ≤ 549755913888) (hO : ∀ w1, Kp base w w1 B v → (Kd.int .i64).C w1 A l.length l) (hc : l.length ≤ c) (hok : l.length ≤ 1000 ∧ ∀ y ∈ l, Sm y) :
  Calls Try.prog 72 #[.pointer (some ⟨B, 0, none⟩), .slice A l.length c] w fun e w' => ∃ v', e = .returned (.tuple #[]) ∧ WS w' base B v' (bs ++ listL l) ∧ Wr base w w' B v v' := by
 have HBS := Aside0.mk hW.base
 have HLIM := Aside0.mk hlim
 have HO := Aside0.mk hO
 have HOK := Aside0.mk hok
 have hll : l.length ≤ 1000 := hok.1
 clear hO hok
 have HW := Aside0.mk hW
 have HR := Aside0.mk (Wr.refl base w B v)
 clear hW hlim
 go_enter Try.func72, Try.ntmps72
 have HL := Aside0.mk (show bs.length ≤ bs.length + 0 from by omega)
 go_wp2_with fail
 refine (bytes_calls B base v bs (some ⟨w.heap.size, 0, none⟩) 1 [(l.length : Int)] (w.alloc (.cells #[.int .i64 ((l.length : Int))] 3)) (HW.out.new _) (kept_new (k := .i64) (cs := [(l.length : Int)]) HW.out rfl (by simp)) (by simp) (by simp; have := HOK.out.1; omega) (by have := HL.out; have := HLIM.out; simp only [List.length_cons, List.length_nil]; omega)).mono ?_
 rintro e w1 ⟨v1, rfl, W1, R1⟩
 replace HR := Aside0.mk (HR.out.trans ((Wr.new HW.out _).trans R1 HW.out.base) HBS.out)
 obtain ⟨bs1, hb⟩ : ∃ z, bs ++ bytes1 [(l.length : Int)] = z := ⟨_, rfl⟩
 rw [hb] at W1
 replace HL := Aside0.mk (show bs1.length ≤ bs.length + 8 from by rw [← hb, List.length_append]; have := bytes1_len [(l.length : Int)]; simp only [List.length_cons, List.length_nil] at this; have := HL.out; omega)
 have HB1 := Aside0.mk hb
 replace HW := Aside0.mk W1
 clear hb W1 R1 
 go_wp2_with fail
 refine (bytes_calls B base v1 bs1 A c l w1 HW.out (fun w1 hk => HO.out w1 (HR.out.kp.trans2 HR.out hk HBS.out)) hc (fun x hx => by have := HOK.out.2 x hx; unfold Sm at this; omega) (by have := HL.out; have := HLIM.out; have := HOK.out.1; omega)).mono ?_
 rintro e w2 ⟨v2, rfl, W1, R1⟩
 replace HR := Aside0.mk (HR.out.trans R1 HBS.out)
 obtain ⟨bs2, hb⟩ : ∃ z, bs1 ++ bytes1 l = z := ⟨_, rfl⟩
 rw [hb] at W1
 replace HL := Aside0.mk (show bs2.length ≤ bs.length + 8008 from by rw [← hb, List.length_append]; have := bytes1_len l; have := HOK.out.1; have := HL.out; omega)
 have HB2 := Aside0.mk hb
 replace HW := Aside0.mk W1
 clear hb W1 R1 
 go_wp2_with fail
 go_end0
 exact ⟨_, rfl, by rw [show bs ++ listL l = bs2 from by rw [← HB2.out, ← HB1.out]; simp [listL, List.append_assoc]]; exact HW.out, HR.out⟩
set_option maxRecDepth 1000000 in
set_option maxHeartbeats 4000000 in
theorem act_w_calls (B base : Nat) (v : Value) (bs : List Int) (a : S100) (w : World) (hW : WS w base B v bs) (hlim : bs.length ≤ 549755913888) (hok : OkAct a) :
  Calls Try.prog 81 #[.pointer (some ⟨B, 0, none⟩), .agg #[.int .i64 a.f0, .int .i64 a.f1, .int .u32 a.f2]] w fun e w' => ∃ v', e = .returned (.tuple #[]) ∧ WS w' base B v' (bs ++ actL a) ∧ Wr base w w' B v v' := by
 have HBS := Aside0.mk hW.base
 have HLIM := Aside0.mk hlim
 have HOK := Aside0.mk hok
 clear hok
 have HX := Aside0.mk (heap_alloc_new w (.cells #[.int .i64 a.f0, .int .i64 a.f1, .int .u32 a.f2] 100))
 have HW := Aside0.mk (hW.new (.cells #[.int .i64 a.f0, .int .i64 a.f1, .int .u32 a.f2] 100))
 have HR := Aside0.mk (Wr.new hW (.cells #[.int .i64 a.f0, .int .i64 a.f1, .int .u32 a.f2] 100))
 clear hW hlim
 go_enter Try.func81, Try.ntmps81
 go_upto_region 1 with fail
 generalize w.alloc (.cells #[.int .i64 a.f0, .int .i64 a.f1, .int .u32 a.f2] 100) = w0 at *
 obtain ⟨P, hP⟩ : ∃ P, w.heap.size = P := ⟨_, rfl⟩
 rw [hP] at HX ⊢
 have HPP := Aside0.mk hP
 clear hP
 have HL := Aside0.mk (show bs.length ≤ bs.length + 0 from by omega)
 have HA := (⟨cells_box HX.out⟩ : At100 _ ⟨P, 0, none⟩ a)
 have g0 := HA.g0
 have g1 := HA.g1
 clear HA
 go_wp2_with fail
 refine (bytes_calls B base v bs (some ⟨w0.heap.size, 0, none⟩) 2 [a.f0, a.f1] (w0.alloc (.cells #[.int .i64 (a.f0), .int .i64 (a.f1)] 3)) (HW.out.new _) (kept_new (k := .i64) (cs := [a.f0, a.f1]) HW.out rfl (by simp)) (by simp) (by simp; have := HOK.out.s0; unfold Sm at this; have := HOK.out.s1; unfold Sm at this; omega) (by have := HL.out; have := HLIM.out; simp only [List.length_cons, List.length_nil]; omega)).mono ?_
 rintro e w1 ⟨v1, rfl, W1, R1⟩
 replace HX := Aside0.mk (box_kept HW.out ((Wr.new HW.out _).trans R1 HW.out.base).kp HX.out (by decide) (by decide))
 replace HR := Aside0.mk (HR.out.trans ((Wr.new HW.out _).trans R1 HW.out.base) HBS.out)
 obtain ⟨bs1, hb⟩ : ∃ z, bs ++ bytes1 [a.f0, a.f1] = z := ⟨_, rfl⟩
 rw [hb] at W1
 replace HL := Aside0.mk (show bs1.length ≤ bs.length + 16 from by rw [← hb, List.length_append]; have := bytes1_len [a.f0, a.f1]; simp only [List.length_cons, List.length_nil] at this; have := HL.out; omega)
 have HB1 := Aside0.mk hb
 replace HW := Aside0.mk W1
 clear hb W1 R1 g0 g1
 have HA := (⟨cells_box HX.out⟩ : At100 _ ⟨P, 0, none⟩ a)
 have g2 := HA.g2
 clear HA
 have x_0 := HOK.out.s2.1
 have x_0b := HOK.out.s2.2
 go_wp2_with fail
 refine (put_calls B base v1 bs1 4 (some ⟨w1.heap.size, 0, none⟩) 1 [a.f2] (w1.alloc (.cells #[.int .u64 (a.f2)] 62)) (HW.out.new _) (by omega) (by omega) (kept_new (k := .u64) (cs := [a.f2]) HW.out rfl (by simp)) (by simp) (by simp; have := HOK.out.s2; unfold Sm at this; omega) (by have := HL.out; have := HLIM.out; simp only [List.length_cons, List.length_nil]; omega)).mono ?_
 rintro e w2 ⟨v2, rfl, W1, R1⟩
 replace HX := Aside0.mk (box_kept HW.out ((Wr.new HW.out _).trans R1 HW.out.base).kp HX.out (by decide) (by decide))
 replace HR := Aside0.mk (HR.out.trans ((Wr.new HW.out _).trans R1 HW.out.base) HBS.out)
 obtain ⟨bs2, hb⟩ : ∃ z, bs1 ++ [a.f2].flatMap (leN 4) = z := ⟨_, rfl⟩
 rw [hb] at W1
 replace HL := Aside0.mk (show bs2.length ≤ bs.length + 24 from by rw [← hb, List.length_append]; have := flat_len8 4 [a.f2] (by omega); simp only [List.length_cons, List.length_nil] at this; have := HL.out; omega)
 have HB2 := Aside0.mk hb
 replace HW := Aside0.mk W1
 clear hb W1 R1 g2 x_0 x_0b
 go_wp2_with fail
 go_end0
 exact ⟨_, rfl, by rw [show bs ++ actL a = bs2 from by rw [← HB2.out, ← HB1.out]; simp [actL, flat_one, List.append_assoc]]; exact HW.out, HR.out⟩
set_option maxRecDepth 1000000 in
set_option maxHeartbeats 4000000 in
theorem task_w_calls (B base : Nat) (v : Value) (bs : List Int) (x : S69) (A6 : Option Addr) (c6 : Nat) (w : World) (hW : WS w base B v bs) (hlim : bs.length ≤ 549755813888) (hok : OkTask x) (hO : ∀ w1, Below base w w1 → (Kd.int .i64).C w1 A6 x.f6.length x.f6) (hc : x.f6.length ≤ c6) :
  Calls Try.prog 69 #[.pointer (some ⟨B, 0, none⟩), .agg #[.int .i64 x.f0, .int .i64 x.f1, .bool x.f2, .int .i64 x.f3, .int .u32 x.f4, .int .i64 x.f5, .slice A6 x.f6.length c6, .int .u32 x.f7]] w fun e w' => ∃ v', e = .returned (.tuple #[]) ∧ WS w' base B v' (bs ++ encTask x) ∧ Wr base w w' B v v' := by
 have HBS := Aside0.mk hW.base
 have HLIM := Aside0.mk hlim
 have HOK := Aside0.mk hok
 clear hok
 have HO := Aside0.mk hO
 clear hO
 have HX := Aside0.mk (heap_alloc_new w (.cells #[.int .i64 x.f0, .int .i64 x.f1, .bool x.f2, .int .i64 x.f3, .int .u32 x.f4, .int .i64 x.f5, .slice A6 x.f6.length c6, .int .u32 x.f7] 69))
 have HW := Aside0.mk (hW.new (.cells #[.int .i64 x.f0, .int .i64 x.f1, .bool x.f2, .int .i64 x.f3, .int .u32 x.f4, .int .i64 x.f5, .slice A6 x.f6.length c6, .int .u32 x.f7] 69))
 have HR := Aside0.mk (Wr.new hW (.cells #[.int .i64 x.f0, .int .i64 x.f1, .bool x.f2, .int .i64 x.f3, .int .u32 x.f4, .int .i64 x.f5, .slice A6 x.f6.length c6, .int .u32 x.f7] 69))
 clear hW hlim
 go_enter Try.func69, Try.ntmps69
 go_upto_region 1 with fail
 generalize w.alloc (.cells #[.int .i64 x.f0, .int .i64 x.f1, .bool x.f2, .int .i64 x.f3, .int .u32 x.f4, .int .i64 x.f5, .slice A6 x.f6.length c6, .int .u32 x.f7] 69) = w0 at *
 obtain ⟨P, hP⟩ : ∃ P, w.heap.size = P := ⟨_, rfl⟩
 rw [hP] at HX ⊢
 have HPP := Aside0.mk hP
 clear hP
 have HL := Aside0.mk (show bs.length ≤ bs.length + 0 from by omega)
 have HA := (⟨cells_box HX.out⟩ : At69 _ ⟨P, 0, none⟩ x A6 c6)
 have g0 := HA.g0
 have g1 := HA.g1
 clear HA
 go_wp2_with fail
 refine (bytes_calls B base v bs (some ⟨w0.heap.size, 0, none⟩) 2 [x.f0, x.f1] (w0.alloc (.cells #[.int .i64 (x.f0), .int .i64 (x.f1)] 3)) (HW.out.new _) (kept_new (k := .i64) (cs := [x.f0, x.f1]) HW.out rfl (by simp)) (by simp) (by simp; have := HOK.out.s0; unfold Sm at this; have := HOK.out.s1; unfold Sm at this; omega) (by have := HL.out; have := HLIM.out; simp only [List.length_cons, List.length_nil]; omega)).mono ?_
 rintro e w1 ⟨v1, rfl, W1, R1⟩
 replace HX := Aside0.mk (box_kept HW.out ((Wr.new HW.out _).trans R1 HW.out.base).kp HX.out (by decide) (by decide))
 replace HR := Aside0.mk (HR.out.trans ((Wr.new HW.out _).trans R1 HW.out.base) HBS.out)
 obtain ⟨bs1, hb⟩ : ∃ z, bs ++ bytes1 [x.f0, x.f1] = z := ⟨_, rfl⟩
 rw [hb] at W1
 replace HL := Aside0.mk (show bs1.length ≤ bs.length + 16 from by rw [← hb, List.length_append]; have := bytes1_len [x.f0, x.f1]; simp only [List.length_cons, List.length_nil] at this; have := HL.out; omega)
 have HB1 := Aside0.mk hb
 replace HW := Aside0.mk W1
 clear hb W1 R1 g0 g1
 have HA := (⟨cells_box HX.out⟩ : At69 _ ⟨P, 0, none⟩ x A6 c6)
 have g2 := HA.g2
 clear HA
 go_wp2_with fail
 refine (flag_calls B base v1 bs1 x.f2 w1 HW.out (by have := HL.out; have := HLIM.out; omega)).mono ?_
 rintro e w2 ⟨v2, rfl, W1, R1⟩
 replace HX := Aside0.mk (box_kept HW.out R1.kp HX.out (by decide) (by decide))
 replace HR := Aside0.mk (HR.out.trans R1 HBS.out)
 obtain ⟨bs2, hb⟩ : ∃ z, bs1 ++ flagL x.f2 = z := ⟨_, rfl⟩
 rw [hb] at W1
 replace HL := Aside0.mk (show bs2.length ≤ bs.length + 24 from by rw [← hb, List.length_append]; have := leN_len 1 (if x.f2 then 1 else 0); unfold flagL; have := HL.out; omega)
 have HB2 := Aside0.mk hb
 replace HW := Aside0.mk W1
 clear hb W1 R1 g2
 have HA := (⟨cells_box HX.out⟩ : At69 _ ⟨P, 0, none⟩ x A6 c6)
 have g3 := HA.g3
 clear HA
 go_wp2_with fail
 refine (bytes_calls B base v2 bs2 (some ⟨w2.heap.size, 0, none⟩) 1 [x.f3] (w2.alloc (.cells #[.int .i64 (x.f3)] 3)) (HW.out.new _) (kept_new (k := .i64) (cs := [x.f3]) HW.out rfl (by simp)) (by simp) (by simp; have := HOK.out.s3; unfold Sm at this; omega) (by have := HL.out; have := HLIM.out; simp only [List.length_cons, List.length_nil]; omega)).mono ?_
 rintro e w3 ⟨v3, rfl, W1, R1⟩
 replace HX := Aside0.mk (box_kept HW.out ((Wr.new HW.out _).trans R1 HW.out.base).kp HX.out (by decide) (by decide))
 replace HR := Aside0.mk (HR.out.trans ((Wr.new HW.out _).trans R1 HW.out.base) HBS.out)
 obtain ⟨bs3, hb⟩ : ∃ z, bs2 ++ bytes1 [x.f3] = z := ⟨_, rfl⟩
 rw [hb] at W1
 replace HL := Aside0.mk (show bs3.length ≤ bs.length + 32 from by rw [← hb, List.length_append]; have := bytes1_len [x.f3]; simp only [List.length_cons, List.length_nil] at this; have := HL.out; omega)
 have HB3 := Aside0.mk hb
 replace HW := Aside0.mk W1
 clear hb W1 R1 g3
 have HA := (⟨cells_box HX.out⟩ : At69 _ ⟨P, 0, none⟩ x A6 c6)
 have g4 := HA.g4
 clear HA
 have x_0 := HOK.out.s4.1
 have x_0b := HOK.out.s4.2
 go_wp2_with fail
 refine (put_calls B base v3 bs3 4 (some ⟨w3.heap.size, 0, none⟩) 1 [x.f4] (w3.alloc (.cells #[.int .u64 (x.f4)] 62)) (HW.out.new _) (by omega) (by omega) (kept_new (k := .u64) (cs := [x.f4]) HW.out rfl (by simp)) (by simp) (by simp; have := HOK.out.s4; unfold Sm at this; omega) (by have := HL.out; have := HLIM.out; simp only [List.length_cons, List.length_nil]; omega)).mono ?_
 rintro e w4 ⟨v4, rfl, W1, R1⟩
 replace HX := Aside0.mk (box_kept HW.out ((Wr.new HW.out _).trans R1 HW.out.base).kp HX.out (by decide) (by decide))
 replace HR := Aside0.mk (HR.out.trans ((Wr.new HW.out _).trans R1 HW.out.base) HBS.out)
 obtain ⟨bs4, hb⟩ : ∃ z, bs3 ++ [x.f4].flatMap (leN 4) = z := ⟨_, rfl⟩
 rw [hb] at W1
 replace HL := Aside0.mk (show bs4.length ≤ bs.length + 40 from by rw [← hb, List.length_append]; have := flat_len8 4 [x.f4] (by omega); simp only [List.length_cons, List.length_nil] at this; have := HL.out; omega)
 have HB4 := Aside0.mk hb
 replace HW := Aside0.mk W1
 clear hb W1 R1 g4 x_0 x_0b
 have HA := (⟨cells_box HX.out⟩ : At69 _ ⟨P, 0, none⟩ x A6 c6)
 have g5 := HA.g5
 clear HA
 go_wp2_with fail
 refine (maybe_calls B base v4 bs4 (x.f5) w4 HW.out (by have := HL.out; have := HLIM.out; omega) HOK.out.s5).mono ?_
 rintro e w5 ⟨v5, rfl, W1, R1⟩
 replace HX := Aside0.mk (box_kept HW.out R1.kp HX.out (by decide) (by decide))
 replace HR := Aside0.mk (HR.out.trans R1 HBS.out)
 obtain ⟨bs5, hb⟩ : ∃ z, bs4 ++ bytes1 [x.f5 + 1] = z := ⟨_, rfl⟩
 rw [hb] at W1
 replace HL := Aside0.mk (show bs5.length ≤ bs.length + 48 from by rw [← hb, List.length_append]; have := bytes1_len [x.f5 + 1]; simp only [List.length_cons, List.length_nil] at this; have := HL.out; omega)
 have HB5 := Aside0.mk hb
 replace HW := Aside0.mk W1
 clear hb W1 R1 g5
 have HA := (⟨cells_box HX.out⟩ : At69 _ ⟨P, 0, none⟩ x A6 c6)
 have g6 := HA.g6
 clear HA
 go_wp2_with fail
 refine (list_calls B base v5 bs5 A6 c6 x.f6 w5 HW.out (by have := HL.out; have := HLIM.out; omega) (fun w1 hk => HO.out w1 (HR.out.kp.low.trans hk.low)) hc HOK.out.s6).mono ?_
 rintro e w6 ⟨v6, rfl, W1, R1⟩
 replace HX := Aside0.mk (box_kept HW.out R1.kp HX.out (by decide) (by decide))
 replace HR := Aside0.mk (HR.out.trans R1 HBS.out)
 obtain ⟨bs6, hb⟩ : ∃ z, bs5 ++ listL x.f6 = z := ⟨_, rfl⟩
 rw [hb] at W1
 replace HL := Aside0.mk (show bs6.length ≤ bs.length + 8056 from by rw [← hb, List.length_append]; have h1_ := bytes1_len [(x.f6.length : Int)]; have h2_ := bytes1_len x.f6; have h3_ := HOK.out.s6.1; simp only [List.length_cons, List.length_nil] at h1_; unfold listL; simp only [List.length_append]; have := HL.out; omega)
 have HB6 := Aside0.mk hb
 replace HW := Aside0.mk W1
 clear hb W1 R1 g6
 have HA := (⟨cells_box HX.out⟩ : At69 _ ⟨P, 0, none⟩ x A6 c6)
 have g7 := HA.g7
 clear HA
 have x_0 := HOK.out.s7.1
 have x_0b := HOK.out.s7.2
 go_wp2_with fail
 refine (put_calls B base v6 bs6 1 (some ⟨w6.heap.size, 0, none⟩) 1 [x.f7] (w6.alloc (.cells #[.int .u64 (x.f7)] 62)) (HW.out.new _) (by omega) (by omega) (kept_new (k := .u64) (cs := [x.f7]) HW.out rfl (by simp)) (by simp) (by simp; have := HOK.out.s7; unfold Sm at this; omega) (by have := HL.out; have := HLIM.out; simp only [List.length_cons, List.length_nil]; omega)).mono ?_
 rintro e w7 ⟨v7, rfl, W1, R1⟩
 replace HX := Aside0.mk (box_kept HW.out ((Wr.new HW.out _).trans R1 HW.out.base).kp HX.out (by decide) (by decide))
 replace HR := Aside0.mk (HR.out.trans ((Wr.new HW.out _).trans R1 HW.out.base) HBS.out)
 obtain ⟨bs7, hb⟩ : ∃ z, bs6 ++ [x.f7].flatMap (leN 1) = z := ⟨_, rfl⟩
 rw [hb] at W1
 replace HL := Aside0.mk (show bs7.length ≤ bs.length + 8064 from by rw [← hb, List.length_append]; have := flat_len8 1 [x.f7] (by omega); simp only [List.length_cons, List.length_nil] at this; have := HL.out; omega)
 have HB7 := Aside0.mk hb
 replace HW := Aside0.mk W1
 clear hb W1 R1 g7 x_0 x_0b
 go_wp2_with fail
 go_end0
 exact ⟨_, rfl, by rw [show bs ++ encTask x = bs7 from by rw [← HB7.out, ← HB6.out, ← HB5.out, ← HB4.out, ← HB3.out, ← HB2.out, ← HB1.out]; simp [encTask, flat_one, List.append_assoc]]; exact HW.out, HR.out⟩
set_option maxRecDepth 1000000 in
set_option maxHeartbeats 4000000 in
theorem ring_w_calls (B base : Nat) (v : Value) (bs : List Int) (x : S88) (w : World) (hW : WS w base B v bs) (hlim : bs.length ≤ 549755813888) (hok : OkRing x) :
  Calls Try.prog 74 #[.pointer (some ⟨B, 0, none⟩), .agg #[.int .i64 x.f0, .int .i64 x.f1]] w fun e w' => ∃ v', e = .returned (.tuple #[]) ∧ WS w' base B v' (bs ++ encRing x) ∧ Wr base w w' B v v' := by
 have HBS := Aside0.mk hW.base
 have HLIM := Aside0.mk hlim
 have HOK := Aside0.mk hok
 clear hok
 have HX := Aside0.mk (heap_alloc_new w (.cells #[.int .i64 x.f0, .int .i64 x.f1] 88))
 have HW := Aside0.mk (hW.new (.cells #[.int .i64 x.f0, .int .i64 x.f1] 88))
 have HR := Aside0.mk (Wr.new hW (.cells #[.int .i64 x.f0, .int .i64 x.f1] 88))
 clear hW hlim
 go_enter Try.func74, Try.ntmps74
 go_upto_region 1 with fail
 generalize w.alloc (.cells #[.int .i64 x.f0, .int .i64 x.f1] 88) = w0 at *
 obtain ⟨P, hP⟩ : ∃ P, w.heap.size = P := ⟨_, rfl⟩
 rw [hP] at HX ⊢
 have HPP := Aside0.mk hP
 clear hP
 have HL := Aside0.mk (show bs.length ≤ bs.length + 0 from by omega)
 have HA := (⟨cells_box HX.out⟩ : At88 _ ⟨P, 0, none⟩ x)
 have g0 := HA.g0
 clear HA
 go_wp2_with fail
 refine (bytes_calls B base v bs (some ⟨w0.heap.size, 0, none⟩) 1 [x.f0] (w0.alloc (.cells #[.int .i64 (x.f0)] 3)) (HW.out.new _) (kept_new (k := .i64) (cs := [x.f0]) HW.out rfl (by simp)) (by simp) (by simp; have := HOK.out.s0; unfold Sm at this; omega) (by have := HL.out; have := HLIM.out; simp only [List.length_cons, List.length_nil]; omega)).mono ?_
 rintro e w1 ⟨v1, rfl, W1, R1⟩
 replace HX := Aside0.mk (box_kept HW.out ((Wr.new HW.out _).trans R1 HW.out.base).kp HX.out (by decide) (by decide))
 replace HR := Aside0.mk (HR.out.trans ((Wr.new HW.out _).trans R1 HW.out.base) HBS.out)
 obtain ⟨bs1, hb⟩ : ∃ z, bs ++ bytes1 [x.f0] = z := ⟨_, rfl⟩
 rw [hb] at W1
 replace HL := Aside0.mk (show bs1.length ≤ bs.length + 8 from by rw [← hb, List.length_append]; have := bytes1_len [x.f0]; simp only [List.length_cons, List.length_nil] at this; have := HL.out; omega)
 have HB1 := Aside0.mk hb
 replace HW := Aside0.mk W1
 clear hb W1 R1 g0
 have HA := (⟨cells_box HX.out⟩ : At88 _ ⟨P, 0, none⟩ x)
 have g1 := HA.g1
 clear HA
 have x_0 := HOK.out.s1.1
 have x_0b := HOK.out.s1.2
 go_wp2_with fail
 refine (put_calls B base v1 bs1 2 (some ⟨w1.heap.size, 0, none⟩) 1 [x.f1] (w1.alloc (.cells #[.int .u64 (x.f1)] 62)) (HW.out.new _) (by omega) (by omega) (kept_new (k := .u64) (cs := [x.f1]) HW.out rfl (by simp)) (by simp) (by simp; have := HOK.out.s1; unfold Sm at this; omega) (by have := HL.out; have := HLIM.out; simp only [List.length_cons, List.length_nil]; omega)).mono ?_
 rintro e w2 ⟨v2, rfl, W1, R1⟩
 replace HX := Aside0.mk (box_kept HW.out ((Wr.new HW.out _).trans R1 HW.out.base).kp HX.out (by decide) (by decide))
 replace HR := Aside0.mk (HR.out.trans ((Wr.new HW.out _).trans R1 HW.out.base) HBS.out)
 obtain ⟨bs2, hb⟩ : ∃ z, bs1 ++ [x.f1].flatMap (leN 2) = z := ⟨_, rfl⟩
 rw [hb] at W1
 replace HL := Aside0.mk (show bs2.length ≤ bs.length + 16 from by rw [← hb, List.length_append]; have := flat_len8 2 [x.f1] (by omega); simp only [List.length_cons, List.length_nil] at this; have := HL.out; omega)
 have HB2 := Aside0.mk hb
 replace HW := Aside0.mk W1
 clear hb W1 R1 g1 x_0 x_0b
 go_wp2_with fail
 go_end0
 exact ⟨_, rfl, by rw [show bs ++ encRing x = bs2 from by rw [← HB2.out, ← HB1.out]; simp [encRing, flat_one, List.append_assoc]]; exact HW.out, HR.out⟩
set_option maxRecDepth 1000000 in
set_option maxHeartbeats 4000000 in
theorem res_w_calls (B base : Nat) (v : Value) (bs : List Int) (x : S66) (w : World) (hW : WS w base B v bs) (hlim : bs.length ≤ 549755813888) (hok : OkRes x) :
  Calls Try.prog 76 #[.pointer (some ⟨B, 0, none⟩), .agg #[.bool x.f0, .int .i64 x.f1]] w fun e w' => ∃ v', e = .returned (.tuple #[]) ∧ WS w' base B v' (bs ++ encRes x) ∧ Wr base w w' B v v' := by
 have HBS := Aside0.mk hW.base
 have HLIM := Aside0.mk hlim
 have HOK := Aside0.mk hok
 clear hok
 have HX := Aside0.mk (heap_alloc_new w (.cells #[.bool x.f0, .int .i64 x.f1] 66))
 have HW := Aside0.mk (hW.new (.cells #[.bool x.f0, .int .i64 x.f1] 66))
 have HR := Aside0.mk (Wr.new hW (.cells #[.bool x.f0, .int .i64 x.f1] 66))
 clear hW hlim
 go_enter Try.func76, Try.ntmps76
 go_upto_region 1 with fail
 generalize w.alloc (.cells #[.bool x.f0, .int .i64 x.f1] 66) = w0 at *
 obtain ⟨P, hP⟩ : ∃ P, w.heap.size = P := ⟨_, rfl⟩
 rw [hP] at HX ⊢
 have HPP := Aside0.mk hP
 clear hP
 have HL := Aside0.mk (show bs.length ≤ bs.length + 0 from by omega)
 have HA := (⟨cells_box HX.out⟩ : At66 _ ⟨P, 0, none⟩ x)
 have g0 := HA.g0
 clear HA
 go_wp2_with fail
 refine (flag_calls B base v bs x.f0 w0 HW.out (by have := HL.out; have := HLIM.out; omega)).mono ?_
 rintro e w1 ⟨v1, rfl, W1, R1⟩
 replace HX := Aside0.mk (box_kept HW.out R1.kp HX.out (by decide) (by decide))
 replace HR := Aside0.mk (HR.out.trans R1 HBS.out)
 obtain ⟨bs1, hb⟩ : ∃ z, bs ++ flagL x.f0 = z := ⟨_, rfl⟩
 rw [hb] at W1
 replace HL := Aside0.mk (show bs1.length ≤ bs.length + 8 from by rw [← hb, List.length_append]; have := leN_len 1 (if x.f0 then 1 else 0); unfold flagL; have := HL.out; omega)
 have HB1 := Aside0.mk hb
 replace HW := Aside0.mk W1
 clear hb W1 R1 g0
 have HA := (⟨cells_box HX.out⟩ : At66 _ ⟨P, 0, none⟩ x)
 have g1 := HA.g1
 clear HA
 go_wp2_with fail
 refine (maybe_calls B base v1 bs1 (x.f1) w1 HW.out (by have := HL.out; have := HLIM.out; omega) HOK.out.s1).mono ?_
 rintro e w2 ⟨v2, rfl, W1, R1⟩
 replace HX := Aside0.mk (box_kept HW.out R1.kp HX.out (by decide) (by decide))
 replace HR := Aside0.mk (HR.out.trans R1 HBS.out)
 obtain ⟨bs2, hb⟩ : ∃ z, bs1 ++ bytes1 [x.f1 + 1] = z := ⟨_, rfl⟩
 rw [hb] at W1
 replace HL := Aside0.mk (show bs2.length ≤ bs.length + 16 from by rw [← hb, List.length_append]; have := bytes1_len [x.f1 + 1]; simp only [List.length_cons, List.length_nil] at this; have := HL.out; omega)
 have HB2 := Aside0.mk hb
 replace HW := Aside0.mk W1
 clear hb W1 R1 g1
 go_wp2_with fail
 go_end0
 exact ⟨_, rfl, by rw [show bs ++ encRes x = bs2 from by rw [← HB2.out, ← HB1.out]; simp [encRes, List.append_assoc]]; exact HW.out, HR.out⟩
set_option maxRecDepth 1000000 in
set_option maxHeartbeats 4000000 in
theorem ctr_w_calls (B base : Nat) (v : Value) (bs : List Int) (x : S95) (w : World) (hW : WS w base B v bs) (hlim : bs.length ≤ 549755813888) (hok : OkCtr x) :
  Calls Try.prog 78 #[.pointer (some ⟨B, 0, none⟩), .agg #[.int .u32 x.f0, .int .u32 x.f1, .int .u32 x.f2]] w fun e w' => ∃ v', e = .returned (.tuple #[]) ∧ WS w' base B v' (bs ++ encCtr x) ∧ Wr base w w' B v v' := by
 have HBS := Aside0.mk hW.base
 have HLIM := Aside0.mk hlim
 have HOK := Aside0.mk hok
 clear hok
 have HX := Aside0.mk (heap_alloc_new w (.cells #[.int .u32 x.f0, .int .u32 x.f1, .int .u32 x.f2] 95))
 have HW := Aside0.mk (hW.new (.cells #[.int .u32 x.f0, .int .u32 x.f1, .int .u32 x.f2] 95))
 have HR := Aside0.mk (Wr.new hW (.cells #[.int .u32 x.f0, .int .u32 x.f1, .int .u32 x.f2] 95))
 clear hW hlim
 go_enter Try.func78, Try.ntmps78
 go_upto_region 1 with fail
 generalize w.alloc (.cells #[.int .u32 x.f0, .int .u32 x.f1, .int .u32 x.f2] 95) = w0 at *
 obtain ⟨P, hP⟩ : ∃ P, w.heap.size = P := ⟨_, rfl⟩
 rw [hP] at HX ⊢
 have HPP := Aside0.mk hP
 clear hP
 have HL := Aside0.mk (show bs.length ≤ bs.length + 0 from by omega)
 have HA := (⟨cells_box HX.out⟩ : At95 _ ⟨P, 0, none⟩ x)
 have g0 := HA.g0
 have g1 := HA.g1
 have g2 := HA.g2
 clear HA
 have x_0 := HOK.out.s0.1
 have x_0b := HOK.out.s0.2
 have x_1 := HOK.out.s1.1
 have x_1b := HOK.out.s1.2
 have x_2 := HOK.out.s2.1
 have x_2b := HOK.out.s2.2
 go_wp2_with fail
 refine (put_calls B base v bs 4 (some ⟨w0.heap.size, 0, none⟩) 3 [x.f0, x.f1, x.f2] (w0.alloc (.cells #[.int .u64 (x.f0), .int .u64 (x.f1), .int .u64 (x.f2)] 62)) (HW.out.new _) (by omega) (by omega) (kept_new (k := .u64) (cs := [x.f0, x.f1, x.f2]) HW.out rfl (by simp)) (by simp) (by simp; have := HOK.out.s0; unfold Sm at this; have := HOK.out.s1; unfold Sm at this; have := HOK.out.s2; unfold Sm at this; omega) (by have := HL.out; have := HLIM.out; simp only [List.length_cons, List.length_nil]; omega)).mono ?_
 rintro e w1 ⟨v1, rfl, W1, R1⟩
 replace HX := Aside0.mk (box_kept HW.out ((Wr.new HW.out _).trans R1 HW.out.base).kp HX.out (by decide) (by decide))
 replace HR := Aside0.mk (HR.out.trans ((Wr.new HW.out _).trans R1 HW.out.base) HBS.out)
 obtain ⟨bs1, hb⟩ : ∃ z, bs ++ [x.f0, x.f1, x.f2].flatMap (leN 4) = z := ⟨_, rfl⟩
 rw [hb] at W1
 replace HL := Aside0.mk (show bs1.length ≤ bs.length + 24 from by rw [← hb, List.length_append]; have := flat_len8 4 [x.f0, x.f1, x.f2] (by omega); simp only [List.length_cons, List.length_nil] at this; have := HL.out; omega)
 have HB1 := Aside0.mk hb
 replace HW := Aside0.mk W1
 clear hb W1 R1 g0 g1 g2 x_0 x_0b x_1 x_1b x_2 x_2b
 go_wp2_with fail
 go_end0
 exact ⟨_, rfl, by rw [show bs ++ encCtr x = bs1 from by rw [← HB1.out]; simp [encCtr, List.append_assoc]]; exact HW.out, HR.out⟩
set_option maxRecDepth 1000000 in
set_option maxHeartbeats 4000000 in
theorem alm_w_calls (B base : Nat) (v : Value) (bs : List Int) (x : S102) (w : World) (hW : WS w base B v bs) (hlim : bs.length ≤ 549755813888) (hok : OkAlm x) :
  Calls Try.prog 80 #[.pointer (some ⟨B, 0, none⟩), .agg #[.int .i64 x.f0, .int .i64 x.f1.f0, .int .i64 x.f1.f1, .int .u32 x.f1.f2, .int .u32 x.f2, .int .u32 x.f3, .int .u32 x.f4]] w fun e w' => ∃ v', e = .returned (.tuple #[]) ∧ WS w' base B v' (bs ++ encAlm x) ∧ Wr base w w' B v v' := by
 have HBS := Aside0.mk hW.base
 have HLIM := Aside0.mk hlim
 have HOK := Aside0.mk hok
 clear hok
 have HX := Aside0.mk (heap_alloc_new w (.cells #[.int .i64 x.f0, .int .i64 x.f1.f0, .int .i64 x.f1.f1, .int .u32 x.f1.f2, .int .u32 x.f2, .int .u32 x.f3, .int .u32 x.f4] 102))
 have HW := Aside0.mk (hW.new (.cells #[.int .i64 x.f0, .int .i64 x.f1.f0, .int .i64 x.f1.f1, .int .u32 x.f1.f2, .int .u32 x.f2, .int .u32 x.f3, .int .u32 x.f4] 102))
 have HR := Aside0.mk (Wr.new hW (.cells #[.int .i64 x.f0, .int .i64 x.f1.f0, .int .i64 x.f1.f1, .int .u32 x.f1.f2, .int .u32 x.f2, .int .u32 x.f3, .int .u32 x.f4] 102))
 clear hW hlim
 go_enter Try.func80, Try.ntmps80
 go_upto_region 1 with fail
 generalize w.alloc (.cells #[.int .i64 x.f0, .int .i64 x.f1.f0, .int .i64 x.f1.f1, .int .u32 x.f1.f2, .int .u32 x.f2, .int .u32 x.f3, .int .u32 x.f4] 102) = w0 at *
 obtain ⟨P, hP⟩ : ∃ P, w.heap.size = P := ⟨_, rfl⟩
 rw [hP] at HX ⊢
 have HPP := Aside0.mk hP
 clear hP
 have HL := Aside0.mk (show bs.length ≤ bs.length + 0 from by omega)
 have HA := (⟨cells_box HX.out⟩ : At102 _ ⟨P, 0, none⟩ x)
 have g0 := HA.g0
 clear HA
 go_wp2_with fail
 refine (bytes_calls B base v bs (some ⟨w0.heap.size, 0, none⟩) 1 [x.f0] (w0.alloc (.cells #[.int .i64 (x.f0)] 3)) (HW.out.new _) (kept_new (k := .i64) (cs := [x.f0]) HW.out rfl (by simp)) (by simp) (by simp; have := HOK.out.s0; unfold Sm at this; omega) (by have := HL.out; have := HLIM.out; simp only [List.length_cons, List.length_nil]; omega)).mono ?_
 rintro e w1 ⟨v1, rfl, W1, R1⟩
 replace HX := Aside0.mk (box_kept HW.out ((Wr.new HW.out _).trans R1 HW.out.base).kp HX.out (by decide) (by decide))
 replace HR := Aside0.mk (HR.out.trans ((Wr.new HW.out _).trans R1 HW.out.base) HBS.out)
 obtain ⟨bs1, hb⟩ : ∃ z, bs ++ bytes1 [x.f0] = z := ⟨_, rfl⟩
 rw [hb] at W1
 replace HL := Aside0.mk (show bs1.length ≤ bs.length + 8 from by rw [← hb, List.length_append]; have := bytes1_len [x.f0]; simp only [List.length_cons, List.length_nil] at this; have := HL.out; omega)
 have HB1 := Aside0.mk hb
 replace HW := Aside0.mk W1
 clear hb W1 R1 g0
 have HA := (⟨cells_box HX.out⟩ : At102 _ ⟨P, 0, none⟩ x)
 have HXA := Aside0.mk HA.act
 clear HA
 go_wp2_with (first | ((with_reducible refine gate_dst (N := 11) rfl ?_); refine load100 HXA.out rfl (.tmp 10) rfl rfl ?_))
 refine (act_w_calls B base v1 bs1 x.f1 w1 HW.out (by have := HL.out; have := HLIM.out; omega) HOK.out.s1).mono ?_
 rintro e w2 ⟨v2, rfl, W1, R1⟩
 replace HX := Aside0.mk (box_kept HW.out R1.kp HX.out (by decide) (by decide))
 replace HR := Aside0.mk (HR.out.trans R1 HBS.out)
 obtain ⟨bs2, hb⟩ : ∃ z, bs1 ++ actL x.f1 = z := ⟨_, rfl⟩
 rw [hb] at W1
 replace HL := Aside0.mk (show bs2.length ≤ bs.length + 32 from by rw [← hb, List.length_append]; have h1_ := bytes1_len [x.f1.f0, x.f1.f1]; have h2_ := leN_len 4 x.f1.f2; simp only [List.length_cons, List.length_nil] at h1_; unfold actL; simp only [List.length_append]; have := HL.out; omega)
 have HB2 := Aside0.mk hb
 replace HW := Aside0.mk W1
 clear hb W1 R1 
 have HA := (⟨cells_box HX.out⟩ : At102 _ ⟨P, 0, none⟩ x)
 have g4 := HA.g4
 clear HA
 have x_0 := HOK.out.s2.1
 have x_0b := HOK.out.s2.2
 go_wp2_with fail
 refine (put_calls B base v2 bs2 1 (some ⟨w2.heap.size, 0, none⟩) 1 [x.f2] (w2.alloc (.cells #[.int .u64 (x.f2)] 62)) (HW.out.new _) (by omega) (by omega) (kept_new (k := .u64) (cs := [x.f2]) HW.out rfl (by simp)) (by simp) (by simp; have := HOK.out.s2; unfold Sm at this; omega) (by have := HL.out; have := HLIM.out; simp only [List.length_cons, List.length_nil]; omega)).mono ?_
 rintro e w3 ⟨v3, rfl, W1, R1⟩
 replace HX := Aside0.mk (box_kept HW.out ((Wr.new HW.out _).trans R1 HW.out.base).kp HX.out (by decide) (by decide))
 replace HR := Aside0.mk (HR.out.trans ((Wr.new HW.out _).trans R1 HW.out.base) HBS.out)
 obtain ⟨bs3, hb⟩ : ∃ z, bs2 ++ [x.f2].flatMap (leN 1) = z := ⟨_, rfl⟩
 rw [hb] at W1
 replace HL := Aside0.mk (show bs3.length ≤ bs.length + 40 from by rw [← hb, List.length_append]; have := flat_len8 1 [x.f2] (by omega); simp only [List.length_cons, List.length_nil] at this; have := HL.out; omega)
 have HB3 := Aside0.mk hb
 replace HW := Aside0.mk W1
 clear hb W1 R1 g4 x_0 x_0b
 have HA := (⟨cells_box HX.out⟩ : At102 _ ⟨P, 0, none⟩ x)
 have g5 := HA.g5
 have g6 := HA.g6
 clear HA
 have x_0 := HOK.out.s3.1
 have x_0b := HOK.out.s3.2
 have x_1 := HOK.out.s4.1
 have x_1b := HOK.out.s4.2
 go_wp2_with fail
 refine (put_calls B base v3 bs3 4 (some ⟨w3.heap.size, 0, none⟩) 2 [x.f3, x.f4] (w3.alloc (.cells #[.int .u64 (x.f3), .int .u64 (x.f4)] 62)) (HW.out.new _) (by omega) (by omega) (kept_new (k := .u64) (cs := [x.f3, x.f4]) HW.out rfl (by simp)) (by simp) (by simp; have := HOK.out.s3; unfold Sm at this; have := HOK.out.s4; unfold Sm at this; omega) (by have := HL.out; have := HLIM.out; simp only [List.length_cons, List.length_nil]; omega)).mono ?_
 rintro e w4 ⟨v4, rfl, W1, R1⟩
 replace HX := Aside0.mk (box_kept HW.out ((Wr.new HW.out _).trans R1 HW.out.base).kp HX.out (by decide) (by decide))
 replace HR := Aside0.mk (HR.out.trans ((Wr.new HW.out _).trans R1 HW.out.base) HBS.out)
 obtain ⟨bs4, hb⟩ : ∃ z, bs3 ++ [x.f3, x.f4].flatMap (leN 4) = z := ⟨_, rfl⟩
 rw [hb] at W1
 replace HL := Aside0.mk (show bs4.length ≤ bs.length + 56 from by rw [← hb, List.length_append]; have := flat_len8 4 [x.f3, x.f4] (by omega); simp only [List.length_cons, List.length_nil] at this; have := HL.out; omega)
 have HB4 := Aside0.mk hb
 replace HW := Aside0.mk W1
 clear hb W1 R1 g5 g6 x_0 x_0b x_1 x_1b
 go_wp2_with fail
 go_end0
 exact ⟨_, rfl, by rw [show bs ++ encAlm x = bs4 from by rw [← HB4.out, ← HB3.out, ← HB2.out, ← HB1.out]; simp [encAlm, flat_one, List.append_assoc]]; exact HW.out, HR.out⟩
set_option maxRecDepth 1000000 in
set_option maxHeartbeats 4000000 in
theorem isr_w_calls (B base : Nat) (v : Value) (bs : List Int) (x : S107) (A2 : Option Addr) (c2 : Nat) (w : World) (hW : WS w base B v bs) (hlim : bs.length ≤ 549755813888) (hok : OkIsr x) (hO : ∀ w1, Below base w w1 → (Kd.int .i64).C w1 A2 x.f2.length x.f2) (hc : x.f2.length ≤ c2) :
  Calls Try.prog 83 #[.pointer (some ⟨B, 0, none⟩), .agg #[.int .i64 x.f0, .int .i64 x.f1, .slice A2 x.f2.length c2]] w fun e w' => ∃ v', e = .returned (.tuple #[]) ∧ WS w' base B v' (bs ++ encIsr x) ∧ Wr base w w' B v v' := by
 have HBS := Aside0.mk hW.base
 have HLIM := Aside0.mk hlim
 have HOK := Aside0.mk hok
 clear hok
 have HO := Aside0.mk hO
 clear hO
 have HX := Aside0.mk (heap_alloc_new w (.cells #[.int .i64 x.f0, .int .i64 x.f1, .slice A2 x.f2.length c2] 107))
 have HW := Aside0.mk (hW.new (.cells #[.int .i64 x.f0, .int .i64 x.f1, .slice A2 x.f2.length c2] 107))
 have HR := Aside0.mk (Wr.new hW (.cells #[.int .i64 x.f0, .int .i64 x.f1, .slice A2 x.f2.length c2] 107))
 clear hW hlim
 go_enter Try.func83, Try.ntmps83
 go_upto_region 1 with fail
 generalize w.alloc (.cells #[.int .i64 x.f0, .int .i64 x.f1, .slice A2 x.f2.length c2] 107) = w0 at *
 obtain ⟨P, hP⟩ : ∃ P, w.heap.size = P := ⟨_, rfl⟩
 rw [hP] at HX ⊢
 have HPP := Aside0.mk hP
 clear hP
 have HL := Aside0.mk (show bs.length ≤ bs.length + 0 from by omega)
 have HA := (⟨cells_box HX.out⟩ : At107 _ ⟨P, 0, none⟩ x A2 c2)
 have g0 := HA.g0
 have g1 := HA.g1
 clear HA
 go_wp2_with fail
 refine (bytes_calls B base v bs (some ⟨w0.heap.size, 0, none⟩) 2 [x.f0, x.f1] (w0.alloc (.cells #[.int .i64 (x.f0), .int .i64 (x.f1)] 3)) (HW.out.new _) (kept_new (k := .i64) (cs := [x.f0, x.f1]) HW.out rfl (by simp)) (by simp) (by simp; have := HOK.out.s0; unfold Sm at this; have := HOK.out.s1; unfold Sm at this; omega) (by have := HL.out; have := HLIM.out; simp only [List.length_cons, List.length_nil]; omega)).mono ?_
 rintro e w1 ⟨v1, rfl, W1, R1⟩
 replace HX := Aside0.mk (box_kept HW.out ((Wr.new HW.out _).trans R1 HW.out.base).kp HX.out (by decide) (by decide))
 replace HR := Aside0.mk (HR.out.trans ((Wr.new HW.out _).trans R1 HW.out.base) HBS.out)
 obtain ⟨bs1, hb⟩ : ∃ z, bs ++ bytes1 [x.f0, x.f1] = z := ⟨_, rfl⟩
 rw [hb] at W1
 replace HL := Aside0.mk (show bs1.length ≤ bs.length + 16 from by rw [← hb, List.length_append]; have := bytes1_len [x.f0, x.f1]; simp only [List.length_cons, List.length_nil] at this; have := HL.out; omega)
 have HB1 := Aside0.mk hb
 replace HW := Aside0.mk W1
 clear hb W1 R1 g0 g1
 have HA := (⟨cells_box HX.out⟩ : At107 _ ⟨P, 0, none⟩ x A2 c2)
 have g2 := HA.g2
 clear HA
 go_wp2_with fail
 refine (list_calls B base v1 bs1 A2 c2 x.f2 w1 HW.out (by have := HL.out; have := HLIM.out; omega) (fun w1 hk => HO.out w1 (HR.out.kp.low.trans hk.low)) hc HOK.out.s2).mono ?_
 rintro e w2 ⟨v2, rfl, W1, R1⟩
 replace HX := Aside0.mk (box_kept HW.out R1.kp HX.out (by decide) (by decide))
 replace HR := Aside0.mk (HR.out.trans R1 HBS.out)
 obtain ⟨bs2, hb⟩ : ∃ z, bs1 ++ listL x.f2 = z := ⟨_, rfl⟩
 rw [hb] at W1
 replace HL := Aside0.mk (show bs2.length ≤ bs.length + 8024 from by rw [← hb, List.length_append]; have h1_ := bytes1_len [(x.f2.length : Int)]; have h2_ := bytes1_len x.f2; have h3_ := HOK.out.s2.1; simp only [List.length_cons, List.length_nil] at h1_; unfold listL; simp only [List.length_append]; have := HL.out; omega)
 have HB2 := Aside0.mk hb
 replace HW := Aside0.mk W1
 clear hb W1 R1 g2
 go_wp2_with fail
 go_end0
 exact ⟨_, rfl, by rw [show bs ++ encIsr x = bs2 from by rw [← HB2.out, ← HB1.out]; simp [encIsr, List.append_assoc]]; exact HW.out, HR.out⟩
set_option maxRecDepth 1000000 in
set_option maxHeartbeats 4000000 in
theorem msg_w_calls (B base : Nat) (v : Value) (bs : List Int) (x : S113) (w : World) (hW : WS w base B v bs) (hlim : bs.length ≤ 549755813888) (hok : OkMsg x) :
  Calls Try.prog 85 #[.pointer (some ⟨B, 0, none⟩), .agg #[.int .i64 x.f0, .int .i64 x.f1, .int .i64 x.f2, .int .u64 x.f3, .int .i64 x.f4, .int .i64 x.f5.f0, .int .i64 x.f5.f1, .int .u32 x.f5.f2]] w fun e w' => ∃ v', e = .returned (.tuple #[]) ∧ WS w' base B v' (bs ++ encMsg x) ∧ Wr base w w' B v v' := by
 have HBS := Aside0.mk hW.base
 have HLIM := Aside0.mk hlim
 have HOK := Aside0.mk hok
 clear hok
 have HX := Aside0.mk (heap_alloc_new w (.cells #[.int .i64 x.f0, .int .i64 x.f1, .int .i64 x.f2, .int .u64 x.f3, .int .i64 x.f4, .int .i64 x.f5.f0, .int .i64 x.f5.f1, .int .u32 x.f5.f2] 113))
 have HW := Aside0.mk (hW.new (.cells #[.int .i64 x.f0, .int .i64 x.f1, .int .i64 x.f2, .int .u64 x.f3, .int .i64 x.f4, .int .i64 x.f5.f0, .int .i64 x.f5.f1, .int .u32 x.f5.f2] 113))
 have HR := Aside0.mk (Wr.new hW (.cells #[.int .i64 x.f0, .int .i64 x.f1, .int .i64 x.f2, .int .u64 x.f3, .int .i64 x.f4, .int .i64 x.f5.f0, .int .i64 x.f5.f1, .int .u32 x.f5.f2] 113))
 clear hW hlim
 go_enter Try.func85, Try.ntmps85
 go_upto_region 1 with fail
 generalize w.alloc (.cells #[.int .i64 x.f0, .int .i64 x.f1, .int .i64 x.f2, .int .u64 x.f3, .int .i64 x.f4, .int .i64 x.f5.f0, .int .i64 x.f5.f1, .int .u32 x.f5.f2] 113) = w0 at *
 obtain ⟨P, hP⟩ : ∃ P, w.heap.size = P := ⟨_, rfl⟩
 rw [hP] at HX ⊢
 have HPP := Aside0.mk hP
 clear hP
 have HL := Aside0.mk (show bs.length ≤ bs.length + 0 from by omega)
 have HA := (⟨cells_box HX.out⟩ : At113 _ ⟨P, 0, none⟩ x)
 have g0 := HA.g0
 have g1 := HA.g1
 have g2 := HA.g2
 clear HA
 go_wp2_with fail
 refine (bytes_calls B base v bs (some ⟨w0.heap.size, 0, none⟩) 3 [x.f0, x.f1, x.f2] (w0.alloc (.cells #[.int .i64 (x.f0), .int .i64 (x.f1), .int .i64 (x.f2)] 3)) (HW.out.new _) (kept_new (k := .i64) (cs := [x.f0, x.f1, x.f2]) HW.out rfl (by simp)) (by simp) (by simp; have := HOK.out.s0; unfold Sm at this; have := HOK.out.s1; unfold Sm at this; have := HOK.out.s2; unfold Sm at this; omega) (by have := HL.out; have := HLIM.out; simp only [List.length_cons, List.length_nil]; omega)).mono ?_
 rintro e w1 ⟨v1, rfl, W1, R1⟩
 replace HX := Aside0.mk (box_kept HW.out ((Wr.new HW.out _).trans R1 HW.out.base).kp HX.out (by decide) (by decide))
 replace HR := Aside0.mk (HR.out.trans ((Wr.new HW.out _).trans R1 HW.out.base) HBS.out)
 obtain ⟨bs1, hb⟩ : ∃ z, bs ++ bytes1 [x.f0, x.f1, x.f2] = z := ⟨_, rfl⟩
 rw [hb] at W1
 replace HL := Aside0.mk (show bs1.length ≤ bs.length + 24 from by rw [← hb, List.length_append]; have := bytes1_len [x.f0, x.f1, x.f2]; simp only [List.length_cons, List.length_nil] at this; have := HL.out; omega)
 have HB1 := Aside0.mk hb
 replace HW := Aside0.mk W1
 clear hb W1 R1 g0 g1 g2
 have HA := (⟨cells_box HX.out⟩ : At113 _ ⟨P, 0, none⟩ x)
 have g3 := HA.g3
 clear HA
 have x_0 := HOK.out.s3.1
 have x_0b := HOK.out.s3.2
 go_wp2_with fail
 refine (put_calls B base v1 bs1 8 (some ⟨w1.heap.size, 0, none⟩) 1 [x.f3] (w1.alloc (.cells #[.int .u64 (x.f3)] 62)) (HW.out.new _) (by omega) (by omega) (kept_new (k := .u64) (cs := [x.f3]) HW.out rfl (by simp)) (by simp) (by simp; have := HOK.out.s3; unfold Sm at this; omega) (by have := HL.out; have := HLIM.out; simp only [List.length_cons, List.length_nil]; omega)).mono ?_
 rintro e w2 ⟨v2, rfl, W1, R1⟩
 replace HX := Aside0.mk (box_kept HW.out ((Wr.new HW.out _).trans R1 HW.out.base).kp HX.out (by decide) (by decide))
 replace HR := Aside0.mk (HR.out.trans ((Wr.new HW.out _).trans R1 HW.out.base) HBS.out)
 obtain ⟨bs2, hb⟩ : ∃ z, bs1 ++ [x.f3].flatMap (leN 8) = z := ⟨_, rfl⟩
 rw [hb] at W1
 replace HL := Aside0.mk (show bs2.length ≤ bs.length + 32 from by rw [← hb, List.length_append]; have := flat_len8 8 [x.f3] (by omega); simp only [List.length_cons, List.length_nil] at this; have := HL.out; omega)
 have HB2 := Aside0.mk hb
 replace HW := Aside0.mk W1
 clear hb W1 R1 g3 x_0 x_0b
 have HA := (⟨cells_box HX.out⟩ : At113 _ ⟨P, 0, none⟩ x)
 have g4 := HA.g4
 clear HA
 go_wp2_with fail
 refine (bytes_calls B base v2 bs2 (some ⟨w2.heap.size, 0, none⟩) 1 [x.f4] (w2.alloc (.cells #[.int .i64 (x.f4)] 3)) (HW.out.new _) (kept_new (k := .i64) (cs := [x.f4]) HW.out rfl (by simp)) (by simp) (by simp; have := HOK.out.s4; unfold Sm at this; omega) (by have := HL.out; have := HLIM.out; simp only [List.length_cons, List.length_nil]; omega)).mono ?_
 rintro e w3 ⟨v3, rfl, W1, R1⟩
 replace HX := Aside0.mk (box_kept HW.out ((Wr.new HW.out _).trans R1 HW.out.base).kp HX.out (by decide) (by decide))
 replace HR := Aside0.mk (HR.out.trans ((Wr.new HW.out _).trans R1 HW.out.base) HBS.out)
 obtain ⟨bs3, hb⟩ : ∃ z, bs2 ++ bytes1 [x.f4] = z := ⟨_, rfl⟩
 rw [hb] at W1
 replace HL := Aside0.mk (show bs3.length ≤ bs.length + 40 from by rw [← hb, List.length_append]; have := bytes1_len [x.f4]; simp only [List.length_cons, List.length_nil] at this; have := HL.out; omega)
 have HB3 := Aside0.mk hb
 replace HW := Aside0.mk W1
 clear hb W1 R1 g4
 have HA := (⟨cells_box HX.out⟩ : At113 _ ⟨P, 0, none⟩ x)
 have HXA := Aside0.mk HA.act
 clear HA
 go_wp2_with (first | ((with_reducible refine gate_dst (N := 25) rfl ?_); refine load100 HXA.out rfl (.tmp 24) rfl rfl ?_))
 refine (act_w_calls B base v3 bs3 x.f5 w3 HW.out (by have := HL.out; have := HLIM.out; omega) HOK.out.s5).mono ?_
 rintro e w4 ⟨v4, rfl, W1, R1⟩
 replace HX := Aside0.mk (box_kept HW.out R1.kp HX.out (by decide) (by decide))
 replace HR := Aside0.mk (HR.out.trans R1 HBS.out)
 obtain ⟨bs4, hb⟩ : ∃ z, bs3 ++ actL x.f5 = z := ⟨_, rfl⟩
 rw [hb] at W1
 replace HL := Aside0.mk (show bs4.length ≤ bs.length + 64 from by rw [← hb, List.length_append]; have h1_ := bytes1_len [x.f5.f0, x.f5.f1]; have h2_ := leN_len 4 x.f5.f2; simp only [List.length_cons, List.length_nil] at h1_; unfold actL; simp only [List.length_append]; have := HL.out; omega)
 have HB4 := Aside0.mk hb
 replace HW := Aside0.mk W1
 clear hb W1 R1 
 go_wp2_with fail
 go_end0
 exact ⟨_, rfl, by rw [show bs ++ encMsg x = bs4 from by rw [← HB4.out, ← HB3.out, ← HB2.out, ← HB1.out]; simp [encMsg, flat_one, List.append_assoc]]; exact HW.out, HR.out⟩
end Go.Proofs.Ytbgcemijihpakaa.XA
