/- level.byStatus, StatusOf, byName, Number: the contracts of the Go functions: maps that are made, and asked. -/
import Derived.Test.YtkkkcpijbkjhdaaHTab
import Derived.Maps.OwnSet
import Derived.Maps.OwnOps
import Derived.Maps.Views
import Derived.Outline
namespace Go.Proofs.Ytkkkcpijbkjhdaa
open Go.RowKit Go.WideMaps Go.Maps

structure Aside (p : Prop) : Prop where mk :: (out : p)
/-! ### a map of names and numbers -/
/-- what is told of a name last -/
def lastOf (key : List UInt8) (l : List (List UInt8 × Int)) : Option Int := l.foldl (fun r p => if p.1 = key then some p.2 else r) none
/-- the map that bears the pairs, one put behind the other -/
def mapOf (l : List (List UInt8 × Int)) : DataW Unit := l.foldl (fun D p => D.put (.string p.1) (.lit (.int .i64 p.2))) (.map [])
theorem mapOf_snoc (l : List (List UInt8 × Int)) (k : List UInt8) (v : Int) : mapOf (l ++ [(k, v)]) = (mapOf l).put (.string k) (.lit (.int .i64 v)) := by simp [mapOf]
def tells (D : DataW Unit) (key : List UInt8) (r : Option Int) : Prop := IsMap D ∧ D.atKey (.string key) (.lit (.int .i64 0)) = .lit (.int .i64 (r.getD 0)) ∧ Maps.has D (.string key) = r.isSome
theorem tells_put {D : DataW Unit} {key : List UInt8} {r : Option Int} (h : tells D key r) (k : List UInt8) (v : Int) : tells (D.put (.string k) (.lit (.int .i64 v))) key (if k = key then some v else r) := by
  obtain ⟨h1, h2, h3⟩ := h
  refine ⟨h1.put _ _, ?_, ?_⟩
  · by_cases e : k = key
    · subst e
      rw [if_pos rfl, atKey_put_same h1 (by simp [WideAt.IsKeyLit])]
      rfl
    · rw [if_neg e, atKey_put_other (by simpa using fun h => e h.symm), h2]
  · by_cases e : k = key
    · subst e
      rw [if_pos rfl, has_put_same h1 (by simp [WideAt.IsKeyLit])]
      rfl
    · rw [if_neg e, has_put_other (by simpa using fun h => e h.symm), h3]
theorem tells_fold (key : List UInt8) (l : List (List UInt8 × Int)) : ∀ (D : DataW Unit) (r : Option Int), tells D key r →
    tells (l.foldl (fun D p => D.put (.string p.1) (.lit (.int .i64 p.2))) D) key (l.foldl (fun r p => if p.1 = key then some p.2 else r) r) := by
  induction l with
  | nil => intro D r h; exact h
  | cons p l ih => intro D r h; exact ih _ _ (tells_put h p.1 p.2)
theorem tells_mapOf (key : List UInt8) (l : List (List UInt8 × Int)) : tells (mapOf l) key (lastOf key l) :=
  tells_fold key l _ _ ⟨⟨[], rfl⟩, rfl, rfl⟩

theorem law : Keyed Try.prog 9 := string_keyed Try.underlying9
theorem key_str (s : ByteArray) (h : s.size ≤ maxLen) : keyOf Try.prog 9 (.string s) = some (.string s.data.toList) := keyOf_string_mk Try.underlying9 h

/-! ### byStatus -/
def stPair (s : Nat) : List (List UInt8 × Int) := if (statusP s).toList = [] then [] else [((statusP s).data.toList, (s : Int))]
def stL (j : Nat) : List (List UInt8 × Int) := (List.range j).flatMap stPair
theorem stL_succ (j : Nat) : stL (j + 1) = stL j ++ stPair j := by simp [stL, List.range_succ]
theorem sz_ite {c : Prop} [Decidable c] {a b : ByteArray} {m : Nat} (ha : a.size ≤ m) (hb : b.size ≤ m) : (if c then a else b).size ≤ m := by
  split
  · exact ha
  · exact hb
theorem statusP_size (s : Int) : (statusP s).size ≤ maxLen := by
  unfold statusP maxLen
  repeat' (refine sz_ite ?_ ?_)
  all_goals exact Nat.le_of_ble_eq_true rfl
theorem owns_below {w w1 : World} {k b n : Nat} {R : Value → Option (DataW Unit × List MemPlace)} {D : DataW Unit} (h : w.ownsMap Try.prog k R b n D) (hb : Below w.heap.size w w1) : w1.ownsMap Try.prog k R b n D := by
  obtain ⟨es, clock, h1, h2⟩ := h
  have hlt : b < w.heap.size := by
    rcases Nat.lt_or_ge b w.heap.size with h | h
    · exact h
    · rw [Array.getElem?_eq_none h] at h1; cases h1
  exact ⟨es, clock, (hb.block b hlt).trans h1, h2⟩
theorem owns_more {w : World} {k b n m : Nat} {R : Value → Option (DataW Unit × List MemPlace)} {D : DataW Unit} (h : w.ownsMap Try.prog k R b n D) (hm : n ≤ m) : w.ownsMap Try.prog k R b m D := by
  obtain ⟨es, clock, h1, h2, h3, h4⟩ := h
  exact ⟨es, clock, h1, h2, Nat.le_trans h3 hm, h4⟩
theorem zero22 (w : World) : (zeroValue 22).run Try.prog w = .ok (.int .i64 0) w := by kernel_rfl
theorem zero3 (w : World) : (zeroValue 3).run Try.prog w = .ok (.int .i64 0) w := by kernel_rfl

set_option maxRecDepth 1000000 in
set_option maxHeartbeats 1000000 in
theorem byStatus_calls (w : World) : Calls Try.prog 27 #[] w fun e w' => ∃ B, e = .returned (.map (some B)) ∧ w'.ownsMap Try.prog 9 (plainElem (H := Unit) Try.prog 22) B 37 (mapOf (stL 37)) ∧ Below w.heap.size w w' := by
  have hmm := @run_makeMap Try.prog
  go_enter Try.func27, Try.ntmps27
  go_wp2
  go_loopw [2] (fun i wr => ∃ k : Nat, k ≤ 37 ∧ i = .int .i64 k ∧ wr.ownsMap Try.prog 9 (plainElem (H := Unit) Try.prog 22) w.heap.size k (mapOf (stL k)) ∧ Below w.heap.size w wr ∧ w.heap.size < wr.heap.size) (fun i _ => 37 - (intOf i).toNat)
  case atStart => exact ⟨0, by omega, rfl, World.ownsMap_made _ _ _ _, (Below.refl _ _).alloc (Nat.le_refl _) _, by simp⟩
  case round =>
    obtain ⟨k, hk, rfl, hown, hnx, hsz⟩ := hrel
    by_cases hlt : k < 37
    · go_wp2_with fail
      refine (status_calls k _).mono ?_
      rintro e w1 ⟨rfl, hb1⟩
      have hown1 := Aside.mk (owns_below hown hb1)
      have hs := key_str (statusP k) (statusP_size k)
      have hsucc := Lib.hid (stL_succ k)
      have HB := Lib.hid (hnx.trans (hb1.mono hnx.size))
      have hz1 : w.heap.size < w1.heap.size := Nat.lt_of_lt_of_le hsz hb1.size
      by_cases hne : (statusP k).toList = []
      · have hE := Lib.hid (show stL (k + 1) = stL k by rw [hsucc.out]; unfold stPair; rw [if_pos hne, List.append_nil])
        have hne1 : (statusP k).toList.isEmpty = true := by rw [hne]; rfl
        clear hown hnx hb1
        go_wp2_with fail
        go_roundw
        case rel => exact ⟨k + 1, by omega, by go_num, by rw [hE.out]; exact owns_more hown1.out (by omega), HB.out, hz1⟩
        case measure => simp [intOf]; omega
      · have hE := Lib.hid (show stL (k + 1) = stL k ++ [((statusP k).data.toList, (k : Int))] by rw [hsucc.out]; unfold stPair; rw [if_neg hne])
        have hne1 : (statusP k).toList.isEmpty = false := by simpa using hne
        clear hown hnx hb1
        go_wp2_with (at_mapUpdate; refine wpList_mapUpdate_own _ rfl _ _ _ 49 rfl 9 22 law Try.underlying49 _ w.heap.size k _ rfl hown1.out (by unfold maxLen; omega) _ _ _ rfl rfl hs _ [] (plainElem_int Try.underlying22 (WalkArith.wf_i64 (by omega))) ?_; intro w2 hown2 hgrow2; have HO2 := Aside.mk hown2; have HB2 := Lib.hid (HB.out.grown hgrow2 (Nat.le_of_lt hz1) (fun j hj => by cases hj; exact Nat.le_refl _)); have hz2 : w.heap.size < w2.heap.size := Nat.lt_of_lt_of_le hz1 hgrow2.size; clear hown2 hgrow2)
        go_roundw
        case rel => exact ⟨k + 1, by omega, by go_num, by rw [hE.out, mapOf_snoc]; exact HO2.out, HB2.out, hz2⟩
        case measure => simp [intOf]; omega
    · obtain rfl : k = 37 := by omega
      go_wp2_with fail
      go_ret
      exact ⟨_, rfl, hown, hnx⟩

/-- what StatusOf answers -/
def statusOfP (s : ByteArray) : Int × Bool := match lastOf s.data.toList (stL 37) with | some v => (v, true) | none => (0, false)
theorem lit_inj {a b : Int} (h : (DataW.lit (H := Unit) (.int .i64 a)) = .lit (.int .i64 b)) : a = b := by
  injection h with h
  injection h
set_option maxRecDepth 1000000 in
set_option maxHeartbeats 1000000 in
theorem statusOf_calls (s : ByteArray) (w : World) (hsz : s.size ≤ maxLen) : Calls Try.prog 6 #[.string s] w fun e w' => e = .returned (.tuple #[.int .i64 (statusOfP s).1, .bool (statusOfP s).2]) ∧ Below w.heap.size w w' := by
  have hkey := key_str s hsz
  obtain ⟨_, ht2, ht3⟩ := tells_mapOf s.data.toList (stL 37)
  have hp : (statusOfP s).1 = (lastOf s.data.toList (stL 37)).getD 0 ∧ (statusOfP s).2 = (lastOf s.data.toList (stL 37)).isSome := by
    unfold statusOfP
    cases lastOf s.data.toList (stL 37) <;> exact ⟨rfl, rfl⟩
  rw [← hp.1] at ht2
  rw [← hp.2] at ht3
  have H2 := Lib.hid ht2
  have H3 := Lib.hid ht3
  clear ht2 ht3 hp
  go_enter Try.func6, Try.ntmps6
  go_wp2_with fail
  refine (byStatus_calls _).mono ?_
  rintro e w1 ⟨B, rfl, hown, hb⟩
  have HO := Aside.mk hown
  clear hown
  go_wp2_with (at_lookup; refine wpList_lookup_own_ok_int _ rfl _ _ 49 rfl 9 22 .i64 law Try.underlying49 Try.underlying22 (zero22 _) B 37 _ rfl HO.out _ _ rfl hkey ?_; intro c hat hwc; rw [H2.out] at hat; have hc := Lib.hid (lit_inj hat); clear hat hwc; rw [H3.out])
  go_ret2
  exact ⟨by rw [hc.out]; rfl, hb⟩

end Go.Proofs.Ytkkkcpijbkjhdaa
