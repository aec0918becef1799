/- plain: what is read as an image is the image of what was read. -/
import Derived.Test.YtbgcemijihpakaaG33
namespace Go.Proofs.Ytbgcemijihpakaa.XA
set_option linter.unusedVariables false
set_option linter.unusedSimpArgs false
open Go.RowKit Go.WideMaps Go.Maps Go.Proofs.YtbgcemijihpakaaW.PrintWords Go.Proofs.YtbgcemijihpakaaW.PrintLast Go.Proofs.YtbgcemijihpakaaW.PrintMore
theorem pGet_len {n : Nat} {bs r : List Int} {x : Int} (h : pGet n bs = .ok (x, r)) : bs.length = n + r.length := by
 unfold pGet at h
 split at h
 ·injection h with h
  injection h with _ h
  subst h
  rw [List.length_drop]
  omega
 ·cases h
theorem reps_len {n : Nat} : ∀ (m : Nat) (bs r : List Int) (xs : List Int), pReps (pGet n) m bs = .ok (xs, r) → bs.length = m * n + r.length
 | 0, bs, r, xs, h => by
  simp only [pReps] at h
  injection h with h
  injection h with _ h
  subst h
  omega
 | m + 1, bs, r, xs, h => by
  simp only [pReps] at h
  rcases hq : pGet n bs with c | ⟨x, r1⟩
  ·rw [hq] at h; cases h
  ·rw [hq] at h
   rcases h2 : pReps (pGet n) m r1 with c | ⟨l, s⟩
   ·simp only [h2] at h; cases h
   ·simp only [h2] at h
    injection h with h
    injection h with h3 h4
    subst h3 h4
    have e1 := pGet_len hq
    have e2 := reps_len m r1 s l h2
    rw [e1, e2, Nat.add_mul]
    omega
theorem six_len {s : Int} {ns bs r : List Int} {h : HeadP} (hq : pSix s ns bs = .ok (h, r)) : bs.length = 6 + r.length := by
 unfold pSix at hq
 obtain ⟨a, r1, h1, hq⟩ := pBind_inv hq
 obtain ⟨b, r2, h2, hq⟩ := pBind_inv hq
 obtain ⟨c, r3, h3, hq⟩ := pBind_inv hq
 obtain ⟨d, r4, h4, hq⟩ := pBind_inv hq
 obtain ⟨e, r5, h5, hq⟩ := pBind_inv hq
 obtain ⟨f, r6, h6, hq⟩ := pBind_inv hq
 injection hq with hq
 injection hq with _ h8
 subst h8
 have := pGet_len h1; have := pGet_len h2; have := pGet_len h3; have := pGet_len h4; have := pGet_len h5; have := pGet_len h6
 omega
theorem reps_bd {n : Nat} : ∀ (m : Nat) (bs r : List Int) (xs : List Int), Bs bs → pReps (pGet n) m bs = .ok (xs, r) → xs.length = m ∧ ∀ x ∈ xs, 0 ≤ x ∧ x < 256 ^ n
 | 0, bs, r, xs, _, h => by
  simp only [pReps] at h
  injection h with h
  injection h with h _
  subst h
  simp
 | m + 1, bs, r, xs, hb, h => by
  simp only [pReps] at h
  rcases hq : pGet n bs with c | ⟨x, r1⟩
  ·rw [hq] at h; cases h
  ·rw [hq] at h
   rcases h2 : pReps (pGet n) m r1 with c | ⟨l, s⟩
   ·simp only [h2] at h; cases h
   ·simp only [h2] at h
    injection h with h
    injection h with h3 h4
    subst h3 h4
    have e1 := pGet_bd hq hb
    obtain ⟨e2, e3⟩ := reps_bd m r1 s l e1.2.2.1 h2
    refine ⟨by simp [e2], fun y hy => ?_⟩
    rcases List.mem_cons.mp hy with rfl | hy
    ·exact ⟨e1.1, e1.2.1⟩
    ·exact e3 y hy
theorem cut3 {l : List Int} {n m : Nat} (h : n ≤ m) (hm : m ≤ l.length) : l = l.take n ++ (l.take m).drop n ++ l.drop m := by
 have e : l.take n = (l.take m).take n := by rw [List.take_take, Nat.min_eq_left h]
 rw [e, List.take_append_drop, List.take_append_drop]
theorem mem_bs {b : List Int} (hb : Bs b) (n m : Nat) : Bs ((b.take n).drop m) := fun y hy => hb y (List.mem_of_mem_take (List.mem_of_mem_drop hy))
theorem seven {l : List Int} (h : l.length = 7) : ∃ n0 n1 n2 n3 n4 n5 n6 : Int, l = [n0, n1, n2, n3, n4, n5, n6] := by
 match l, h with
 | [n0, n1, n2, n3, n4, n5, n6], _ => exact ⟨n0, n1, n2, n3, n4, n5, n6, rfl⟩
/-- what an image that is read says -/
structure ImgOf (b : List Int) (t : S33) : Prop where
 eq : imgL t = b
 ok : tabE t = 0
theorem img_inv {b : List Int} {t : S33} (hb : Bs b) (h : imgP b = .ok t) : ImgOf b t := by
 unfold imgP at h
 split at h
 ·cases h
 rename_i hm
 split at h
 ·cases h
 rename_i hl
 split at h
 ·cases h
 rename_i s h1 hg
 split at h
 ·cases h
 rename_i hs
 split at h
 ·cases h
 rename_i hc
 split at h
 ·cases h
 rename_i ns h2 hr
 split at h
 ·cases h
 rename_i hd r6 h6
 split at h
 ·cases h
 rename_i t' r hq
 split at h
 ·cases h
 rename_i hr0
 split at h
 case isFalse => cases h
 rename_i ht
 injection h with h
 subst h
 refine ⟨?_, ht⟩
 obtain ⟨hm0, hm1⟩ := not_or.mp hm
 replace hm1 : b.take 4 = [84, 80, 84, 49] := by simpa using hm1
 replace hs : s = (b.length : Int) := by simpa using hs
 replace hc : leVal (b.drop (b.length - 2)) = crcL (b.take (b.length - 2)) := by simpa using hc
 obtain rfl : r = [] := by cases r <;> simp_all
 have B1 := mem_bs hb 28 4
 obtain ⟨g1, b1⟩ := get_inv 4 _ _ _ B1 hg
 obtain ⟨g2, l2, b2⟩ := reps_inv (get_inv 2) 7 _ _ _ b1 hr
 obtain ⟨g3, _, e4, b3⟩ := six_inv b2 h6
 have n1 := pGet_len hg
 have n2 := reps_len _ _ _ _ hr
 have n3 := six_len h6
 have hlen : ((b.take 28).drop 4).length = 24 := by rw [List.length_drop, List.length_take]; omega
 obtain rfl : r6 = [] := List.length_eq_zero_iff.mp (by omega)
 obtain ⟨n4, p4⟩ := reps_bd _ _ _ _ b1 hr
 obtain ⟨g5, g6, q0, q1, q9, q10, q11, q12⟩ := rows_inv (h := hd) (by rw [e4]; exact seven n4) (by rw [e4]; exact fun x hx => (p4 x hx).1) (mem_bs hb (b.length - 2) 28) hq
 have hL : b.length = 28 + (encBody t').length + 2 := by
  have := congrArg List.length g5
  rw [List.length_drop, List.length_take, List.append_nil] at this
  omega
 have hD : leN 2 (crcL (b.take (b.length - 2))) = b.drop (b.length - 2) := by
  have hdl : (b.drop (b.length - 2)).length = 2 := by rw [List.length_drop]; omega
  have hp : pGet 2 (b.drop (b.length - 2)) = .ok (leVal (b.drop (b.length - 2)), []) := by
   unfold pGet
   rw [if_pos (by omega), List.take_of_length_le (by omega : (b.drop (b.length - 2)).length ≤ 2), List.drop_eq_nil_of_le (by omega : (b.drop (b.length - 2)).length ≤ 2)]
  have := (get_inv 2 _ _ _ (fun y hy => hb y (List.mem_of_mem_drop hy)) hp).1
  rw [List.append_nil, hc] at this
  exact this.symm
 have hB : imgB t' = b.take (b.length - 2) := by
  have e1 := cut3 (l := b) (n := 28) (m := b.length - 2) (by omega) (by omega)
  have e2 : b.take (b.length - 2) = b.take 28 ++ (b.take (b.length - 2)).drop 28 := by
   have : b.take 28 = (b.take (b.length - 2)).take 28 := by rw [List.take_take, Nat.min_eq_left (by omega)]
   rw [this, List.take_append_drop]
  have e3 : b.take 28 = b.take 4 ++ (b.take 28).drop 4 := by
   have : b.take 4 = (b.take 28).take 4 := by rw [List.take_take, Nat.min_eq_left (by omega)]
   rw [this, List.take_append_drop]
  have e5 : (28 : Int) + ((encBody t').length : Int) + 2 = (b.length : Int) := by omega
  rw [e2, e3, hm1, g1, g2, g3, g5, ← e4, g6, q0, q1, q9, q10, q11, q12, hs]
  unfold imgB
  rw [e5]
  simp only [List.append_nil, List.append_assoc]
 unfold imgL
 rw [hB, hD, List.take_append_drop]
end Go.Proofs.Ytbgcemijihpakaa.XA
