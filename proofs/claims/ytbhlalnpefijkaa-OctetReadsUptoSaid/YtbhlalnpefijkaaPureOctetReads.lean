/- OctetReads: every script of calls over any bytes answers as the document says, into memory of its own: the row's walk with what it needs. -/
import Derived.Test.YtbhlalnpefijkaaPureOctetWrites
import Derived.Test.YtbhlalnpefijkaaHReads
namespace Go.Proofs.Ytbhlalnpefijkaa.Pure
set_option linter.unusedVariables false
set_option linter.unusedSimpArgs false
open Go.RowKit Go.Proofs.Ytbhlalnpefijkaa.XC Go.Proofs.Ytbhlalnpefijkaa Go.Proofs.YtbhlalnpefijkaaW.PrintWords Go.Proofs.YtbhlalnpefijkaaW.PrintLast

theorem copy_l0 (l : List Int) (hb : l.length < 9223372036854775807) : ∀ (d i k : Nat) (x : List Int), i + d = l.length → d < k → x.length = l.length → x.take i = l.take i → tappetref01_Copy.l0 k l x (i : Int) = some l
  | 0, i, k + 1, x, h, _, hx, ht => by
    rw [tappetref01_Copy.l0, if_neg (by omega), ← List.take_of_length_le (show x.length ≤ i by omega), ht, List.take_of_length_le (by omega)]
  | d + 1, i, k + 1, x, h, hk, hx, ht => by
    rw [tappetref01_Copy.l0, if_pos (by omega), if_pos (by omega), if_pos (by omega), nextI i (by omega), rd_at l i (by omega), Int.toNat_natCast]
    refine copy_l0 l hb d (i + 1) k _ (by omega) (by omega) (by simp [hx]) ?_
    rw [List.take_succ_eq_append_getElem (by rw [List.length_set]; omega), List.take_succ_eq_append_getElem (by omega), List.take_set_of_le (by omega), ht]
    simp
theorem copy_f (l : List Int) (hb : l.length ≤ 281474976710656) (k : Nat) (hk : l.length < k) : tappetref01_Copy.f k l = some l := by
  unfold tappetref01_Copy.f
  rw [if_pos (by omega), if_pos (by omega)]
  exact copy_l0 l (by omega) l.length 0 k _ (by omega) hk (by simp) (by simp)
def okCl (p : Cl) : Prop := True
def wtCl (p : Cl) : Nat := 2
def mkCl (a : Int × Int) : Cl := ⟨a.1, a.2⟩
theorem opn_call : Open.Opn Try.prog 59 clK okCl (fun _ => True) wtCl :=
  Open.Opn.map (Open.Opn.struct Try.underlying59 (by kernel_rfl) (Open.Fld.cons (Open.Opn.int (k := .i64) (by kernel_rfl) (by kernel_rfl)) rfl rfl (Open.Fld.one (Open.Opn.int (k := .i64) (by kernel_rfl) (by kernel_rfl)) rfl)))
    mkCl clK rfl (fun w a cs h => by
      obtain ⟨_, _, rfl, rfl, rfl⟩ := h
      rfl) okCl (fun _ => True) wtCl (fun a h => trivial) (fun _ _ => trivial) (fun a => by simp only [wtCl]; omega) (fun _ => by unfold wtCl; omega)
def okCs (l : List Cl) : Prop := ∀ p ∈ l, okCl p
def szCs (l : List Cl) : Prop := l.length * Try.prog.bytesOf 59 ≤ reachBytes ∧ ∀ p ∈ l, True
def wtCs (l : List Cl) : Nat := (l.map wtCl).sum + 1
theorem opn_calls : Open.Opn Try.prog 55 (Kd.slice 59 clK) okCs szCs wtCs := Open.Opn.slice 59 opn_call Try.underlying55 (by kernel_rfl)
theorem len_sum : ∀ l : List Cl, l.length ≤ (l.map wtCl).sum
  | [] => Nat.le_refl _
  | p :: l => by
    have := len_sum l
    simp only [List.map_cons, List.sum_cons, List.length_cons, wtCl] at *
    omega
theorem reads_row (w : World) (A0 : Option Addr) (c0 : Nat) (l : List Int) (hC : (Kd.int .u8).C w A0 l.length l) (hc : l.length ≤ c0) (hw : ∀ x ∈ l, (Lit.int .u8 x).wf = true) (hl : l.length ≤ 1048576)
    (A1 : Option Addr) (c1 : Nat) (ps : List Cl) (hC1 : clK.C w A1 ps.length ps) (hc1 : ps.length ≤ c1) (hok : okCs ps) (hsz : szCs ps) (z : wtCs ps ≤ 1048576) :
    Calls Try.prog 7 #[.slice A0 l.length c0, .slice A1 ps.length c1] w fun e w' => e = .returned (.bool true) ∧ Below w.heap.size w w' := by
  unfold wtCs at z
  have hn := len_sum ps
  refine reads_walk w A0 c0 l hC hc hl (fun x hx => ?_) A1 c1 ps hC1 hc1 (by omega) 1048577 256 1048577 (fun m hm => copy_f m (by omega) _ (by omega)) (fun s hs => plain_f s (by omega) _ (by omega)) (fun m hm => same_f m (by omega) _ (by omega))
  have h := hw x hx
  simp [Lit.wf, IntKind.min, IntKind.max, IntKind.signed, IntKind.bits] at h
  omega
end Go.Proofs.Ytbhlalnpefijkaa.Pure
