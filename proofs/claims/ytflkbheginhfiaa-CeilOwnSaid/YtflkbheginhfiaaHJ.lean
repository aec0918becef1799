/- a configuration handed in, in its box. -/
import Derived.Test.YtflkbheginhfiaaHI
import Derived.Test.YtflkbheginhfiaaXAx0
import Derived.Test.YtflkbheginhfiaaHOpen
namespace Go.Proofs.Ytflkbheginhfiaa.XA
set_option linter.unusedVariables false
set_option linter.unusedSimpArgs false
open Go.RowKit Go.WideMaps Go.Maps Go.Proofs.YtflkbheginhfiaaW.PrintWords Go.Proofs.YtflkbheginhfiaaW.PrintLast Go.Proofs.YtflkbheginhfiaaW.PrintMore
structure In (x : CV) (AT : Option Addr) (cT : Nat) (AR : Option Addr) (cR : Nat) (AI : Option Addr) (cI : Nat) (ts : List S64) (rs : List S73) (is : List S66) (w0 w : World) : Prop where
  bel : Below w0.heap.size w0 w
  box : BoxAt w w0.heap.size x AT cT AR cR AI cI ts.length rs.length is.length
  good : Good AT cT AR cR AI cI ts rs is w
theorem In.below (x : CV) (AT : Option Addr) (cT : Nat) (AR : Option Addr) (cR : Nat) (AI : Option Addr) (cI : Nat) (ts : List S64) (rs : List S73) (is : List S66) {w0 w w1 : World} (h : In x AT cT AR cR AI cI ts rs is w0 w) (hB : Below w.heap.size w w1) : In x AT cT AR cR AI cI ts rs is w0 w1 := ⟨h.bel.trans (hB.mono h.bel.size), h.box.below hB, h.good.below _ _ _ _ _ _ _ _ _ hB⟩
theorem in_made (x : CV) (AT : Option Addr) (cT : Nat) (AR : Option Addr) (cR : Nat) (AI : Option Addr) (cI : Nat) (ts : List S64) (rs : List S73) (is : List S66) (w : World) (g : Good AT cT AR cR AI cI ts rs is w) : In x AT cT AR cR AI cI ts rs is w (w.alloc (.cells #[.string x.s0, .string x.s1, .bool x.b2, .bool x.b3, .bool x.b4, .bool x.b5, .bool x.b6, .bool x.b7, .bool x.b8, .bool x.b9, .slice x.A10 x.n10 x.c10, .slice AT ts.length cT, .slice AR rs.length cR, .slice x.A13 x.n13 x.c13, .slice x.A14 x.n14 x.c14, .slice x.A15 x.n15 x.c15, .slice AI is.length cI, .slice x.A17 x.n17 x.c17] 36)) := by
  have hb : Below w.heap.size w (w.alloc (.cells #[.string x.s0, .string x.s1, .bool x.b2, .bool x.b3, .bool x.b4, .bool x.b5, .bool x.b6, .bool x.b7, .bool x.b8, .bool x.b9, .slice x.A10 x.n10 x.c10, .slice AT ts.length cT, .slice AR rs.length cR, .slice x.A13 x.n13 x.c13, .slice x.A14 x.n14 x.c14, .slice x.A15 x.n15 x.c15, .slice AI is.length cI, .slice x.A17 x.n17 x.c17] 36)) := (Below.refl _ _).alloc (Nat.le_refl _) _
  exact ⟨hb, BoxAt.made w x AT cT AR cR AI cI ts.length rs.length is.length, g.below _ _ _ _ _ _ _ _ _ hb⟩
end Go.Proofs.Ytflkbheginhfiaa.XA
/- what a caller hands in, read. -/
namespace Go.Proofs.Ytflkbheginhfiaa.XA
set_option linter.unusedVariables false
open Go.RowKit Go.Proofs.YtflkbheginhfiaaW.PrintWords Go.Proofs.Ytflkbheginhfiaa
set_option maxRecDepth 100000
def ok26 (x : S26) : Prop := True ∧ (True ∧ (True ∧ (True ∧ (True ∧ (True ∧ (True ∧ (True ∧ (True))))))))
def sz26 (x : S26) : Prop := x.f0.size ≤ reachBytes ∧ (True ∧ (True ∧ (True ∧ (True ∧ (True ∧ (True ∧ (True ∧ (True))))))))
theorem opn26 : Open.Opn Try.prog 26 k26 ok26 sz26 (fun _ => 1) := by
  have h := (Open.Opn.struct Try.underlying26 (by kernel_rfl) (Open.Fld.cons (Open.Opn.string Try.underlying9 (by kernel_rfl)) rfl rfl (Open.Fld.cons (Open.Opn.bool Try.underlying4 (by kernel_rfl)) rfl rfl (Open.Fld.cons (Open.Opn.bool Try.underlying4 (by kernel_rfl)) rfl rfl (Open.Fld.cons (Open.Opn.bool Try.underlying4 (by kernel_rfl)) rfl rfl (Open.Fld.cons (Open.Opn.bool Try.underlying4 (by kernel_rfl)) rfl rfl (Open.Fld.cons (Open.Opn.bool Try.underlying4 (by kernel_rfl)) rfl rfl (Open.Fld.cons (Open.Opn.bool Try.underlying4 (by kernel_rfl)) rfl rfl (Open.Fld.cons (Open.Opn.bool Try.underlying4 (by kernel_rfl)) rfl rfl (Open.Fld.one (Open.Opn.bool Try.underlying4 (by kernel_rfl)) rfl))))))))))
  exact h.map (fun p => (⟨p.1, p.2.1, p.2.2.1, p.2.2.2.1, p.2.2.2.2.1, p.2.2.2.2.2.1, p.2.2.2.2.2.2.1, p.2.2.2.2.2.2.2.1, p.2.2.2.2.2.2.2.2⟩ : S26)) k26 rfl (fun _ _ _ h => h) ok26 sz26 (fun _ => 1) (fun _ h => h) (fun _ h => h) (fun a => h.pos a) (fun _ => Nat.le_refl _)
def ok64 (x : S64) : Prop := True ∧ ((Lit.int .i64 x.f1).wf = true ∧ (True ∧ ((Lit.int .i64 x.f3).wf = true ∧ ((∀ y_ ∈ x.f4, (Lit.int .i64 y_).wf = true) ∧ ((∀ y_ ∈ x.f5, (Lit.int .i64 y_).wf = true) ∧ ((∀ y_ ∈ x.f6, (Lit.int .i64 y_).wf = true) ∧ ((∀ y_ ∈ x.f7, (Lit.int .i64 y_).wf = true))))))))
def sz64 (x : S64) : Prop := x.f0.size ≤ reachBytes ∧ (True ∧ (True ∧ (True ∧ ((x.f4.length * Try.prog.bytesOf 3 ≤ reachBytes ∧ ∀ y_ ∈ x.f4, True) ∧ ((x.f5.length * Try.prog.bytesOf 3 ≤ reachBytes ∧ ∀ y_ ∈ x.f5, True) ∧ ((x.f6.length * Try.prog.bytesOf 3 ≤ reachBytes ∧ ∀ y_ ∈ x.f6, True) ∧ ((x.f7.length * Try.prog.bytesOf 3 ≤ reachBytes ∧ ∀ y_ ∈ x.f7, True))))))))
theorem opn64 : Open.Opn Try.prog 64 k64 ok64 sz64 (fun _ => 1) := by
  have h := (Open.Opn.struct Try.underlying64 (by kernel_rfl) (Open.Fld.cons (Open.Opn.string Try.underlying9 (by kernel_rfl)) rfl rfl (Open.Fld.cons (Open.Opn.int Try.underlying3 (by kernel_rfl)) rfl rfl (Open.Fld.cons (Open.Opn.bool Try.underlying4 (by kernel_rfl)) rfl rfl (Open.Fld.cons (Open.Opn.int Try.underlying3 (by kernel_rfl)) rfl rfl (Open.Fld.cons (Open.Opn.slice 3 (Open.Opn.int Try.underlying3 (by kernel_rfl)) Try.underlying39 (by kernel_rfl)) rfl rfl (Open.Fld.cons (Open.Opn.slice 3 (Open.Opn.int Try.underlying3 (by kernel_rfl)) Try.underlying39 (by kernel_rfl)) rfl rfl (Open.Fld.cons (Open.Opn.slice 3 (Open.Opn.int Try.underlying3 (by kernel_rfl)) Try.underlying39 (by kernel_rfl)) rfl rfl (Open.Fld.one (Open.Opn.slice 3 (Open.Opn.int Try.underlying3 (by kernel_rfl)) Try.underlying39 (by kernel_rfl)) rfl)))))))))
  exact h.map (fun p => (⟨p.1, p.2.1, p.2.2.1, p.2.2.2.1, p.2.2.2.2.1, p.2.2.2.2.2.1, p.2.2.2.2.2.2.1, p.2.2.2.2.2.2.2⟩ : S64)) k64 rfl (fun _ _ _ h => h) ok64 sz64 (fun _ => 1) (fun _ h => h) (fun _ h => h) (fun a => h.pos a) (fun _ => Nat.le_refl _)
def ok73 (x : S73) : Prop := True ∧ ((Lit.int .i64 x.f1).wf = true ∧ ((Lit.int .i64 x.f2).wf = true))
def sz73 (x : S73) : Prop := x.f0.size ≤ reachBytes ∧ (True ∧ (True))
theorem opn73 : Open.Opn Try.prog 73 k73 ok73 sz73 (fun _ => 1) := by
  have h := (Open.Opn.struct Try.underlying73 (by kernel_rfl) (Open.Fld.cons (Open.Opn.string Try.underlying9 (by kernel_rfl)) rfl rfl (Open.Fld.cons (Open.Opn.int Try.underlying71 (by kernel_rfl)) rfl rfl (Open.Fld.one (Open.Opn.int Try.underlying3 (by kernel_rfl)) rfl))))
  exact h.map (fun p => (⟨p.1, p.2.1, p.2.2⟩ : S73)) k73 rfl (fun _ _ _ h => h) ok73 sz73 (fun _ => 1) (fun _ h => h) (fun _ h => h) (fun a => h.pos a) (fun _ => Nat.le_refl _)
def ok103 (x : S103) : Prop := True ∧ ((Lit.int .u32 x.f1).wf = true ∧ (True))
def sz103 (x : S103) : Prop := x.f0.size ≤ reachBytes ∧ (True ∧ (True))
theorem opn103 : Open.Opn Try.prog 103 k103 ok103 sz103 (fun _ => 1) := by
  have h := (Open.Opn.struct Try.underlying103 (by kernel_rfl) (Open.Fld.cons (Open.Opn.string Try.underlying9 (by kernel_rfl)) rfl rfl (Open.Fld.cons (Open.Opn.int Try.underlying93 (by kernel_rfl)) rfl rfl (Open.Fld.one (Open.Opn.bool Try.underlying4 (by kernel_rfl)) rfl))))
  exact h.map (fun p => (⟨p.1, p.2.1, p.2.2⟩ : S103)) k103 rfl (fun _ _ _ h => h) ok103 sz103 (fun _ => 1) (fun _ h => h) (fun _ h => h) (fun a => h.pos a) (fun _ => Nat.le_refl _)
def ok105 (x : S105) : Prop := True ∧ ((Lit.int .u32 x.f1).wf = true ∧ ((Lit.int .u32 x.f2).wf = true ∧ ((Lit.int .u32 x.f3).wf = true)))
def sz105 (x : S105) : Prop := x.f0.size ≤ reachBytes ∧ (True ∧ (True ∧ (True)))
theorem opn105 : Open.Opn Try.prog 105 k105 ok105 sz105 (fun _ => 1) := by
  have h := (Open.Opn.struct Try.underlying105 (by kernel_rfl) (Open.Fld.cons (Open.Opn.string Try.underlying9 (by kernel_rfl)) rfl rfl (Open.Fld.cons (Open.Opn.int Try.underlying93 (by kernel_rfl)) rfl rfl (Open.Fld.cons (Open.Opn.int Try.underlying93 (by kernel_rfl)) rfl rfl (Open.Fld.one (Open.Opn.int Try.underlying93 (by kernel_rfl)) rfl)))))
  exact h.map (fun p => (⟨p.1, p.2.1, p.2.2.1, p.2.2.2⟩ : S105)) k105 rfl (fun _ _ _ h => h) ok105 sz105 (fun _ => 1) (fun _ h => h) (fun _ h => h) (fun a => h.pos a) (fun _ => Nat.le_refl _)
def ok108 (x : S108) : Prop := (Lit.int .i64 x.f0).wf = true ∧ ((Lit.int .i64 x.f1).wf = true ∧ ((Lit.int .i64 x.f2).wf = true ∧ (True)))
def sz108 (x : S108) : Prop := True ∧ (True ∧ (True ∧ (x.f3.size ≤ reachBytes)))
theorem opn108 : Open.Opn Try.prog 108 k108 ok108 sz108 (fun _ => 1) := by
  have h := (Open.Opn.struct Try.underlying108 (by kernel_rfl) (Open.Fld.cons (Open.Opn.int Try.underlying106 (by kernel_rfl)) rfl rfl (Open.Fld.cons (Open.Opn.int Try.underlying3 (by kernel_rfl)) rfl rfl (Open.Fld.cons (Open.Opn.int Try.underlying3 (by kernel_rfl)) rfl rfl (Open.Fld.one (Open.Opn.string Try.underlying9 (by kernel_rfl)) rfl)))))
  exact h.map (fun p => (⟨p.1, p.2.1, p.2.2.1, p.2.2.2⟩ : S108)) k108 rfl (fun _ _ _ h => h) ok108 sz108 (fun _ => 1) (fun _ h => h) (fun _ h => h) (fun a => h.pos a) (fun _ => Nat.le_refl _)
def ok110 (x : S110) : Prop := True ∧ ((Lit.int .i64 x.f1).wf = true ∧ (ok108 x.f2 ∧ ((∀ y_ ∈ x.f3, (Lit.int .i64 y_).wf = true) ∧ ((Lit.int .u32 x.f4).wf = true ∧ ((Lit.int .u32 x.f5).wf = true)))))
def sz110 (x : S110) : Prop := x.f0.size ≤ reachBytes ∧ (True ∧ (sz108 x.f2 ∧ ((x.f3.length * Try.prog.bytesOf 3 ≤ reachBytes ∧ ∀ y_ ∈ x.f3, True) ∧ (True ∧ (True)))))
theorem opn110 : Open.Opn Try.prog 110 k110 ok110 sz110 (fun _ => 1) := by
  have h := (Open.Opn.struct Try.underlying110 (by kernel_rfl) (Open.Fld.cons (Open.Opn.string Try.underlying9 (by kernel_rfl)) rfl rfl (Open.Fld.cons (Open.Opn.int Try.underlying3 (by kernel_rfl)) rfl rfl (Open.Fld.cons opn108 rfl rfl (Open.Fld.cons (Open.Opn.slice 3 (Open.Opn.int Try.underlying3 (by kernel_rfl)) Try.underlying39 (by kernel_rfl)) rfl rfl (Open.Fld.cons (Open.Opn.int Try.underlying93 (by kernel_rfl)) rfl rfl (Open.Fld.one (Open.Opn.int Try.underlying93 (by kernel_rfl)) rfl)))))))
  exact h.map (fun p => (⟨p.1, p.2.1, p.2.2.1, p.2.2.2.1, p.2.2.2.2.1, p.2.2.2.2.2⟩ : S110)) k110 rfl (fun _ _ _ h => h) ok110 sz110 (fun _ => 1) (fun _ h => h) (fun _ h => h) (fun a => h.pos a) (fun _ => Nat.le_refl _)
def ok66 (x : S66) : Prop := True ∧ ((Lit.int .i64 x.f1).wf = true ∧ ((Lit.int .i64 x.f2).wf = true ∧ ((∀ y_ ∈ x.f3, (Lit.int .i64 y_).wf = true) ∧ ((∀ y_ ∈ x.f4, (Lit.int .i64 y_).wf = true)))))
def sz66 (x : S66) : Prop := x.f0.size ≤ reachBytes ∧ (True ∧ (True ∧ ((x.f3.length * Try.prog.bytesOf 3 ≤ reachBytes ∧ ∀ y_ ∈ x.f3, True) ∧ ((x.f4.length * Try.prog.bytesOf 3 ≤ reachBytes ∧ ∀ y_ ∈ x.f4, True)))))
theorem opn66 : Open.Opn Try.prog 66 k66 ok66 sz66 (fun _ => 1) := by
  have h := (Open.Opn.struct Try.underlying66 (by kernel_rfl) (Open.Fld.cons (Open.Opn.string Try.underlying9 (by kernel_rfl)) rfl rfl (Open.Fld.cons (Open.Opn.int Try.underlying3 (by kernel_rfl)) rfl rfl (Open.Fld.cons (Open.Opn.int Try.underlying3 (by kernel_rfl)) rfl rfl (Open.Fld.cons (Open.Opn.slice 3 (Open.Opn.int Try.underlying3 (by kernel_rfl)) Try.underlying39 (by kernel_rfl)) rfl rfl (Open.Fld.one (Open.Opn.slice 3 (Open.Opn.int Try.underlying3 (by kernel_rfl)) Try.underlying39 (by kernel_rfl)) rfl))))))
  exact h.map (fun p => (⟨p.1, p.2.1, p.2.2.1, p.2.2.2.1, p.2.2.2.2⟩ : S66)) k66 rfl (fun _ _ _ h => h) ok66 sz66 (fun _ => 1) (fun _ h => h) (fun _ h => h) (fun a => h.pos a) (fun _ => Nat.le_refl _)
def ok114 (x : S114) : Prop := True ∧ ((Lit.int .i64 x.f1).wf = true ∧ ((Lit.int .i64 x.f2).wf = true ∧ ((Lit.int .i64 x.f3).wf = true ∧ ((Lit.int .u64 x.f4).wf = true ∧ ((Lit.int .i64 x.f5).wf = true ∧ (ok108 x.f6))))))
def sz114 (x : S114) : Prop := x.f0.size ≤ reachBytes ∧ (True ∧ (True ∧ (True ∧ (True ∧ (True ∧ (sz108 x.f6))))))
theorem opn114 : Open.Opn Try.prog 114 k114 ok114 sz114 (fun _ => 1) := by
  have h := (Open.Opn.struct Try.underlying114 (by kernel_rfl) (Open.Fld.cons (Open.Opn.string Try.underlying9 (by kernel_rfl)) rfl rfl (Open.Fld.cons (Open.Opn.int Try.underlying111 (by kernel_rfl)) rfl rfl (Open.Fld.cons (Open.Opn.int Try.underlying3 (by kernel_rfl)) rfl rfl (Open.Fld.cons (Open.Opn.int Try.underlying3 (by kernel_rfl)) rfl rfl (Open.Fld.cons (Open.Opn.int Try.underlying112 (by kernel_rfl)) rfl rfl (Open.Fld.cons (Open.Opn.int Try.underlying3 (by kernel_rfl)) rfl rfl (Open.Fld.one opn108 rfl))))))))
  exact h.map (fun p => (⟨p.1, p.2.1, p.2.2.1, p.2.2.2.1, p.2.2.2.2.1, p.2.2.2.2.2.1, p.2.2.2.2.2.2⟩ : S114)) k114 rfl (fun _ _ _ h => h) ok114 sz114 (fun _ => 1) (fun _ h => h) (fun _ h => h) (fun a => h.pos a) (fun _ => Nat.le_refl _)
def ok36 (x : S36) : Prop := True ∧ (ok26 x.f1 ∧ ((∀ y_ ∈ x.f2, True) ∧ ((∀ y_ ∈ x.f3, ok64 y_) ∧ ((∀ y_ ∈ x.f4, ok73 y_) ∧ ((∀ y_ ∈ x.f5, ok103 y_) ∧ ((∀ y_ ∈ x.f6, ok105 y_) ∧ ((∀ y_ ∈ x.f7, ok110 y_) ∧ ((∀ y_ ∈ x.f8, ok66 y_) ∧ ((∀ y_ ∈ x.f9, ok114 y_))))))))))
def sz36 (x : S36) : Prop := x.f0.size ≤ reachBytes ∧ (sz26 x.f1 ∧ ((x.f2.length * Try.prog.bytesOf 9 ≤ reachBytes ∧ ∀ y_ ∈ x.f2, y_.size ≤ reachBytes) ∧ ((x.f3.length * Try.prog.bytesOf 64 ≤ reachBytes ∧ ∀ y_ ∈ x.f3, sz64 y_) ∧ ((x.f4.length * Try.prog.bytesOf 73 ≤ reachBytes ∧ ∀ y_ ∈ x.f4, sz73 y_) ∧ ((x.f5.length * Try.prog.bytesOf 103 ≤ reachBytes ∧ ∀ y_ ∈ x.f5, sz103 y_) ∧ ((x.f6.length * Try.prog.bytesOf 105 ≤ reachBytes ∧ ∀ y_ ∈ x.f6, sz105 y_) ∧ ((x.f7.length * Try.prog.bytesOf 110 ≤ reachBytes ∧ ∀ y_ ∈ x.f7, sz110 y_) ∧ ((x.f8.length * Try.prog.bytesOf 66 ≤ reachBytes ∧ ∀ y_ ∈ x.f8, sz66 y_) ∧ ((x.f9.length * Try.prog.bytesOf 114 ≤ reachBytes ∧ ∀ y_ ∈ x.f9, sz114 y_))))))))))
theorem opn36 : Open.Opn Try.prog 36 k36 ok36 sz36 (fun _ => 1) := by
  have h := (Open.Opn.struct Try.underlying36 (by kernel_rfl) (Open.Fld.cons (Open.Opn.string Try.underlying9 (by kernel_rfl)) rfl rfl (Open.Fld.cons opn26 rfl rfl (Open.Fld.cons (Open.Opn.slice 9 (Open.Opn.string Try.underlying9 (by kernel_rfl)) Try.underlying27 (by kernel_rfl)) rfl rfl (Open.Fld.cons (Open.Opn.slice 64 opn64 Try.underlying28 (by kernel_rfl)) rfl rfl (Open.Fld.cons (Open.Opn.slice 73 opn73 Try.underlying29 (by kernel_rfl)) rfl rfl (Open.Fld.cons (Open.Opn.slice 103 opn103 Try.underlying30 (by kernel_rfl)) rfl rfl (Open.Fld.cons (Open.Opn.slice 105 opn105 Try.underlying31 (by kernel_rfl)) rfl rfl (Open.Fld.cons (Open.Opn.slice 110 opn110 Try.underlying32 (by kernel_rfl)) rfl rfl (Open.Fld.cons (Open.Opn.slice 66 opn66 Try.underlying33 (by kernel_rfl)) rfl rfl (Open.Fld.one (Open.Opn.slice 114 opn114 Try.underlying34 (by kernel_rfl)) rfl)))))))))))
  exact h.map (fun p => (⟨p.1, p.2.1, p.2.2.1, p.2.2.2.1, p.2.2.2.2.1, p.2.2.2.2.2.1, p.2.2.2.2.2.2.1, p.2.2.2.2.2.2.2.1, p.2.2.2.2.2.2.2.2.1, p.2.2.2.2.2.2.2.2.2⟩ : S36)) k36 rfl (fun _ _ _ h => h) ok36 sz36 (fun _ => 1) (fun _ h => h) (fun _ h => h) (fun a => h.pos a) (fun _ => Nat.le_refl _)
end Go.Proofs.Ytflkbheginhfiaa.XA
/- a configuration that is handed in, read. -/
namespace Go.Proofs.Ytflkbheginhfiaa.XA
set_option linter.unusedVariables false
set_option linter.unusedSimpArgs false
open Go.RowKit Go.WideMaps Go.Maps Go.Proofs.YtflkbheginhfiaaW.PrintWords Go.Proofs.YtflkbheginhfiaaW.PrintLast Go.Proofs.YtflkbheginhfiaaW.PrintMore
theorem good_of {w : World} {c : S36} {cs : Array Value} (hK : k36.K w c cs.toList) (hsz : sz36 c) : ∃ x AT cT AR cR AI cI, cs = CV.arr x AT cT AR cR AI cI c.f3.length c.f4.length c.f8.length ∧ Good AT cT AR cR AI cI c.f3 c.f4 c.f8 w ∧ x.b9 = c.f1.f8 := by
  obtain ⟨A10, c10, A11, c11, A12, c12, A13, c13, A14, c14, A15, c15, A16, c16, A17, c17, e, _, _, l11, g11, l12, g12, _, _, _, _, _, _, l16, g16, _, _⟩ := k36_open hK
  obtain ⟨_, _, _, h3, h4, _, _, _, h8, _⟩ := hsz
  have e64 : Try.prog.bytesOf 64 = 136 := by kernel_rfl
  have e73 : Try.prog.bytesOf 73 = 32 := by kernel_rfl
  have e66 : Try.prog.bytesOf 66 = 80 := by kernel_rfl
  have h3 := h3.1
  have h4 := h4.1
  have h8 := h8.1
  rw [e64] at h3
  rw [e73] at h4
  rw [e66] at h8
  have er : reachBytes = 140737488351232 := by decide
  rw [er] at h3 h4 h8
  refine ⟨⟨c.f0, c.f1.f0, c.f1.f1, c.f1.f2, c.f1.f3, c.f1.f4, c.f1.f5, c.f1.f6, c.f1.f7, c.f1.f8, A10, c.f2.length, c10, A13, c.f5.length, c13, A14, c.f6.length, c14, A15, c.f7.length, c15, A17, c.f9.length, c17⟩, A11, c11, A12, c12, A16, c16, ?_, ⟨⟨l11, g11, l12, g12, l16, g16⟩, by omega, by omega, by omega⟩, rfl⟩
  unfold CV.arr
  rw [← Array.toList_inj, e]
end Go.Proofs.Ytflkbheginhfiaa.XA
