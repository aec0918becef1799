/- what a caller hands in, read. -/
import Derived.Test.YtbgcemijihpakaaG04
namespace Go.Proofs.Ytbgcemijihpakaa.XA
set_option linter.unusedVariables false
open Go.RowKit Go.Proofs.YtbgcemijihpakaaW.PrintWords Go.Proofs.Ytbgcemijihpakaa
set_option maxRecDepth 100000
def ok69 (x : S69) : Prop := (Lit.int .i64 x.f0).wf = true ∧ ((Lit.int .i64 x.f1).wf = true ∧ (True ∧ ((Lit.int .i64 x.f3).wf = true ∧ ((Lit.int .u32 x.f4).wf = true ∧ ((Lit.int .i64 x.f5).wf = true ∧ ((∀ y_ ∈ x.f6, (Lit.int .i64 y_).wf = true) ∧ ((Lit.int .u32 x.f7).wf = true)))))))
def sz69 (x : S69) : Prop := True ∧ (True ∧ (True ∧ (True ∧ (True ∧ (True ∧ ((x.f6.length * Try.prog.bytesOf 3 ≤ reachBytes ∧ ∀ y_ ∈ x.f6, True) ∧ (True)))))))
theorem opn69 : Open.Opn Try.prog 69 k69 ok69 sz69 (fun _ => 1) := by
 have h := (Open.Opn.struct Try.underlying69 (by kernel_rfl) (Open.Fld.cons (Open.Opn.int Try.underlying3 (by kernel_rfl)) rfl rfl (Open.Fld.cons (Open.Opn.int Try.underlying3 (by kernel_rfl)) rfl rfl (Open.Fld.cons (Open.Opn.bool Try.underlying4 (by kernel_rfl)) rfl rfl (Open.Fld.cons (Open.Opn.int Try.underlying3 (by kernel_rfl)) rfl rfl (Open.Fld.cons (Open.Opn.int Try.underlying67 (by kernel_rfl)) rfl rfl (Open.Fld.cons (Open.Opn.int Try.underlying3 (by kernel_rfl)) rfl rfl (Open.Fld.cons (Open.Opn.slice 3 (Open.Opn.int Try.underlying3 (by kernel_rfl)) Try.underlying48 (by kernel_rfl)) rfl rfl (Open.Fld.one (Open.Opn.int Try.underlying67 (by kernel_rfl)) rfl)))))))))
 exact h.map (fun p => (⟨p.1, p.2.1, p.2.2.1, p.2.2.2.1, p.2.2.2.2.1, p.2.2.2.2.2.1, p.2.2.2.2.2.2.1, p.2.2.2.2.2.2.2⟩ : S69)) k69 rfl (fun _ _ _ h => h) ok69 sz69 (fun _ => 1) (fun _ h => h) (fun _ h => h) (fun a => h.pos a) (fun _ => Nat.le_refl _)
def ok88 (x : S88) : Prop := (Lit.int .i64 x.f0).wf = true ∧ ((Lit.int .i64 x.f1).wf = true)
def sz88 (x : S88) : Prop := True ∧ (True)
theorem opn88 : Open.Opn Try.prog 88 k88 ok88 sz88 (fun _ => 1) := by
 have h := (Open.Opn.struct Try.underlying88 (by kernel_rfl) (Open.Fld.cons (Open.Opn.int Try.underlying3 (by kernel_rfl)) rfl rfl (Open.Fld.one (Open.Opn.int Try.underlying3 (by kernel_rfl)) rfl)))
 exact h.map (fun p => (⟨p.1, p.2⟩ : S88)) k88 rfl (fun _ _ _ h => h) ok88 sz88 (fun _ => 1) (fun _ h => h) (fun _ h => h) (fun a => h.pos a) (fun _ => Nat.le_refl _)
def ok66 (x : S66) : Prop := True ∧ ((Lit.int .i64 x.f1).wf = true)
def sz66 (x : S66) : Prop := True ∧ (True)
theorem opn66 : Open.Opn Try.prog 66 k66 ok66 sz66 (fun _ => 1) := by
 have h := (Open.Opn.struct Try.underlying66 (by kernel_rfl) (Open.Fld.cons (Open.Opn.bool Try.underlying4 (by kernel_rfl)) rfl rfl (Open.Fld.one (Open.Opn.int Try.underlying3 (by kernel_rfl)) rfl)))
 exact h.map (fun p => (⟨p.1, p.2⟩ : S66)) k66 rfl (fun _ _ _ h => h) ok66 sz66 (fun _ => 1) (fun _ h => h) (fun _ h => h) (fun a => h.pos a) (fun _ => Nat.le_refl _)
def ok95 (x : S95) : Prop := (Lit.int .u32 x.f0).wf = true ∧ ((Lit.int .u32 x.f1).wf = true ∧ ((Lit.int .u32 x.f2).wf = true))
def sz95 (x : S95) : Prop := True ∧ (True ∧ (True))
theorem opn95 : Open.Opn Try.prog 95 k95 ok95 sz95 (fun _ => 1) := by
 have h := (Open.Opn.struct Try.underlying95 (by kernel_rfl) (Open.Fld.cons (Open.Opn.int Try.underlying67 (by kernel_rfl)) rfl rfl (Open.Fld.cons (Open.Opn.int Try.underlying67 (by kernel_rfl)) rfl rfl (Open.Fld.one (Open.Opn.int Try.underlying67 (by kernel_rfl)) rfl))))
 exact h.map (fun p => (⟨p.1, p.2.1, p.2.2⟩ : S95)) k95 rfl (fun _ _ _ h => h) ok95 sz95 (fun _ => 1) (fun _ h => h) (fun _ h => h) (fun a => h.pos a) (fun _ => Nat.le_refl _)
def ok100 (x : S100) : Prop := (Lit.int .i64 x.f0).wf = true ∧ ((Lit.int .i64 x.f1).wf = true ∧ ((Lit.int .u32 x.f2).wf = true))
def sz100 (x : S100) : Prop := True ∧ (True ∧ (True))
theorem opn100 : Open.Opn Try.prog 100 k100 ok100 sz100 (fun _ => 1) := by
 have h := (Open.Opn.struct Try.underlying100 (by kernel_rfl) (Open.Fld.cons (Open.Opn.int Try.underlying98 (by kernel_rfl)) rfl rfl (Open.Fld.cons (Open.Opn.int Try.underlying3 (by kernel_rfl)) rfl rfl (Open.Fld.one (Open.Opn.int Try.underlying67 (by kernel_rfl)) rfl))))
 exact h.map (fun p => (⟨p.1, p.2.1, p.2.2⟩ : S100)) k100 rfl (fun _ _ _ h => h) ok100 sz100 (fun _ => 1) (fun _ h => h) (fun _ h => h) (fun a => h.pos a) (fun _ => Nat.le_refl _)
def ok102 (x : S102) : Prop := (Lit.int .i64 x.f0).wf = true ∧ (ok100 x.f1 ∧ ((Lit.int .u32 x.f2).wf = true ∧ ((Lit.int .u32 x.f3).wf = true ∧ ((Lit.int .u32 x.f4).wf = true))))
def sz102 (x : S102) : Prop := True ∧ (sz100 x.f1 ∧ (True ∧ (True ∧ (True))))
theorem opn102 : Open.Opn Try.prog 102 k102 ok102 sz102 (fun _ => 1) := by
 have h := (Open.Opn.struct Try.underlying102 (by kernel_rfl) (Open.Fld.cons (Open.Opn.int Try.underlying3 (by kernel_rfl)) rfl rfl (Open.Fld.cons opn100 rfl rfl (Open.Fld.cons (Open.Opn.int Try.underlying67 (by kernel_rfl)) rfl rfl (Open.Fld.cons (Open.Opn.int Try.underlying67 (by kernel_rfl)) rfl rfl (Open.Fld.one (Open.Opn.int Try.underlying67 (by kernel_rfl)) rfl))))))
 exact h.map (fun p => (⟨p.1, p.2.1, p.2.2.1, p.2.2.2.1, p.2.2.2.2⟩ : S102)) k102 rfl (fun _ _ _ h => h) ok102 sz102 (fun _ => 1) (fun _ h => h) (fun _ h => h) (fun a => h.pos a) (fun _ => Nat.le_refl _)
def ok107 (x : S107) : Prop := (Lit.int .i64 x.f0).wf = true ∧ ((Lit.int .i64 x.f1).wf = true ∧ ((∀ y_ ∈ x.f2, (Lit.int .i64 y_).wf = true)))
def sz107 (x : S107) : Prop := True ∧ (True ∧ ((x.f2.length * Try.prog.bytesOf 3 ≤ reachBytes ∧ ∀ y_ ∈ x.f2, True)))
theorem opn107 : Open.Opn Try.prog 107 k107 ok107 sz107 (fun _ => 1) := by
 have h := (Open.Opn.struct Try.underlying107 (by kernel_rfl) (Open.Fld.cons (Open.Opn.int Try.underlying3 (by kernel_rfl)) rfl rfl (Open.Fld.cons (Open.Opn.int Try.underlying3 (by kernel_rfl)) rfl rfl (Open.Fld.one (Open.Opn.slice 3 (Open.Opn.int Try.underlying3 (by kernel_rfl)) Try.underlying48 (by kernel_rfl)) rfl))))
 exact h.map (fun p => (⟨p.1, p.2.1, p.2.2⟩ : S107)) k107 rfl (fun _ _ _ h => h) ok107 sz107 (fun _ => 1) (fun _ h => h) (fun _ h => h) (fun a => h.pos a) (fun _ => Nat.le_refl _)
def ok113 (x : S113) : Prop := (Lit.int .i64 x.f0).wf = true ∧ ((Lit.int .i64 x.f1).wf = true ∧ ((Lit.int .i64 x.f2).wf = true ∧ ((Lit.int .u64 x.f3).wf = true ∧ ((Lit.int .i64 x.f4).wf = true ∧ (ok100 x.f5)))))
def sz113 (x : S113) : Prop := True ∧ (True ∧ (True ∧ (True ∧ (True ∧ (sz100 x.f5)))))
theorem opn113 : Open.Opn Try.prog 113 k113 ok113 sz113 (fun _ => 1) := by
 have h := (Open.Opn.struct Try.underlying113 (by kernel_rfl) (Open.Fld.cons (Open.Opn.int Try.underlying111 (by kernel_rfl)) rfl rfl (Open.Fld.cons (Open.Opn.int Try.underlying3 (by kernel_rfl)) rfl rfl (Open.Fld.cons (Open.Opn.int Try.underlying3 (by kernel_rfl)) rfl rfl (Open.Fld.cons (Open.Opn.int Try.underlying62 (by kernel_rfl)) rfl rfl (Open.Fld.cons (Open.Opn.int Try.underlying3 (by kernel_rfl)) rfl rfl (Open.Fld.one opn100 rfl)))))))
 exact h.map (fun p => (⟨p.1, p.2.1, p.2.2.1, p.2.2.2.1, p.2.2.2.2.1, p.2.2.2.2.2⟩ : S113)) k113 rfl (fun _ _ _ h => h) ok113 sz113 (fun _ => 1) (fun _ h => h) (fun _ h => h) (fun a => h.pos a) (fun _ => Nat.le_refl _)
structure S33 where
 f0 : Int
 f1 : Int
 f2 : (List S69)
 f3 : (List S88)
 f4 : (List S66)
 f5 : (List S95)
 f6 : (List S102)
 f7 : (List S107)
 f8 : (List S113)
 f9 : Int
 f10 : Int
 f11 : Int
 f12 : Int
def k33 : Kd S33 := Kd.iso (Kd.pair (Kd.int .i64) (Kd.pair (Kd.int .i64) (Kd.pair (Kd.slice 69 k69) (Kd.pair (Kd.slice 88 k88) (Kd.pair (Kd.slice 66 k66) (Kd.pair (Kd.slice 95 k95) (Kd.pair (Kd.slice 102 k102) (Kd.pair (Kd.slice 107 k107) (Kd.pair (Kd.slice 113 k113) (Kd.pair (Kd.int .i64) (Kd.pair (Kd.int .i64) (Kd.pair (Kd.int .i64) (Kd.int .i64))))))))))))) (fun x : S33 => (x.f0, x.f1, x.f2, x.f3, x.f4, x.f5, x.f6, x.f7, x.f8, x.f9, x.f10, x.f11, x.f12))
def ok33 (x : S33) : Prop := (Lit.int .i64 x.f0).wf = true ∧ ((Lit.int .i64 x.f1).wf = true ∧ ((∀ y_ ∈ x.f2, ok69 y_) ∧ ((∀ y_ ∈ x.f3, ok88 y_) ∧ ((∀ y_ ∈ x.f4, ok66 y_) ∧ ((∀ y_ ∈ x.f5, ok95 y_) ∧ ((∀ y_ ∈ x.f6, ok102 y_) ∧ ((∀ y_ ∈ x.f7, ok107 y_) ∧ ((∀ y_ ∈ x.f8, ok113 y_) ∧ ((Lit.int .i64 x.f9).wf = true ∧ ((Lit.int .i64 x.f10).wf = true ∧ ((Lit.int .i64 x.f11).wf = true ∧ ((Lit.int .i64 x.f12).wf = true))))))))))))
def sz33 (x : S33) : Prop := True ∧ (True ∧ ((x.f2.length * Try.prog.bytesOf 69 ≤ reachBytes ∧ ∀ y_ ∈ x.f2, sz69 y_) ∧ ((x.f3.length * Try.prog.bytesOf 88 ≤ reachBytes ∧ ∀ y_ ∈ x.f3, sz88 y_) ∧ ((x.f4.length * Try.prog.bytesOf 66 ≤ reachBytes ∧ ∀ y_ ∈ x.f4, sz66 y_) ∧ ((x.f5.length * Try.prog.bytesOf 95 ≤ reachBytes ∧ ∀ y_ ∈ x.f5, sz95 y_) ∧ ((x.f6.length * Try.prog.bytesOf 102 ≤ reachBytes ∧ ∀ y_ ∈ x.f6, sz102 y_) ∧ ((x.f7.length * Try.prog.bytesOf 107 ≤ reachBytes ∧ ∀ y_ ∈ x.f7, sz107 y_) ∧ ((x.f8.length * Try.prog.bytesOf 113 ≤ reachBytes ∧ ∀ y_ ∈ x.f8, sz113 y_) ∧ (True ∧ (True ∧ (True ∧ (True))))))))))))
theorem opn33 : Open.Opn Try.prog 33 k33 ok33 sz33 (fun _ => 1) := by
 have h := (Open.Opn.struct Try.underlying33 (by kernel_rfl) (Open.Fld.cons (Open.Opn.int Try.underlying3 (by kernel_rfl)) rfl rfl (Open.Fld.cons (Open.Opn.int Try.underlying3 (by kernel_rfl)) rfl rfl (Open.Fld.cons (Open.Opn.slice 69 opn69 Try.underlying25 (by kernel_rfl)) rfl rfl (Open.Fld.cons (Open.Opn.slice 88 opn88 Try.underlying26 (by kernel_rfl)) rfl rfl (Open.Fld.cons (Open.Opn.slice 66 opn66 Try.underlying27 (by kernel_rfl)) rfl rfl (Open.Fld.cons (Open.Opn.slice 95 opn95 Try.underlying28 (by kernel_rfl)) rfl rfl (Open.Fld.cons (Open.Opn.slice 102 opn102 Try.underlying29 (by kernel_rfl)) rfl rfl (Open.Fld.cons (Open.Opn.slice 107 opn107 Try.underlying30 (by kernel_rfl)) rfl rfl (Open.Fld.cons (Open.Opn.slice 113 opn113 Try.underlying31 (by kernel_rfl)) rfl rfl (Open.Fld.cons (Open.Opn.int Try.underlying3 (by kernel_rfl)) rfl rfl (Open.Fld.cons (Open.Opn.int Try.underlying3 (by kernel_rfl)) rfl rfl (Open.Fld.cons (Open.Opn.int Try.underlying3 (by kernel_rfl)) rfl rfl (Open.Fld.one (Open.Opn.int Try.underlying3 (by kernel_rfl)) rfl))))))))))))))
 exact h.map (fun p => (⟨p.1, p.2.1, p.2.2.1, p.2.2.2.1, p.2.2.2.2.1, p.2.2.2.2.2.1, p.2.2.2.2.2.2.1, p.2.2.2.2.2.2.2.1, p.2.2.2.2.2.2.2.2.1, p.2.2.2.2.2.2.2.2.2.1, p.2.2.2.2.2.2.2.2.2.2.1, p.2.2.2.2.2.2.2.2.2.2.2.1, p.2.2.2.2.2.2.2.2.2.2.2.2⟩ : S33)) k33 rfl (fun _ _ _ h => h) ok33 sz33 (fun _ => 1) (fun _ h => h) (fun _ h => h) (fun a => h.pos a) (fun _ => Nat.le_refl _)
end Go.Proofs.Ytbgcemijihpakaa.XA
