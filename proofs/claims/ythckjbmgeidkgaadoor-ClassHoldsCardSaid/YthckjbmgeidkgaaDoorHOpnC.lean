/- what a caller hands in, read. -/
import Derived.Test.YthckjbmgeidkgaaDoorXAx0
import Derived.Test.YthckjbmgeidkgaaDoorHOpen
namespace Go.Proofs.YthckjbmgeidkgaaDoor.XA
set_option linter.unusedVariables false
open Go.RowKit Go.Proofs.YthckjbmgeidkgaaDoorW.PrintWords Go.Proofs.YthckjbmgeidkgaaDoor
set_option maxRecDepth 100000
structure S23 where
  f0 : ByteArray
  f1 : Bool
  f2 : Bool
  f3 : Bool
  f4 : Bool
  f5 : Bool
  f6 : Bool
  f7 : Bool
  f8 : Bool
def k23 : Kd S23 := Kd.iso (Kd.pair Kd.string (Kd.pair Kd.bool (Kd.pair Kd.bool (Kd.pair Kd.bool (Kd.pair Kd.bool (Kd.pair Kd.bool (Kd.pair Kd.bool (Kd.pair Kd.bool Kd.bool)))))))) (fun x : S23 => (x.f0, x.f1, x.f2, x.f3, x.f4, x.f5, x.f6, x.f7, x.f8))
def ok23 (x : S23) : Prop := True ∧ (True ∧ (True ∧ (True ∧ (True ∧ (True ∧ (True ∧ (True ∧ (True))))))))
def sz23 (x : S23) : Prop := x.f0.size ≤ reachBytes ∧ (True ∧ (True ∧ (True ∧ (True ∧ (True ∧ (True ∧ (True ∧ (True))))))))
theorem opn23 : Open.Opn Tryd.prog 23 k23 ok23 sz23 (fun _ => 1) := by
  have h := (Open.Opn.struct Tryd.underlying23 (by kernel_rfl) (Open.Fld.cons (Open.Opn.string Tryd.underlying9 (by kernel_rfl)) rfl rfl (Open.Fld.cons (Open.Opn.bool Tryd.underlying4 (by kernel_rfl)) rfl rfl (Open.Fld.cons (Open.Opn.bool Tryd.underlying4 (by kernel_rfl)) rfl rfl (Open.Fld.cons (Open.Opn.bool Tryd.underlying4 (by kernel_rfl)) rfl rfl (Open.Fld.cons (Open.Opn.bool Tryd.underlying4 (by kernel_rfl)) rfl rfl (Open.Fld.cons (Open.Opn.bool Tryd.underlying4 (by kernel_rfl)) rfl rfl (Open.Fld.cons (Open.Opn.bool Tryd.underlying4 (by kernel_rfl)) rfl rfl (Open.Fld.cons (Open.Opn.bool Tryd.underlying4 (by kernel_rfl)) rfl rfl (Open.Fld.one (Open.Opn.bool Tryd.underlying4 (by kernel_rfl)) rfl))))))))))
  exact h.map (fun p => (⟨p.1, p.2.1, p.2.2.1, p.2.2.2.1, p.2.2.2.2.1, p.2.2.2.2.2.1, p.2.2.2.2.2.2.1, p.2.2.2.2.2.2.2.1, p.2.2.2.2.2.2.2.2⟩ : S23)) k23 rfl (fun _ _ _ h => h) ok23 sz23 (fun _ => 1) (fun _ h => h) (fun _ h => h) (fun a => h.pos a) (fun _ => Nat.le_refl _)
def ok49 (x : S49) : Prop := True ∧ ((Lit.int .i64 x.f1).wf = true ∧ (True ∧ ((Lit.int .i64 x.f3).wf = true ∧ ((∀ y_ ∈ x.f4, (Lit.int .i64 y_).wf = true) ∧ ((∀ y_ ∈ x.f5, (Lit.int .i64 y_).wf = true) ∧ ((∀ y_ ∈ x.f6, (Lit.int .i64 y_).wf = true) ∧ ((∀ y_ ∈ x.f7, (Lit.int .i64 y_).wf = true))))))))
def sz49 (x : S49) : Prop := x.f0.size ≤ reachBytes ∧ (True ∧ (True ∧ (True ∧ ((x.f4.length * Tryd.prog.bytesOf 3 ≤ reachBytes ∧ ∀ y_ ∈ x.f4, True) ∧ ((x.f5.length * Tryd.prog.bytesOf 3 ≤ reachBytes ∧ ∀ y_ ∈ x.f5, True) ∧ ((x.f6.length * Tryd.prog.bytesOf 3 ≤ reachBytes ∧ ∀ y_ ∈ x.f6, True) ∧ ((x.f7.length * Tryd.prog.bytesOf 3 ≤ reachBytes ∧ ∀ y_ ∈ x.f7, True))))))))
theorem opn49 : Open.Opn Tryd.prog 49 k49 ok49 sz49 (fun _ => 1) := by
  have h := (Open.Opn.struct Tryd.underlying49 (by kernel_rfl) (Open.Fld.cons (Open.Opn.string Tryd.underlying9 (by kernel_rfl)) rfl rfl (Open.Fld.cons (Open.Opn.int Tryd.underlying3 (by kernel_rfl)) rfl rfl (Open.Fld.cons (Open.Opn.bool Tryd.underlying4 (by kernel_rfl)) rfl rfl (Open.Fld.cons (Open.Opn.int Tryd.underlying3 (by kernel_rfl)) rfl rfl (Open.Fld.cons (Open.Opn.slice 3 (Open.Opn.int Tryd.underlying3 (by kernel_rfl)) Tryd.underlying47 (by kernel_rfl)) rfl rfl (Open.Fld.cons (Open.Opn.slice 3 (Open.Opn.int Tryd.underlying3 (by kernel_rfl)) Tryd.underlying47 (by kernel_rfl)) rfl rfl (Open.Fld.cons (Open.Opn.slice 3 (Open.Opn.int Tryd.underlying3 (by kernel_rfl)) Tryd.underlying47 (by kernel_rfl)) rfl rfl (Open.Fld.one (Open.Opn.slice 3 (Open.Opn.int Tryd.underlying3 (by kernel_rfl)) Tryd.underlying47 (by kernel_rfl)) rfl)))))))))
  exact h.map (fun p => (⟨p.1, p.2.1, p.2.2.1, p.2.2.2.1, p.2.2.2.2.1, p.2.2.2.2.2.1, p.2.2.2.2.2.2.1, p.2.2.2.2.2.2.2⟩ : S49)) k49 rfl (fun _ _ _ h => h) ok49 sz49 (fun _ => 1) (fun _ h => h) (fun _ h => h) (fun a => h.pos a) (fun _ => Nat.le_refl _)
def ok65 (x : S65) : Prop := True ∧ ((Lit.int .i64 x.f1).wf = true ∧ ((Lit.int .i64 x.f2).wf = true))
def sz65 (x : S65) : Prop := x.f0.size ≤ reachBytes ∧ (True ∧ (True))
theorem opn65 : Open.Opn Tryd.prog 65 k65 ok65 sz65 (fun _ => 1) := by
  have h := (Open.Opn.struct Tryd.underlying65 (by kernel_rfl) (Open.Fld.cons (Open.Opn.string Tryd.underlying9 (by kernel_rfl)) rfl rfl (Open.Fld.cons (Open.Opn.int Tryd.underlying63 (by kernel_rfl)) rfl rfl (Open.Fld.one (Open.Opn.int Tryd.underlying3 (by kernel_rfl)) rfl))))
  exact h.map (fun p => (⟨p.1, p.2.1, p.2.2⟩ : S65)) k65 rfl (fun _ _ _ h => h) ok65 sz65 (fun _ => 1) (fun _ h => h) (fun _ h => h) (fun a => h.pos a) (fun _ => Nat.le_refl _)
def ok53 (x : S53) : Prop := True ∧ ((Lit.int .u32 x.f1).wf = true ∧ (True))
def sz53 (x : S53) : Prop := x.f0.size ≤ reachBytes ∧ (True ∧ (True))
theorem opn53 : Open.Opn Tryd.prog 53 k53 ok53 sz53 (fun _ => 1) := by
  have h := (Open.Opn.struct Tryd.underlying53 (by kernel_rfl) (Open.Fld.cons (Open.Opn.string Tryd.underlying9 (by kernel_rfl)) rfl rfl (Open.Fld.cons (Open.Opn.int Tryd.underlying51 (by kernel_rfl)) rfl rfl (Open.Fld.one (Open.Opn.bool Tryd.underlying4 (by kernel_rfl)) rfl))))
  exact h.map (fun p => (⟨p.1, p.2.1, p.2.2⟩ : S53)) k53 rfl (fun _ _ _ h => h) ok53 sz53 (fun _ => 1) (fun _ h => h) (fun _ h => h) (fun a => h.pos a) (fun _ => Nat.le_refl _)
def ok62 (x : S62) : Prop := True ∧ ((Lit.int .u32 x.f1).wf = true ∧ ((Lit.int .u32 x.f2).wf = true ∧ ((Lit.int .u32 x.f3).wf = true)))
def sz62 (x : S62) : Prop := x.f0.size ≤ reachBytes ∧ (True ∧ (True ∧ (True)))
theorem opn62 : Open.Opn Tryd.prog 62 k62 ok62 sz62 (fun _ => 1) := by
  have h := (Open.Opn.struct Tryd.underlying62 (by kernel_rfl) (Open.Fld.cons (Open.Opn.string Tryd.underlying9 (by kernel_rfl)) rfl rfl (Open.Fld.cons (Open.Opn.int Tryd.underlying51 (by kernel_rfl)) rfl rfl (Open.Fld.cons (Open.Opn.int Tryd.underlying51 (by kernel_rfl)) rfl rfl (Open.Fld.one (Open.Opn.int Tryd.underlying51 (by kernel_rfl)) rfl)))))
  exact h.map (fun p => (⟨p.1, p.2.1, p.2.2.1, p.2.2.2⟩ : S62)) k62 rfl (fun _ _ _ h => h) ok62 sz62 (fun _ => 1) (fun _ h => h) (fun _ h => h) (fun a => h.pos a) (fun _ => Nat.le_refl _)
def ok58 (x : S58) : Prop := (Lit.int .i64 x.f0).wf = true ∧ ((Lit.int .i64 x.f1).wf = true ∧ ((Lit.int .i64 x.f2).wf = true ∧ (True)))
def sz58 (x : S58) : Prop := True ∧ (True ∧ (True ∧ (x.f3.size ≤ reachBytes)))
theorem opn58 : Open.Opn Tryd.prog 58 k58 ok58 sz58 (fun _ => 1) := by
  have h := (Open.Opn.struct Tryd.underlying58 (by kernel_rfl) (Open.Fld.cons (Open.Opn.int Tryd.underlying56 (by kernel_rfl)) rfl rfl (Open.Fld.cons (Open.Opn.int Tryd.underlying3 (by kernel_rfl)) rfl rfl (Open.Fld.cons (Open.Opn.int Tryd.underlying3 (by kernel_rfl)) rfl rfl (Open.Fld.one (Open.Opn.string Tryd.underlying9 (by kernel_rfl)) rfl)))))
  exact h.map (fun p => (⟨p.1, p.2.1, p.2.2.1, p.2.2.2⟩ : S58)) k58 rfl (fun _ _ _ h => h) ok58 sz58 (fun _ => 1) (fun _ h => h) (fun _ h => h) (fun a => h.pos a) (fun _ => Nat.le_refl _)
def ok60 (x : S60) : Prop := True ∧ ((Lit.int .i64 x.f1).wf = true ∧ (ok58 x.f2 ∧ ((∀ y_ ∈ x.f3, (Lit.int .i64 y_).wf = true) ∧ ((Lit.int .u32 x.f4).wf = true ∧ ((Lit.int .u32 x.f5).wf = true)))))
def sz60 (x : S60) : Prop := x.f0.size ≤ reachBytes ∧ (True ∧ (sz58 x.f2 ∧ ((x.f3.length * Tryd.prog.bytesOf 3 ≤ reachBytes ∧ ∀ y_ ∈ x.f3, True) ∧ (True ∧ (True)))))
theorem opn60 : Open.Opn Tryd.prog 60 k60 ok60 sz60 (fun _ => 1) := by
  have h := (Open.Opn.struct Tryd.underlying60 (by kernel_rfl) (Open.Fld.cons (Open.Opn.string Tryd.underlying9 (by kernel_rfl)) rfl rfl (Open.Fld.cons (Open.Opn.int Tryd.underlying3 (by kernel_rfl)) rfl rfl (Open.Fld.cons opn58 rfl rfl (Open.Fld.cons (Open.Opn.slice 3 (Open.Opn.int Tryd.underlying3 (by kernel_rfl)) Tryd.underlying47 (by kernel_rfl)) rfl rfl (Open.Fld.cons (Open.Opn.int Tryd.underlying51 (by kernel_rfl)) rfl rfl (Open.Fld.one (Open.Opn.int Tryd.underlying51 (by kernel_rfl)) rfl)))))))
  exact h.map (fun p => (⟨p.1, p.2.1, p.2.2.1, p.2.2.2.1, p.2.2.2.2.1, p.2.2.2.2.2⟩ : S60)) k60 rfl (fun _ _ _ h => h) ok60 sz60 (fun _ => 1) (fun _ h => h) (fun _ h => h) (fun a => h.pos a) (fun _ => Nat.le_refl _)
def ok55 (x : S55) : Prop := True ∧ ((Lit.int .i64 x.f1).wf = true ∧ ((Lit.int .i64 x.f2).wf = true ∧ ((∀ y_ ∈ x.f3, (Lit.int .i64 y_).wf = true) ∧ ((∀ y_ ∈ x.f4, (Lit.int .i64 y_).wf = true)))))
def sz55 (x : S55) : Prop := x.f0.size ≤ reachBytes ∧ (True ∧ (True ∧ ((x.f3.length * Tryd.prog.bytesOf 3 ≤ reachBytes ∧ ∀ y_ ∈ x.f3, True) ∧ ((x.f4.length * Tryd.prog.bytesOf 3 ≤ reachBytes ∧ ∀ y_ ∈ x.f4, True)))))
theorem opn55 : Open.Opn Tryd.prog 55 k55 ok55 sz55 (fun _ => 1) := by
  have h := (Open.Opn.struct Tryd.underlying55 (by kernel_rfl) (Open.Fld.cons (Open.Opn.string Tryd.underlying9 (by kernel_rfl)) rfl rfl (Open.Fld.cons (Open.Opn.int Tryd.underlying3 (by kernel_rfl)) rfl rfl (Open.Fld.cons (Open.Opn.int Tryd.underlying3 (by kernel_rfl)) rfl rfl (Open.Fld.cons (Open.Opn.slice 3 (Open.Opn.int Tryd.underlying3 (by kernel_rfl)) Tryd.underlying47 (by kernel_rfl)) rfl rfl (Open.Fld.one (Open.Opn.slice 3 (Open.Opn.int Tryd.underlying3 (by kernel_rfl)) Tryd.underlying47 (by kernel_rfl)) rfl))))))
  exact h.map (fun p => (⟨p.1, p.2.1, p.2.2.1, p.2.2.2.1, p.2.2.2.2⟩ : S55)) k55 rfl (fun _ _ _ h => h) ok55 sz55 (fun _ => 1) (fun _ h => h) (fun _ h => h) (fun a => h.pos a) (fun _ => Nat.le_refl _)
def ok91 (x : S91) : Prop := True ∧ ((Lit.int .i64 x.f1).wf = true ∧ ((Lit.int .i64 x.f2).wf = true ∧ ((Lit.int .i64 x.f3).wf = true ∧ ((Lit.int .u64 x.f4).wf = true ∧ ((Lit.int .i64 x.f5).wf = true ∧ (ok58 x.f6))))))
def sz91 (x : S91) : Prop := x.f0.size ≤ reachBytes ∧ (True ∧ (True ∧ (True ∧ (True ∧ (True ∧ (sz58 x.f6))))))
theorem opn91 : Open.Opn Tryd.prog 91 k91 ok91 sz91 (fun _ => 1) := by
  have h := (Open.Opn.struct Tryd.underlying91 (by kernel_rfl) (Open.Fld.cons (Open.Opn.string Tryd.underlying9 (by kernel_rfl)) rfl rfl (Open.Fld.cons (Open.Opn.int Tryd.underlying89 (by kernel_rfl)) rfl rfl (Open.Fld.cons (Open.Opn.int Tryd.underlying3 (by kernel_rfl)) rfl rfl (Open.Fld.cons (Open.Opn.int Tryd.underlying3 (by kernel_rfl)) rfl rfl (Open.Fld.cons (Open.Opn.int Tryd.underlying50 (by kernel_rfl)) rfl rfl (Open.Fld.cons (Open.Opn.int Tryd.underlying3 (by kernel_rfl)) rfl rfl (Open.Fld.one opn58 rfl))))))))
  exact h.map (fun p => (⟨p.1, p.2.1, p.2.2.1, p.2.2.2.1, p.2.2.2.2.1, p.2.2.2.2.2.1, p.2.2.2.2.2.2⟩ : S91)) k91 rfl (fun _ _ _ h => h) ok91 sz91 (fun _ => 1) (fun _ h => h) (fun _ h => h) (fun a => h.pos a) (fun _ => Nat.le_refl _)
structure S33 where
  f0 : ByteArray
  f1 : S23
  f2 : (List ByteArray)
  f3 : (List S49)
  f4 : (List S65)
  f5 : (List S53)
  f6 : (List S62)
  f7 : (List S60)
  f8 : (List S55)
  f9 : (List S91)
def k33 : Kd S33 := Kd.iso (Kd.pair Kd.string (Kd.pair k23 (Kd.pair (Kd.slice 9 Kd.string) (Kd.pair (Kd.slice 49 k49) (Kd.pair (Kd.slice 65 k65) (Kd.pair (Kd.slice 53 k53) (Kd.pair (Kd.slice 62 k62) (Kd.pair (Kd.slice 60 k60) (Kd.pair (Kd.slice 55 k55) (Kd.slice 91 k91)))))))))) (fun x : S33 => (x.f0, x.f1, x.f2, x.f3, x.f4, x.f5, x.f6, x.f7, x.f8, x.f9))
def ok33 (x : S33) : Prop := True ∧ (ok23 x.f1 ∧ ((∀ y_ ∈ x.f2, True) ∧ ((∀ y_ ∈ x.f3, ok49 y_) ∧ ((∀ y_ ∈ x.f4, ok65 y_) ∧ ((∀ y_ ∈ x.f5, ok53 y_) ∧ ((∀ y_ ∈ x.f6, ok62 y_) ∧ ((∀ y_ ∈ x.f7, ok60 y_) ∧ ((∀ y_ ∈ x.f8, ok55 y_) ∧ ((∀ y_ ∈ x.f9, ok91 y_))))))))))
def sz33 (x : S33) : Prop := x.f0.size ≤ reachBytes ∧ (sz23 x.f1 ∧ ((x.f2.length * Tryd.prog.bytesOf 9 ≤ reachBytes ∧ ∀ y_ ∈ x.f2, y_.size ≤ reachBytes) ∧ ((x.f3.length * Tryd.prog.bytesOf 49 ≤ reachBytes ∧ ∀ y_ ∈ x.f3, sz49 y_) ∧ ((x.f4.length * Tryd.prog.bytesOf 65 ≤ reachBytes ∧ ∀ y_ ∈ x.f4, sz65 y_) ∧ ((x.f5.length * Tryd.prog.bytesOf 53 ≤ reachBytes ∧ ∀ y_ ∈ x.f5, sz53 y_) ∧ ((x.f6.length * Tryd.prog.bytesOf 62 ≤ reachBytes ∧ ∀ y_ ∈ x.f6, sz62 y_) ∧ ((x.f7.length * Tryd.prog.bytesOf 60 ≤ reachBytes ∧ ∀ y_ ∈ x.f7, sz60 y_) ∧ ((x.f8.length * Tryd.prog.bytesOf 55 ≤ reachBytes ∧ ∀ y_ ∈ x.f8, sz55 y_) ∧ ((x.f9.length * Tryd.prog.bytesOf 91 ≤ reachBytes ∧ ∀ y_ ∈ x.f9, sz91 y_))))))))))
theorem opn33 : Open.Opn Tryd.prog 33 k33 ok33 sz33 (fun _ => 1) := by
  have h := (Open.Opn.struct Tryd.underlying33 (by kernel_rfl) (Open.Fld.cons (Open.Opn.string Tryd.underlying9 (by kernel_rfl)) rfl rfl (Open.Fld.cons opn23 rfl rfl (Open.Fld.cons (Open.Opn.slice 9 (Open.Opn.string Tryd.underlying9 (by kernel_rfl)) Tryd.underlying24 (by kernel_rfl)) rfl rfl (Open.Fld.cons (Open.Opn.slice 49 opn49 Tryd.underlying25 (by kernel_rfl)) rfl rfl (Open.Fld.cons (Open.Opn.slice 65 opn65 Tryd.underlying26 (by kernel_rfl)) rfl rfl (Open.Fld.cons (Open.Opn.slice 53 opn53 Tryd.underlying27 (by kernel_rfl)) rfl rfl (Open.Fld.cons (Open.Opn.slice 62 opn62 Tryd.underlying28 (by kernel_rfl)) rfl rfl (Open.Fld.cons (Open.Opn.slice 60 opn60 Tryd.underlying29 (by kernel_rfl)) rfl rfl (Open.Fld.cons (Open.Opn.slice 55 opn55 Tryd.underlying30 (by kernel_rfl)) rfl rfl (Open.Fld.one (Open.Opn.slice 91 opn91 Tryd.underlying31 (by kernel_rfl)) rfl)))))))))))
  exact h.map (fun p => (⟨p.1, p.2.1, p.2.2.1, p.2.2.2.1, p.2.2.2.2.1, p.2.2.2.2.2.1, p.2.2.2.2.2.2.1, p.2.2.2.2.2.2.2.1, p.2.2.2.2.2.2.2.2.1, p.2.2.2.2.2.2.2.2.2⟩ : S33)) k33 rfl (fun _ _ _ h => h) ok33 sz33 (fun _ => 1) (fun _ h => h) (fun _ h => h) (fun a => h.pos a) (fun _ => Nat.le_refl _)
end Go.Proofs.YthckjbmgeidkgaaDoor.XA
