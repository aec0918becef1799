/- package class' table: ten kinds. -/
import Derived.Test.YthckjbmgeidkgaaDoorHAs
namespace Go.Proofs.YthckjbmgeidkgaaDoor.XA
set_option linter.unusedVariables false
set_option linter.unusedSimpArgs false
open Go.RowKit Go.WideMaps Go.Maps Go.Proofs.YthckjbmgeidkgaaDoorW.PrintWords Go.Proofs.YthckjbmgeidkgaaDoorW.PrintLast Go.Proofs.YthckjbmgeidkgaaDoorW.PrintMore
def kind0 : Kind := ⟨⟨#[67, 80, 85]⟩, 24, 25, 1, 1, [], fun _ => 1, fun c _ => c.f0, []⟩
set_option maxRecDepth 1000000 in
theorem kind0_ok : kind0.Ok where
  ec := ent_of Tryd.func24 (by kernel_rfl) rfl
  en := ent_of Tryd.func25 (by kernel_rfl) rfl
  ef := fun f hf => by simp [kind0] at hf
  cnt := cnt24
  nam := nam25
  len := rfl
  chk := fun k f E hf hE w B V c i h hi hp => by
    simp [kind0] at hf
  bd := fun c h => by show 1 ≤ 8796093022208; decide
def kind1 : Kind := ⟨⟨#[79, 83]⟩, 26, 27, 1, 1, [], fun _ => 1, fun c _ => c.f1.f0, []⟩
set_option maxRecDepth 1000000 in
theorem kind1_ok : kind1.Ok where
  ec := ent_of Tryd.func26 (by kernel_rfl) rfl
  en := ent_of Tryd.func27 (by kernel_rfl) rfl
  ef := fun f hf => by simp [kind1] at hf
  cnt := cnt26
  nam := nam27
  len := rfl
  chk := fun k f E hf hE w B V c i h hi hp => by
    simp [kind1] at hf
  bd := fun c h => by show 1 ≤ 8796093022208; decide
def kind2 : Kind := ⟨⟨#[65, 80, 80, 77, 79, 68, 69]⟩, 28, 29, 1, 8, [], fun c => c.f2.length, fun c i => c.f2.getD i ⟨#[]⟩, []⟩
set_option maxRecDepth 1000000 in
theorem kind2_ok : kind2.Ok where
  ec := ent_of Tryd.func28 (by kernel_rfl) rfl
  en := ent_of Tryd.func29 (by kernel_rfl) rfl
  ef := fun f hf => by simp [kind2] at hf
  cnt := cnt28
  nam := nam29
  len := rfl
  chk := fun k f E hf hE w B V c i h hi hp => by
    simp [kind2] at hf
  bd := fun c h => h.m
def kind3 : Kind := ⟨⟨#[82, 69, 83, 79, 85, 82, 67, 69]⟩, 30, 31, 0, 64, [32, 33, 34], fun c => c.f4.length, fun c i => (c.f4.getD i z65).f0, [eResVal, eResLink, eResEnds]⟩
set_option maxRecDepth 1000000 in
theorem kind3_ok : kind3.Ok where
  ec := ent_of Tryd.func30 (by kernel_rfl) rfl
  en := ent_of Tryd.func31 (by kernel_rfl) rfl
  ef := fun f hf => by
    simp only [kind3, List.mem_cons, List.not_mem_nil, or_false] at hf
    rcases hf with rfl | rfl | rfl
    · exact ent_of Tryd.func32 (by kernel_rfl) rfl
    · exact ent_of Tryd.func33 (by kernel_rfl) rfl
    · exact ent_of Tryd.func34 (by kernel_rfl) rfl
  cnt := cnt30
  nam := nam31
  len := rfl
  chk := fun k f E hf hE w B V c i h hi hp => by
    rcases k with _ | k
    · injection hf with hf
      injection hE with hE
      subst hf hE
      exact resVal_chk w B V c i h hi trivial
    rcases k with _ | k
    · injection hf with hf
      injection hE with hE
      subst hf hE
      exact resLink_chk w B V c i h hi trivial
    rcases k with _ | k
    · injection hf with hf
      injection hE with hE
      subst hf hE
      exact resEnds_chk w B V c i h hi trivial
    simp [kind3] at hf
  bd := fun c h => h.r
def kind4 : Kind := ⟨⟨#[69, 86, 69, 78, 84]⟩, 35, 36, 0, 256, [37], fun c => c.f5.length, fun c i => (c.f5.getD i z53).f0, [eEvt]⟩
set_option maxRecDepth 1000000 in
theorem kind4_ok : kind4.Ok where
  ec := ent_of Tryd.func35 (by kernel_rfl) rfl
  en := ent_of Tryd.func36 (by kernel_rfl) rfl
  ef := fun f hf => by
    simp only [kind4, List.mem_cons, List.not_mem_nil, or_false] at hf
    rcases hf with rfl
    · exact ent_of Tryd.func37 (by kernel_rfl) rfl
  cnt := cnt35
  nam := nam36
  len := rfl
  chk := fun k f E hf hE w B V c i h hi hp => by
    rcases k with _ | k
    · injection hf with hf
      injection hE with hE
      subst hf hE
      exact evt_chk w B V c i h hi trivial
    simp [kind4] at hf
  bd := fun c h => h.e
def kind5 : Kind := ⟨⟨#[84, 65, 83, 75]⟩, 39, 40, 1, 256, [41, 42, 43, 44], fun c => c.f3.length, fun c i => (c.f3.getD i z49).f0, [eTaskVal, eTaskRefs, eTaskOver, eTaskRules]⟩
set_option maxRecDepth 1000000 in
theorem kind5_ok : kind5.Ok where
  ec := ent_of Tryd.func39 (by kernel_rfl) rfl
  en := ent_of Tryd.func40 (by kernel_rfl) rfl
  ef := fun f hf => by
    simp only [kind5, List.mem_cons, List.not_mem_nil, or_false] at hf
    rcases hf with rfl | rfl | rfl | rfl
    · exact ent_of Tryd.func41 (by kernel_rfl) rfl
    · exact ent_of Tryd.func42 (by kernel_rfl) rfl
    · exact ent_of Tryd.func43 (by kernel_rfl) rfl
    · exact ent_of Tryd.func44 (by kernel_rfl) rfl
  cnt := cnt39
  nam := nam40
  len := rfl
  chk := fun k f E hf hE w B V c i h hi hp => by
    rcases k with _ | k
    · injection hf with hf
      injection hE with hE
      subst hf hE
      exact taskVal_chk w B V c i h hi trivial
    rcases k with _ | k
    · injection hf with hf
      injection hE with hE
      subst hf hE
      exact taskRefs_chk w B V c i h hi trivial
    rcases k with _ | k
    · injection hf with hf
      injection hE with hE
      subst hf hE
      exact taskOver_chk w B V c i h hi trivial
    rcases k with _ | k
    · injection hf with hf
      injection hE with hE
      subst hf hE
      exact taskRules_chk w B V c i h hi (hp 1 eTaskRefs (by omega) rfl)
    simp [kind5] at hf
  bd := fun c h => h.t
def kind6 : Kind := ⟨⟨#[67, 79, 85, 78, 84, 69, 82]⟩, 45, 46, 0, 16, [47], fun c => c.f6.length, fun c i => (c.f6.getD i z62).f0, [eCtrVal]⟩
set_option maxRecDepth 1000000 in
theorem kind6_ok : kind6.Ok where
  ec := ent_of Tryd.func45 (by kernel_rfl) rfl
  en := ent_of Tryd.func46 (by kernel_rfl) rfl
  ef := fun f hf => by
    simp only [kind6, List.mem_cons, List.not_mem_nil, or_false] at hf
    rcases hf with rfl
    · exact ent_of Tryd.func47 (by kernel_rfl) rfl
  cnt := cnt45
  nam := nam46
  len := rfl
  chk := fun k f E hf hE w B V c i h hi hp => by
    rcases k with _ | k
    · injection hf with hf
      injection hE with hE
      subst hf hE
      exact ctrVal_chk w B V c i h hi trivial
    simp [kind6] at hf
  bd := fun c h => h.x
def kind7 : Kind := ⟨⟨#[65, 76, 65, 82, 77]⟩, 48, 49, 0, 64, [50, 51, 52, 53], fun c => c.f7.length, fun c i => (c.f7.getD i z60).f0, [eAlmCtr, eAlmAct, eAlmModes, eAlmTimes]⟩
set_option maxRecDepth 1000000 in
theorem kind7_ok : kind7.Ok where
  ec := ent_of Tryd.func48 (by kernel_rfl) rfl
  en := ent_of Tryd.func49 (by kernel_rfl) rfl
  ef := fun f hf => by
    simp only [kind7, List.mem_cons, List.not_mem_nil, or_false] at hf
    rcases hf with rfl | rfl | rfl | rfl
    · exact ent_of Tryd.func50 (by kernel_rfl) rfl
    · exact ent_of Tryd.func51 (by kernel_rfl) rfl
    · exact ent_of Tryd.func52 (by kernel_rfl) rfl
    · exact ent_of Tryd.func53 (by kernel_rfl) rfl
  cnt := cnt48
  nam := nam49
  len := rfl
  chk := fun k f E hf hE w B V c i h hi hp => by
    rcases k with _ | k
    · injection hf with hf
      injection hE with hE
      subst hf hE
      exact almCtr_chk w B V c i h hi trivial
    rcases k with _ | k
    · injection hf with hf
      injection hE with hE
      subst hf hE
      exact almAct_chk w B V c i h hi trivial
    rcases k with _ | k
    · injection hf with hf
      injection hE with hE
      subst hf hE
      exact almModes_chk w B V c i h hi trivial
    rcases k with _ | k
    · injection hf with hf
      injection hE with hE
      subst hf hE
      exact almTimes_chk w B V c i h hi (hp 0 eAlmCtr (by omega) rfl)
    simp [kind7] at hf
  bd := fun c h => h.a
def kind8 : Kind := ⟨⟨#[73, 83, 82]⟩, 54, 55, 0, 32, [56, 57, 58], fun c => c.f8.length, fun c i => (c.f8.getD i z55).f0, [eIsrVal, eIsrRefs, eIsrRules]⟩
set_option maxRecDepth 1000000 in
theorem kind8_ok : kind8.Ok where
  ec := ent_of Tryd.func54 (by kernel_rfl) rfl
  en := ent_of Tryd.func55 (by kernel_rfl) rfl
  ef := fun f hf => by
    simp only [kind8, List.mem_cons, List.not_mem_nil, or_false] at hf
    rcases hf with rfl | rfl | rfl
    · exact ent_of Tryd.func56 (by kernel_rfl) rfl
    · exact ent_of Tryd.func57 (by kernel_rfl) rfl
    · exact ent_of Tryd.func58 (by kernel_rfl) rfl
  cnt := cnt54
  nam := nam55
  len := rfl
  chk := fun k f E hf hE w B V c i h hi hp => by
    rcases k with _ | k
    · injection hf with hf
      injection hE with hE
      subst hf hE
      exact isrVal_chk w B V c i h hi trivial
    rcases k with _ | k
    · injection hf with hf
      injection hE with hE
      subst hf hE
      exact isrRefs_chk w B V c i h hi trivial
    rcases k with _ | k
    · injection hf with hf
      injection hE with hE
      subst hf hE
      exact isrRules_chk w B V c i h hi (hp 1 eIsrRefs (by omega) rfl)
    simp [kind8] at hf
  bd := fun c h => h.i
def kind9 : Kind := ⟨⟨#[77, 69, 83, 83, 65, 71, 69]⟩, 59, 60, 0, 64, [61, 62, 63, 64], fun c => c.f9.length, fun c i => (c.f9.getD i z91).f0, [eMsgVal, eMsgFrom, eMsgInit, eMsgAct]⟩
set_option maxRecDepth 1000000 in
theorem kind9_ok : kind9.Ok where
  ec := ent_of Tryd.func59 (by kernel_rfl) rfl
  en := ent_of Tryd.func60 (by kernel_rfl) rfl
  ef := fun f hf => by
    simp only [kind9, List.mem_cons, List.not_mem_nil, or_false] at hf
    rcases hf with rfl | rfl | rfl | rfl
    · exact ent_of Tryd.func61 (by kernel_rfl) rfl
    · exact ent_of Tryd.func62 (by kernel_rfl) rfl
    · exact ent_of Tryd.func63 (by kernel_rfl) rfl
    · exact ent_of Tryd.func64 (by kernel_rfl) rfl
  cnt := cnt59
  nam := nam60
  len := rfl
  chk := fun k f E hf hE w B V c i h hi hp => by
    rcases k with _ | k
    · injection hf with hf
      injection hE with hE
      subst hf hE
      exact msgVal_chk w B V c i h hi trivial
    rcases k with _ | k
    · injection hf with hf
      injection hE with hE
      subst hf hE
      exact msgFrom_chk w B V c i h hi trivial
    rcases k with _ | k
    · injection hf with hf
      injection hE with hE
      subst hf hE
      exact msgInit_chk w B V c i h hi (hp 1 eMsgFrom (by omega) rfl)
    rcases k with _ | k
    · injection hf with hf
      injection hE with hE
      subst hf hE
      exact msgAct_chk w B V c i h hi trivial
    simp [kind9] at hf
  bd := fun c h => h.g
def kinds : List Kind := [kind0, kind1, kind2, kind3, kind4, kind5, kind6, kind7, kind8, kind9]
/-- the table in memory -/
structure TabAt (w : World) (b : Nat) : Prop where
  b0 : w.heap[b]? = some (.cells #[.func (.func 32) #[] #[], .func (.func 33) #[] #[], .func (.func 34) #[] #[]] 106 (0, 0))
  b1 : w.heap[b + 1]? = some (.cells #[.func (.func 37) #[] #[]] 106 (0, 0))
  b2 : w.heap[b + 1 + 1]? = some (.cells #[.func (.func 41) #[] #[], .func (.func 42) #[] #[], .func (.func 43) #[] #[], .func (.func 44) #[] #[]] 106 (0, 0))
  b3 : w.heap[b + 1 + 1 + 1]? = some (.cells #[.func (.func 47) #[] #[]] 106 (0, 0))
  b4 : w.heap[b + 1 + 1 + 1 + 1]? = some (.cells #[.func (.func 50) #[] #[], .func (.func 51) #[] #[], .func (.func 52) #[] #[], .func (.func 53) #[] #[]] 106 (0, 0))
  b5 : w.heap[b + 1 + 1 + 1 + 1 + 1]? = some (.cells #[.func (.func 56) #[] #[], .func (.func 57) #[] #[], .func (.func 58) #[] #[]] 106 (0, 0))
  b6 : w.heap[b + 1 + 1 + 1 + 1 + 1 + 1]? = some (.cells #[.func (.func 61) #[] #[], .func (.func 62) #[] #[], .func (.func 63) #[] #[], .func (.func 64) #[] #[]] 106 (0, 0))
  t : w.heap[b + 1 + 1 + 1 + 1 + 1 + 1 + 1]? = some (.cells #[.string ⟨#[67, 80, 85]⟩, .func (.func 24) #[] #[], .func (.func 25) #[] #[], .int .i64 1, .int .i64 1, .slice none 0 0, .string ⟨#[79, 83]⟩, .func (.func 26) #[] #[], .func (.func 27) #[] #[], .int .i64 1, .int .i64 1, .slice none 0 0, .string ⟨#[65, 80, 80, 77, 79, 68, 69]⟩, .func (.func 28) #[] #[], .func (.func 29) #[] #[], .int .i64 1, .int .i64 8, .slice none 0 0, .string ⟨#[82, 69, 83, 79, 85, 82, 67, 69]⟩, .func (.func 30) #[] #[], .func (.func 31) #[] #[], .int .i64 0, .int .i64 64, .slice (some ⟨b, 0, none⟩) 3 3, .string ⟨#[69, 86, 69, 78, 84]⟩, .func (.func 35) #[] #[], .func (.func 36) #[] #[], .int .i64 0, .int .i64 256, .slice (some ⟨b + 1, 0, none⟩) 1 1, .string ⟨#[84, 65, 83, 75]⟩, .func (.func 39) #[] #[], .func (.func 40) #[] #[], .int .i64 1, .int .i64 256, .slice (some ⟨b + 1 + 1, 0, none⟩) 4 4, .string ⟨#[67, 79, 85, 78, 84, 69, 82]⟩, .func (.func 45) #[] #[], .func (.func 46) #[] #[], .int .i64 0, .int .i64 16, .slice (some ⟨b + 1 + 1 + 1, 0, none⟩) 1 1, .string ⟨#[65, 76, 65, 82, 77]⟩, .func (.func 48) #[] #[], .func (.func 49) #[] #[], .int .i64 0, .int .i64 64, .slice (some ⟨b + 1 + 1 + 1 + 1, 0, none⟩) 4 4, .string ⟨#[73, 83, 82]⟩, .func (.func 54) #[] #[], .func (.func 55) #[] #[], .int .i64 0, .int .i64 32, .slice (some ⟨b + 1 + 1 + 1 + 1 + 1, 0, none⟩) 3 3, .string ⟨#[77, 69, 83, 83, 65, 71, 69]⟩, .func (.func 59) #[] #[], .func (.func 60) #[] #[], .int .i64 0, .int .i64 64, .slice (some ⟨b + 1 + 1 + 1 + 1 + 1 + 1, 0, none⟩) 4 4] 72 (0, 0))
theorem TabAt.below {w w1 : World} {b : Nat} (h : TabAt w b) (hB : Below w.heap.size w w1) : TabAt w1 b := ⟨(hB.block _ (blk_lt h.b0)).trans h.b0, (hB.block _ (blk_lt h.b1)).trans h.b1, (hB.block _ (blk_lt h.b2)).trans h.b2, (hB.block _ (blk_lt h.b3)).trans h.b3, (hB.block _ (blk_lt h.b4)).trans h.b4, (hB.block _ (blk_lt h.b5)).trans h.b5, (hB.block _ (blk_lt h.b6)).trans h.b6, (hB.block _ (blk_lt h.t)).trans h.t⟩
theorem al_new (w : World) (o : Obj) (b : Nat) (h : b = w.heap.size) : (w.alloc o).heap[b]? = some o := by subst h; exact heap_alloc_new w o
theorem alloc8 (w : World) (o0 o1 o2 o3 o4 o5 o6 o7 : Obj) : ((((((((w.alloc o0).alloc o1).alloc o2).alloc o3).alloc o4).alloc o5).alloc o6).alloc o7).heap[w.heap.size]? = some o0 ∧
    ((((((((w.alloc o0).alloc o1).alloc o2).alloc o3).alloc o4).alloc o5).alloc o6).alloc o7).heap[w.heap.size + 1]? = some o1 ∧
    ((((((((w.alloc o0).alloc o1).alloc o2).alloc o3).alloc o4).alloc o5).alloc o6).alloc o7).heap[w.heap.size + 1 + 1]? = some o2 ∧
    ((((((((w.alloc o0).alloc o1).alloc o2).alloc o3).alloc o4).alloc o5).alloc o6).alloc o7).heap[w.heap.size + 1 + 1 + 1]? = some o3 ∧
    ((((((((w.alloc o0).alloc o1).alloc o2).alloc o3).alloc o4).alloc o5).alloc o6).alloc o7).heap[w.heap.size + 1 + 1 + 1 + 1]? = some o4 ∧
    ((((((((w.alloc o0).alloc o1).alloc o2).alloc o3).alloc o4).alloc o5).alloc o6).alloc o7).heap[w.heap.size + 1 + 1 + 1 + 1 + 1]? = some o5 ∧
    ((((((((w.alloc o0).alloc o1).alloc o2).alloc o3).alloc o4).alloc o5).alloc o6).alloc o7).heap[w.heap.size + 1 + 1 + 1 + 1 + 1 + 1]? = some o6 ∧
    ((((((((w.alloc o0).alloc o1).alloc o2).alloc o3).alloc o4).alloc o5).alloc o6).alloc o7).heap[w.heap.size + 1 + 1 + 1 + 1 + 1 + 1 + 1]? = some o7 ∧
    Below w.heap.size w ((((((((w.alloc o0).alloc o1).alloc o2).alloc o3).alloc o4).alloc o5).alloc o6).alloc o7) := by
  refine ⟨?_, ?_, ?_, ?_, ?_, ?_, ?_, ?_, ?_⟩

  · rw [heap_alloc_old _ _ (by simp only [World.size_alloc]; omega)]
    rw [heap_alloc_old _ _ (by simp only [World.size_alloc]; omega)]
    rw [heap_alloc_old _ _ (by simp only [World.size_alloc]; omega)]
    rw [heap_alloc_old _ _ (by simp only [World.size_alloc]; omega)]
    rw [heap_alloc_old _ _ (by simp only [World.size_alloc]; omega)]
    rw [heap_alloc_old _ _ (by simp only [World.size_alloc]; omega)]
    rw [heap_alloc_old _ _ (by simp only [World.size_alloc]; omega)]
    exact al_new _ _ _ (by simp only [World.size_alloc])
  · rw [heap_alloc_old _ _ (by simp only [World.size_alloc]; omega)]
    rw [heap_alloc_old _ _ (by simp only [World.size_alloc]; omega)]
    rw [heap_alloc_old _ _ (by simp only [World.size_alloc]; omega)]
    rw [heap_alloc_old _ _ (by simp only [World.size_alloc]; omega)]
    rw [heap_alloc_old _ _ (by simp only [World.size_alloc]; omega)]
    rw [heap_alloc_old _ _ (by simp only [World.size_alloc]; omega)]
    exact al_new _ _ _ (by simp only [World.size_alloc])
  · rw [heap_alloc_old _ _ (by simp only [World.size_alloc]; omega)]
    rw [heap_alloc_old _ _ (by simp only [World.size_alloc]; omega)]
    rw [heap_alloc_old _ _ (by simp only [World.size_alloc]; omega)]
    rw [heap_alloc_old _ _ (by simp only [World.size_alloc]; omega)]
    rw [heap_alloc_old _ _ (by simp only [World.size_alloc]; omega)]
    exact al_new _ _ _ (by simp only [World.size_alloc])
  · rw [heap_alloc_old _ _ (by simp only [World.size_alloc]; omega)]
    rw [heap_alloc_old _ _ (by simp only [World.size_alloc]; omega)]
    rw [heap_alloc_old _ _ (by simp only [World.size_alloc]; omega)]
    rw [heap_alloc_old _ _ (by simp only [World.size_alloc]; omega)]
    exact al_new _ _ _ (by simp only [World.size_alloc])
  · rw [heap_alloc_old _ _ (by simp only [World.size_alloc]; omega)]
    rw [heap_alloc_old _ _ (by simp only [World.size_alloc]; omega)]
    rw [heap_alloc_old _ _ (by simp only [World.size_alloc]; omega)]
    exact al_new _ _ _ (by simp only [World.size_alloc])
  · rw [heap_alloc_old _ _ (by simp only [World.size_alloc]; omega)]
    rw [heap_alloc_old _ _ (by simp only [World.size_alloc]; omega)]
    exact al_new _ _ _ (by simp only [World.size_alloc])
  · rw [heap_alloc_old _ _ (by simp only [World.size_alloc]; omega)]
    exact al_new _ _ _ (by simp only [World.size_alloc])
  · exact al_new _ _ _ (by simp only [World.size_alloc])
  · exact (((((((((Below.refl _ _).alloc (Nat.le_refl _) _).alloc (by simp) _).alloc (by simp; omega) _).alloc (by simp; omega) _).alloc (by simp; omega) _).alloc (by simp; omega) _).alloc (by simp; omega) _).alloc (by simp; omega) _)
set_option maxRecDepth 1000000 in
set_option maxHeartbeats 4000000 in
theorem table_calls (w : World) : Calls Tryd.prog 16 #[] w fun e w' => e = .returned (.slice (some ⟨w.heap.size + 1 + 1 + 1 + 1 + 1 + 1 + 1, 0, none⟩) 10 10) ∧ TabAt w' w.heap.size ∧ Below w.heap.size w w' := by
  have HA := Aside0.mk (alloc8 w (.cells #[.func (.func 32) #[] #[], .func (.func 33) #[] #[], .func (.func 34) #[] #[]] 106) (.cells #[.func (.func 37) #[] #[]] 106) (.cells #[.func (.func 41) #[] #[], .func (.func 42) #[] #[], .func (.func 43) #[] #[], .func (.func 44) #[] #[]] 106) (.cells #[.func (.func 47) #[] #[]] 106) (.cells #[.func (.func 50) #[] #[], .func (.func 51) #[] #[], .func (.func 52) #[] #[], .func (.func 53) #[] #[]] 106) (.cells #[.func (.func 56) #[] #[], .func (.func 57) #[] #[], .func (.func 58) #[] #[]] 106) (.cells #[.func (.func 61) #[] #[], .func (.func 62) #[] #[], .func (.func 63) #[] #[], .func (.func 64) #[] #[]] 106) (.cells #[.string ⟨#[67, 80, 85]⟩, .func (.func 24) #[] #[], .func (.func 25) #[] #[], .int .i64 1, .int .i64 1, .slice none 0 0, .string ⟨#[79, 83]⟩, .func (.func 26) #[] #[], .func (.func 27) #[] #[], .int .i64 1, .int .i64 1, .slice none 0 0, .string ⟨#[65, 80, 80, 77, 79, 68, 69]⟩, .func (.func 28) #[] #[], .func (.func 29) #[] #[], .int .i64 1, .int .i64 8, .slice none 0 0, .string ⟨#[82, 69, 83, 79, 85, 82, 67, 69]⟩, .func (.func 30) #[] #[], .func (.func 31) #[] #[], .int .i64 0, .int .i64 64, .slice (some ⟨w.heap.size, 0, none⟩) 3 3, .string ⟨#[69, 86, 69, 78, 84]⟩, .func (.func 35) #[] #[], .func (.func 36) #[] #[], .int .i64 0, .int .i64 256, .slice (some ⟨w.heap.size + 1, 0, none⟩) 1 1, .string ⟨#[84, 65, 83, 75]⟩, .func (.func 39) #[] #[], .func (.func 40) #[] #[], .int .i64 1, .int .i64 256, .slice (some ⟨w.heap.size + 1 + 1, 0, none⟩) 4 4, .string ⟨#[67, 79, 85, 78, 84, 69, 82]⟩, .func (.func 45) #[] #[], .func (.func 46) #[] #[], .int .i64 0, .int .i64 16, .slice (some ⟨w.heap.size + 1 + 1 + 1, 0, none⟩) 1 1, .string ⟨#[65, 76, 65, 82, 77]⟩, .func (.func 48) #[] #[], .func (.func 49) #[] #[], .int .i64 0, .int .i64 64, .slice (some ⟨w.heap.size + 1 + 1 + 1 + 1, 0, none⟩) 4 4, .string ⟨#[73, 83, 82]⟩, .func (.func 54) #[] #[], .func (.func 55) #[] #[], .int .i64 0, .int .i64 32, .slice (some ⟨w.heap.size + 1 + 1 + 1 + 1 + 1, 0, none⟩) 3 3, .string ⟨#[77, 69, 83, 83, 65, 71, 69]⟩, .func (.func 59) #[] #[], .func (.func 60) #[] #[], .int .i64 0, .int .i64 64, .slice (some ⟨w.heap.size + 1 + 1 + 1 + 1 + 1 + 1, 0, none⟩) 4 4] 72))
  go_enter Tryd.func16, Tryd.ntmps16
  go_wp2_with fail
  go_ret
  exact ⟨rfl, ⟨HA.out.1, HA.out.2.1, HA.out.2.2.1, HA.out.2.2.2.1, HA.out.2.2.2.2.1, HA.out.2.2.2.2.2.1, HA.out.2.2.2.2.2.2.1, HA.out.2.2.2.2.2.2.2.1⟩, HA.out.2.2.2.2.2.2.2.2⟩
/-- a row of the table -/
theorem row_at {w : World} {b : Nat} (h : TabAt w b) (j : Nat) (K : Kind) (hj : kinds[j]? = some K) : ∃ A cap, K.Ok ∧ K.fs.length ≤ cap ∧ K.fs.length ≤ 8 ∧ FunsAt w A K.fs ∧ ∀ m v, [Value.string K.word, .func (.func K.fc) #[] #[], .func (.func K.fn) #[] #[], .int .i64 K.lo, .int .i64 K.hi, .slice A K.fs.length cap][m]? = some v → w.cell? (((⟨b + 1 + 1 + 1 + 1 + 1 + 1 + 1, 0, none⟩ : Addr).add (j * 6)).add m) = some v := by
  have hc : ∀ (j m : Nat) v, (#[.string ⟨#[67, 80, 85]⟩, .func (.func 24) #[] #[], .func (.func 25) #[] #[], .int .i64 1, .int .i64 1, .slice none 0 0, .string ⟨#[79, 83]⟩, .func (.func 26) #[] #[], .func (.func 27) #[] #[], .int .i64 1, .int .i64 1, .slice none 0 0, .string ⟨#[65, 80, 80, 77, 79, 68, 69]⟩, .func (.func 28) #[] #[], .func (.func 29) #[] #[], .int .i64 1, .int .i64 8, .slice none 0 0, .string ⟨#[82, 69, 83, 79, 85, 82, 67, 69]⟩, .func (.func 30) #[] #[], .func (.func 31) #[] #[], .int .i64 0, .int .i64 64, .slice (some ⟨b, 0, none⟩) 3 3, .string ⟨#[69, 86, 69, 78, 84]⟩, .func (.func 35) #[] #[], .func (.func 36) #[] #[], .int .i64 0, .int .i64 256, .slice (some ⟨b + 1, 0, none⟩) 1 1, .string ⟨#[84, 65, 83, 75]⟩, .func (.func 39) #[] #[], .func (.func 40) #[] #[], .int .i64 1, .int .i64 256, .slice (some ⟨b + 1 + 1, 0, none⟩) 4 4, .string ⟨#[67, 79, 85, 78, 84, 69, 82]⟩, .func (.func 45) #[] #[], .func (.func 46) #[] #[], .int .i64 0, .int .i64 16, .slice (some ⟨b + 1 + 1 + 1, 0, none⟩) 1 1, .string ⟨#[65, 76, 65, 82, 77]⟩, .func (.func 48) #[] #[], .func (.func 49) #[] #[], .int .i64 0, .int .i64 64, .slice (some ⟨b + 1 + 1 + 1 + 1, 0, none⟩) 4 4, .string ⟨#[73, 83, 82]⟩, .func (.func 54) #[] #[], .func (.func 55) #[] #[], .int .i64 0, .int .i64 32, .slice (some ⟨b + 1 + 1 + 1 + 1 + 1, 0, none⟩) 3 3, .string ⟨#[77, 69, 83, 83, 65, 71, 69]⟩, .func (.func 59) #[] #[], .func (.func 60) #[] #[], .int .i64 0, .int .i64 64, .slice (some ⟨b + 1 + 1 + 1 + 1 + 1 + 1, 0, none⟩) 4 4] : Array Value)[j * 6 + m]? = some v → w.cell? (((⟨b + 1 + 1 + 1 + 1 + 1 + 1 + 1, 0, none⟩ : Addr).add (j * 6)).add m) = some v := fun j m v hv => by
    rw [add_add]
    exact cell_of h.t hv
  have hf : ∀ (q : Nat) (fs : List Nat), w.heap[q]? = some (.cells (fs.map (fun f => Value.func (.func f) #[] #[])).toArray 106 (0, 0)) → FunsAt w (some ⟨q, 0, none⟩) fs := fun q fs hq k f hk => ⟨_, rfl, cell_of hq (by simp [hk])⟩
  rcases j with _ | j
  · injection hj with hj
    subst hj
    exact ⟨none, 0, kind0_ok, by decide, by decide, fun k f hf => by simp [kind0] at hf, fun m v hv => hc 0 m v (by rcases m with _ | _ | _ | _ | _ | _ | m <;> first | exact hv | simp at hv)⟩
  rcases j with _ | j
  · injection hj with hj
    subst hj
    exact ⟨none, 0, kind1_ok, by decide, by decide, fun k f hf => by simp [kind1] at hf, fun m v hv => hc 1 m v (by rcases m with _ | _ | _ | _ | _ | _ | m <;> first | exact hv | simp at hv)⟩
  rcases j with _ | j
  · injection hj with hj
    subst hj
    exact ⟨none, 0, kind2_ok, by decide, by decide, fun k f hf => by simp [kind2] at hf, fun m v hv => hc 2 m v (by rcases m with _ | _ | _ | _ | _ | _ | m <;> first | exact hv | simp at hv)⟩
  rcases j with _ | j
  · injection hj with hj
    subst hj
    exact ⟨(some ⟨b, 0, none⟩), 3, kind3_ok, by decide, by decide, hf _ _ h.b0, fun m v hv => hc 3 m v (by rcases m with _ | _ | _ | _ | _ | _ | m <;> first | exact hv | simp at hv)⟩
  rcases j with _ | j
  · injection hj with hj
    subst hj
    exact ⟨(some ⟨b + 1, 0, none⟩), 1, kind4_ok, by decide, by decide, hf _ _ h.b1, fun m v hv => hc 4 m v (by rcases m with _ | _ | _ | _ | _ | _ | m <;> first | exact hv | simp at hv)⟩
  rcases j with _ | j
  · injection hj with hj
    subst hj
    exact ⟨(some ⟨b + 1 + 1, 0, none⟩), 4, kind5_ok, by decide, by decide, hf _ _ h.b2, fun m v hv => hc 5 m v (by rcases m with _ | _ | _ | _ | _ | _ | m <;> first | exact hv | simp at hv)⟩
  rcases j with _ | j
  · injection hj with hj
    subst hj
    exact ⟨(some ⟨b + 1 + 1 + 1, 0, none⟩), 1, kind6_ok, by decide, by decide, hf _ _ h.b3, fun m v hv => hc 6 m v (by rcases m with _ | _ | _ | _ | _ | _ | m <;> first | exact hv | simp at hv)⟩
  rcases j with _ | j
  · injection hj with hj
    subst hj
    exact ⟨(some ⟨b + 1 + 1 + 1 + 1, 0, none⟩), 4, kind7_ok, by decide, by decide, hf _ _ h.b4, fun m v hv => hc 7 m v (by rcases m with _ | _ | _ | _ | _ | _ | m <;> first | exact hv | simp at hv)⟩
  rcases j with _ | j
  · injection hj with hj
    subst hj
    exact ⟨(some ⟨b + 1 + 1 + 1 + 1 + 1, 0, none⟩), 3, kind8_ok, by decide, by decide, hf _ _ h.b5, fun m v hv => hc 8 m v (by rcases m with _ | _ | _ | _ | _ | _ | m <;> first | exact hv | simp at hv)⟩
  rcases j with _ | j
  · injection hj with hj
    subst hj
    exact ⟨(some ⟨b + 1 + 1 + 1 + 1 + 1 + 1, 0, none⟩), 4, kind9_ok, by decide, by decide, hf _ _ h.b6, fun m v hv => hc 9 m v (by rcases m with _ | _ | _ | _ | _ | _ | m <;> first | exact hv | simp at hv)⟩
  simp [kinds] at hj
def verF : List Kind → S33 → Int × ByteArray × Int
  | [], _ => (0, ⟨#[]⟩, 0)
  | K :: r, c => match K.look c with
    | some (code, id) => (code, K.word, id)
    | none => verF r c
/-- what Check answers -/
def verV (c : S33) : Int × ByteArray × Int := verF kinds c
theorem verF_drop (c : S33) (Ks : List Kind) (j : Nat) (K : Kind) (hj : Ks[j]? = some K) : verF (Ks.drop j) c = match K.look c with
    | some (code, id) => (code, K.word, id)
    | none => verF (Ks.drop (j + 1)) c := by
  have hl : j < Ks.length := (List.getElem?_eq_some_iff.mp hj).1
  have he : Ks[j] = K := (List.getElem?_eq_some_iff.mp hj).2
  rw [List.drop_eq_getElem_cons hl, he]
  rfl
end Go.Proofs.YthckjbmgeidkgaaDoor.XA
