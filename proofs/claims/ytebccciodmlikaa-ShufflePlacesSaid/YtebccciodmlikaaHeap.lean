/- The abstract heap: what is where after a block more, or a block changed. -/
import Derived.Test.YtebccciodmlikaaRun
namespace PAbs
open Go
set_option linter.unusedSimpArgs false
set_option linter.unusedVariables false

section
variable {H l : AHeap} {b s : Nat} {cs ds : List Cell} {x y : Blk}
theorem hown_lt (h : hown H b = some cs) : b < H.length := by
  simp only [hown] at h
  cases hb : H[b]? with
  | none => simp [hb] at h
  | some y => exact (List.getElem?_eq_some_iff.mp hb).1
theorem hcells_lt (h : hcells H b = some cs) : b < H.length := by
  simp only [hcells] at h
  cases hb : H[b]? with
  | none => simp [hb] at h
  | some y => exact (List.getElem?_eq_some_iff.mp hb).1
theorem hcells_own (h : hown H b = some cs) : hcells H b = some cs := by
  simp only [hown, hcells] at h ⊢
  split at h
  · simp_all
  · cases h
theorem hown_app_lt (hb : b < H.length) : hown (H ++ l) b = hown H b := by simp [hown, List.getElem?_append, hb]
theorem hcells_app_lt (hb : b < H.length) : hcells (H ++ l) b = hcells H b := by simp [hcells, List.getElem?_append, hb]
theorem hown_app (h : hown H b = some cs) : hown (H ++ l) b = some cs := by rw [hown_app_lt (hown_lt h)]; exact h
theorem hcells_app (h : hcells H b = some cs) : hcells (H ++ l) b = some cs := by rw [hcells_app_lt (hcells_lt h)]; exact h
theorem hown_last : hown (H ++ [.own cs]) H.length = some cs := by simp [hown]
theorem hcells_last : hcells (H ++ [.own cs]) H.length = some cs := by simp [hcells]
theorem hown_set_ne (h : s ≠ b) : hown (H.set s x) b = hown H b := by simp [hown, List.getElem?_set, h]
theorem hcells_set_ne (h : s ≠ b) : hcells (H.set s x) b = hcells H b := by simp [hcells, List.getElem?_set, h]
theorem hown_set (h : b < H.length) : hown (H.set b (.own cs)) b = some cs := by simp [hown, List.getElem?_set, h]
theorem hcells_set (h : b < H.length) : hcells (H.set b (.own cs)) b = some cs := by simp [hcells, List.getElem?_set, h]

/-- a frame, some slots of which are of no more use -/
theorem stale (fr : AFrame) (F : (Nat → AV) → AFrame) (h : fr = F (fun j => fr.getD j aundef)) : ∃ s : Nat → AV, fr = F s := ⟨_, h⟩

/-- what is kept: of blocks below the floor -/
theorem Kept.hcells {fl : Nat} {H H' : AHeap} (k : Kept fl H H') (hb : b < fl) (hb2 : b < H.length) : PAbs.hcells H' b = PAbs.hcells H b := by
  simp only [PAbs.hcells, k.2 b hb hb2]
theorem Kept.hown {fl : Nat} {H H' : AHeap} (k : Kept fl H H') (hb : b < fl) (hb2 : b < H.length) : PAbs.hown H' b = PAbs.hown H b := by
  simp only [PAbs.hown, k.2 b hb hb2]
end
end PAbs
