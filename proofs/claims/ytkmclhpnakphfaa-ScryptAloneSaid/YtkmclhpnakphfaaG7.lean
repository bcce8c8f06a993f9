/- Texts of this claim, put together: Glue Heap. -/
import Derived.Test.YtkmclhpnakphfaaG6
import Derived.WalkKit
import Derived.ProofKit
import Derived.OpenShut
import Derived.JoinedCond
import Derived.Carry
import Derived.WideKeyArgs
import Derived.ChangeOld
/- From 'the call answers true and changes nothing that was there' to what a law's row asks. -/
namespace PAbs
open Go Go.RowKit Go.ChangeShapes Go.WideShapes Go.ChangeAt
set_option linter.unusedSimpArgs false
set_option linter.unusedVariables false

variable {H : Type} {enc : TypeId × Value → H} {P : Program}

theorem trodAll_below (hl : laidOutB P = true) {W W' : World} (hb : Below W.heap.size W W') {sp : Nat → Bool} : ∀ {ts : List TypeId} {vs : List Value} {ds : List (DataW H)} {ps : List MemPlace},
    (ts.all fun t => P.readableRec t && decide (t < P.types.size)) = true → (∀ p ∈ ps, p.block < W.heap.size) → (∀ p ∈ ps, sp p.block = true) →
    DataW.TrodAll enc P W 0 (fun _ => true) true ts vs ds ps → DataW.TrodAll enc P W' 0 sp true ts vs ds ps
  | [], vs, ds, ps, _, _, _, h => by
    obtain ⟨rfl, rfl, rfl⟩ := trodAll_nil h
    exact rfl
  | t :: ts, vs, ds, ps, ht, hlt, hsp, h => by
    obtain ⟨v, vs1, d, ds1, a, b, rfl, rfl, rfl, h1, h2⟩ := trodAll_cons h
    simp only [List.all_cons, Bool.and_eq_true, decide_eq_true_eq] at ht
    refine ⟨a, b, WideElems.Trod_stays hl ht.1.1 ht.1.2 h1 (fun x hx => hb.same (hlt x (List.mem_append_left _ hx))) (fun x hx => hsp x (List.mem_append_left _ hx)), ?_, rfl⟩
    exact trodAll_below hl hb ht.2 (fun x hx => hlt x (List.mem_append_right _ hx)) (fun x hx => hsp x (List.mem_append_right _ hx)) h2

theorem post_below {f : Func} {s : ChangeSpec} {apart fresh handsOn again : Bool} {W W' : World} {args : Array Value} {ds gs : List (DataW H)} {before : List MemPlace} {tb : TypeId}
    (hl : laidOutB P = true) (ht : (f.params.toList.all fun t => P.readableRec t && decide (t < P.types.size)) = true) (hr : f.resultTypes = #[tb]) (hu : P.underlying tb = some .bool) (hs : s.vars = [])
    (hfn : s.fn H (ds ++ gs) = { results := [.lit (.bool true)], args := ds }) (hW : DataW.Whole enc P f.params.toList s.vars apart W args.toList ds gs before) (hb : Below W.heap.size W W') :
    s.post enc P f apart fresh handsOn again W args (.bool true) W' := by
  have hlt := hW.lt
  have hW0 := hW
  obtain ⟨p, q, hA, hV, rfl, hz, hn⟩ := hW
  rw [hs] at hV
  obtain ⟨rfl, rfl⟩ := trodVars_none hV
  simp only [List.append_nil] at hlt hz hn hfn hW0
  have key : ∀ (b : Nat) (sp : Nat → Bool) (hd : Bool), DataW.TrodAll enc P W' b sp hd f.resultTypes.toList ((Value.bool true).resultList f.resultTypes.size) (s.fn H (ds ++ [])).results [] := by
    intro b sp hd
    simp only [List.append_nil]
    rw [hfn, hr]
    exact trodAll_cons_mk (shut_bool hu _) trodAll_mk0
  have hargs : ∀ sp : Nat → Bool, (∀ x ∈ p, sp x.block = true) → DataW.TrodAll enc P W' 0 sp true f.params.toList args.toList (s.fn H (ds ++ [])).args p := by
    intro sp hsp
    simp only [List.append_nil]
    rw [hfn]
    exact trodAll_below hl hb ht hlt hsp hA
  have hvars : ∀ sp : Nat → Bool, DataW.TrodVars enc P W' sp s.vars (s.fn H (ds ++ [])).vars [] := by
    intro sp
    simp only [List.append_nil]
    rw [hfn, hs]; exact rfl
  refine ⟨ds, [], p, [], p, [], hW0, key _ _ _, hargs _ (fun x hx => by simpa using hlt x hx), hvars _, World.keptBut_mono (fun x hx => ⟨hx, Or.inr (Or.inl hx)⟩) (hb.frame (· ∈ p)), fun _ => ?_⟩
  refine ⟨?_, _, _, ([] ++ p) ++ [], ⟨[] ++ p, [], trodAll_append (hargs _ (fun _ _ => rfl)) (key _ _ _), hvars _, rfl, ?_, ?_⟩, ?_⟩
  · exact ok_one hr rfl (okWide_bool_mk hu _)
  · intro b off hp
    have hp : MemPlace.cell b off ∈ p := by simpa using hp
    rw [hb.frozen (p := ⟨b, off, none⟩) (hlt _ hp)]
    exact hz b off hp
  · intro ha
    simpa using hn ha
  · intro x hx _
    simpa using hx

theorem VR.int {ρ : List Reg} {k : IntKind} {n : Int} : VR ρ (.c (.int k n)) (.int k n) := (rfl : (Value.int k n) = .int k n)
theorem VR.bool {ρ : List Reg} {b : Bool} : VR ρ (.c (.bool b)) (.bool b) := (rfl : (Value.bool b) = .bool b)
theorem VR.str' {ρ : List Reg} {s : ByteArray} : VR ρ (.c (.str s.data.toList)) (.string s) := by
  show Value.string s = .string ⟨s.data.toList.toArray⟩
  simp
theorem VR.str {ρ : List Reg} {s : List UInt8} : VR ρ (.c (.str s)) (.string ⟨s.toArray⟩) := (rfl : (Value.string ⟨s.toArray⟩) = .string ⟨s.toArray⟩)
end PAbs

/- The abstract heap: what is where after a block more, or a block changed. -/
namespace PAbs
open Go
set_option linter.unusedSimpArgs false
set_option linter.unusedVariables false

section
variable {H l : AHeap} {b s : Nat} {cs ds : List Cell} {x y : Blk}
theorem hown_lt (h : hown H b = some cs) : b < H.length := by
  simp only [hown] at h
  cases hb : H[b]? with
  | none => simp [hb] at h
  | some y => exact (List.getElem?_eq_some_iff.mp hb).1
theorem hcells_lt (h : hcells H b = some cs) : b < H.length := by
  simp only [hcells] at h
  cases hb : H[b]? with
  | none => simp [hb] at h
  | some y => exact (List.getElem?_eq_some_iff.mp hb).1
theorem hcells_own (h : hown H b = some cs) : hcells H b = some cs := by
  simp only [hown, hcells] at h ⊢
  split at h
  · simp_all
  · cases h
theorem hown_app_lt (hb : b < H.length) : hown (H ++ l) b = hown H b := by simp [hown, List.getElem?_append, hb]
theorem hcells_app_lt (hb : b < H.length) : hcells (H ++ l) b = hcells H b := by simp [hcells, List.getElem?_append, hb]
theorem hown_app (h : hown H b = some cs) : hown (H ++ l) b = some cs := by rw [hown_app_lt (hown_lt h)]; exact h
theorem hcells_app (h : hcells H b = some cs) : hcells (H ++ l) b = some cs := by rw [hcells_app_lt (hcells_lt h)]; exact h
theorem hown_last : hown (H ++ [.own cs]) H.length = some cs := by simp [hown]
theorem hcells_last : hcells (H ++ [.own cs]) H.length = some cs := by simp [hcells]
theorem hown_set_ne (h : s ≠ b) : hown (H.set s x) b = hown H b := by simp [hown, List.getElem?_set, h]
theorem hcells_set_ne (h : s ≠ b) : hcells (H.set s x) b = hcells H b := by simp [hcells, List.getElem?_set, h]
theorem hown_set (h : b < H.length) : hown (H.set b (.own cs)) b = some cs := by simp [hown, List.getElem?_set, h]
theorem hcells_set (h : b < H.length) : hcells (H.set b (.own cs)) b = some cs := by simp [hcells, List.getElem?_set, h]

/-- a frame, some slots of which are of no more use -/
theorem stale (fr : AFrame) (F : (Nat → AV) → AFrame) (h : fr = F (fun j => fr.getD j aundef)) : ∃ s : Nat → AV, fr = F s := ⟨_, h⟩

/-- what is kept: of blocks below the floor -/
theorem Kept.hcells {fl : Nat} {H H' : AHeap} (k : Kept fl H H') (hb : b < fl) (hb2 : b < H.length) : PAbs.hcells H' b = PAbs.hcells H b := by
  simp only [PAbs.hcells, k.2 b hb hb2]
theorem Kept.hown {fl : Nat} {H H' : AHeap} (k : Kept fl H H') (hb : b < fl) (hb2 : b < H.length) : PAbs.hown H' b = PAbs.hown H b := by
  simp only [PAbs.hown, k.2 b hb hb2]
end
end PAbs
