/- Each operation of the abstract machine, against the model's own: len, append, copy, max, min; and all of them together. -/
import Derived.Test.YtebccciodmlikaaOps5
namespace PAbs
open Go Go.RowKit
set_option linter.unusedSimpArgs false
set_option linter.unusedVariables false

section steps
variable {P : Program} {o : Oper} {a : Act} {base fl : Nat} {ρ : List Reg} {H H' : AHeap} {w : World} {fr : AFrame} {v : AV}

theorem invoke_builtin {b : Builtin} {args : Array Operand} {ts : Array TypeId} {u : Value} {w' : World} (ho : o.op = .call { callee := .builtin b, args := args, argTypes := ts }) (hb : b = .len ∨ b = .append ∨ b = .copy ∨ b = .max ∨ b = .min)
    (h : ((match b with | .len => Builtin.len_ ts o.type (args.map a.eval) | .append => Builtin.append_ ts o.type (args.map a.eval) | .copy => Builtin.copy_ ts o.type (args.map a.eval) | .max => Builtin.max_ ts o.type (args.map a.eval) | _ => Builtin.min_ ts o.type (args.map a.eval)) : Sem Value).run P w = .ok u w') :
    (execOp a.eval o).run P w = .ok (.value u) w' := by
  rcases hb with rfl | rfl | rfl | rfl | rfl <;> simp only [execOp, ho, resolve, Sem.run_bind, Sem.run_pure, Result.andThen_ok, invoke, builtin] <;> simp only at h <;> rw [h] <;> rfl

theorem st_len (hH : HR base ρ H w) (hF : FR ρ fr a.tmps) {t : TypeId} {st : Bool} {x : Operand} {y : AOpd} (ho : o.op = .call { callee := .builtin .len, args := #[x], argTypes := #[t] }) (hx : absOpd x = some y) (hu : (st = true ∧ P.underlying t = some .string) ∨ (st = false ∧ ∃ e, P.underlying t = some (.slice e)))
    (h : stepA fl H (·.ev fr) (.len st y) = some (v, H')) : Stepped P o a base ρ w v H' := by
  have hvx := absOpd_VR hF hx
  simp only [stepA] at h
  split at h
  · rename_i s e1
    rw [e1] at hvx
    have hvx : a.eval x = .string ⟨s.toArray⟩ := hvx
    simp at h
    obtain ⟨rfl, rfl⟩ := h
    rcases hu with ⟨_, hu⟩ | ⟨h0, _⟩
    · refine Stepped.pure hH (u := .int .i64 s.length) (invoke_builtin ho (.inl rfl) ?_) rfl
      simp [Builtin.len_, run_underlying hu, hvx, mk_size, goInt]
    · cases h0
  · rename_i e1
    rw [e1] at hvx
    have hvx : a.eval x = .slice none 0 0 := hvx
    simp at h
    obtain ⟨rfl, rfl⟩ := h
    rcases hu with ⟨h0, _⟩ | ⟨_, e, hu⟩
    · cases h0
    · refine Stepped.pure hH (u := .int .i64 0) (invoke_builtin ho (.inl rfl) ?_) rfl
      simp [Builtin.len_, run_underlying hu, hvx, goInt]
  · rename_i b off n sz e1
    rw [e1] at hvx
    cases hc : hcells H b with
    | none => rw [hc] at h; cases h
    | some cs =>
      rw [hc] at h; simp at h
      obtain ⟨rfl, rfl⟩ := h
      rcases hu with ⟨h0, _⟩ | ⟨_, e, hu⟩
      · cases h0
      · refine Stepped.pure hH (u := .int .i64 n) (invoke_builtin ho (.inl rfl) ?_) rfl
        rcases hH.at_slc hc hvx with ⟨g, f, c, k, _, hu', _⟩ | ⟨h0, ad, hu'⟩
        · simp [Builtin.len_, run_underlying hu, hu', goInt]
        · subst h0; simp [Builtin.len_, run_underlying hu, hu', goInt]
  · cases h

theorem st_lenK (hH : HR base ρ H w) {t e : TypeId} {n : Nat} {x : Operand} (ho : o.op = .call { callee := .builtin .len, args := #[x], argTypes := #[t] }) (hu : P.underlying t = some (.array n e) ∨ ∃ t', P.underlying t = some (.pointer t') ∧ P.underlying t' = some (.array n e))
    (h : stepA fl H (·.ev fr) (.lenK n) = some (v, H')) : Stepped P o a base ρ w v H' := by
  simp [stepA] at h
  obtain ⟨rfl, rfl⟩ := h
  refine Stepped.pure hH (u := .int .i64 n) (invoke_builtin ho (.inl rfl) ?_) rfl
  rcases hu with hu | ⟨t', hu, hut⟩
  · simp [Builtin.len_, run_underlying hu, goInt]
  · simp [Builtin.len_, run_underlying hu, run_underlying hut, goInt]

/-! ### append -/
theorem append_grow {t u e ty : TypeId} {i : TypeInfo} {z : Value} (ht : P.underlying t = some (.slice e)) (hut : (∃ e', P.underlying u = some (.slice e')) ∨ P.underlying u = some .string) (hi : P.info? e = some i) (hz : i.zero = some z)
    {b : Option Addr} {sLen sCap n : Nat} {x : Value} {olds news : List Value} (hlen : (Builtin.lenOf x).run P w = .ok n w)
    (ho : (Builtin.firstCells i.size sLen (.slice b sLen sCap)).run P w.drew = .ok olds.toArray w.drew) (hn : (Builtin.firstCells i.size n x).run P w.drew = .ok news.toArray w.drew)
    (hg : sCap < sLen + n) (hb : (sLen + n) * i.bytes ≤ 140737488355328) (hbytes : 0 < i.bytes) :
    (Builtin.append_ #[t, u] ty #[.slice b sLen sCap, x]).run P w =
      .ok (.slice (some ⟨w.heap.size, 0, none⟩) (sLen + n) (grownCap w (sLen + n) sCap e)) (w.drew.alloc (.cells (olds.toArray ++ news.toArray ++ Builtin.zeroCells z.cells (grownCap w (sLen + n) sCap e - (sLen + n))) e)) := by
  have h1 : ¬ (sLen + n ≤ sCap) := by omega
  have h63 : sLen + n ≤ 140737488355328 := Nat.le_trans (Nat.le_mul_of_pos_right _ hbytes) hb
  have h63' : ¬ (9223372036854775807 < ((sLen : Int) + (n : Int))) := by omega
  have h48 := growslice_fits (old := sCap) (by omega) hb
  have h48' : ¬ (281474976710656 < Builtin.nextslicecap (sLen + n) sCap * i.bytes) := by omega
  have hzs : (underlying u).run P w = .ok (match P.underlying u with | some d => d | none => .invalid) w := by
    rcases hut with ⟨e', hu⟩ | hu <;> simp [run_underlying hu, hu]
  have ho' : Sem.run P (Builtin.firstCells i.size sLen (Value.slice b sLen sCap)) (w.drew) = Result.ok olds.toArray (w.drew) := ho
  rcases hut with ⟨e', hu⟩ | hu <;>
    simp [Builtin.append_, run_underlying ht, run_underlying hu, Go.sizeOf, typeInfo, zeroValue, hi, hz, hlen, h1, h63', h48', Question.forced, ho, hn, newRow, grownCap] <;> (congr 2; apply Array.ext'; simp)

theorem append_room {t u e ty : TypeId} {i : TypeInfo} (ht : P.underlying t = some (.slice e)) (hut : (∃ e', P.underlying u = some (.slice e')) ∨ P.underlying u = some .string) (hi : P.info? e = some i)
    {b : Option Addr} {sLen sCap n : Nat} {x : Value} {news : List Value} {w' : World} (hlen : (Builtin.lenOf x).run P w = .ok n w)
    (hn : (Builtin.firstCells i.size n x).run P w = .ok news.toArray w) (hg : sLen + n ≤ sCap)
    (hst : match b with | some ad => (storeCells (ad.add (sLen * i.size)) news).run P w = .ok () w' | none => w' = w) :
    (Builtin.append_ #[t, u] ty #[.slice b sLen sCap, x]).run P w = .ok (.slice b (sLen + n) sCap) w' := by
  cases b with
  | none =>
    simp only at hst; subst hst
    rcases hut with ⟨e', hu⟩ | hu <;>
      simp [Builtin.append_, run_underlying ht, run_underlying hu, Go.sizeOf, typeInfo, hi, hlen, hg, hn]
  | some ad =>
    simp only at hst
    rcases hut with ⟨e', hu⟩ | hu <;>
      simp [Builtin.append_, run_underlying ht, run_underlying hu, Go.sizeOf, typeInfo, hi, hlen, hg, hn, hst]

/-- the block that a growing append makes -/
theorem grown_sound (hH : HR base ρ H w) {olds news : List Cell} {lo ln : List Value} {z : Value} {e : TypeId} {n k sz : Nat} (ho : L2 (CR ρ) olds lo) (hn : L2 (CR ρ) news ln) (hz : z.cells.size = sz) (hlen : olds.length + news.length = n * sz) (hk : n ≤ k) :
    HR base (ρ ++ [.at w.heap.size 0 (k * sz)]) (H ++ [.own (olds ++ news)]) (w.drew.alloc (.cells (lo.toArray ++ ln.toArray ++ Builtin.zeroCells z.cells (k - n)) e)) := by
  have hsz : (lo.toArray ++ ln.toArray ++ Builtin.zeroCells z.cells (k - n)).size = k * sz := by
    simp only [Array.size_append, List.size_toArray, size_zeroCells, hz, ← ho.1, ← hn.1, hlen, ← Nat.add_mul]
    congr 1; omega
  have hle : n * sz ≤ k * sz := Nat.mul_le_mul_right _ hk
  have := hH.drew.push (arr := lo.toArray ++ ln.toArray ++ Builtin.zeroCells z.cells (k - n)) (ty := e) (fz := (0, 0)) (cs := olds ++ news) (c := k * sz) (fun o _ h => by omega) (by omega) (by rw [List.length_append]; omega) (fun i x hx => by
    obtain ⟨y, hy, hR⟩ := (ho.append hn).2 i x hx
    refine ⟨y, ?_, hR⟩
    have hlt := (List.getElem?_eq_some_iff.1 hy).1
    rw [Nat.zero_add, Array.getElem?_append_left (by simpa using hlt), List.append_toArray, List.getElem?_toArray]
    exact hy)
  exact this

theorem st_append (hH : HR base ρ H w) (hF : FR ρ fr a.tmps) {t u e : TypeId} {zc : List Cell} {bytes : Nat} {s x : Operand} {y q : AOpd} (hop : o.op = .call { callee := .builtin .append, args := #[s, x], argTypes := #[t, u] }) (hs : absOpd s = some y) (hx : absOpd x = some q)
    (ht : P.underlying t = some (.slice e)) (hut : (∃ e', P.underlying u = some (.slice e')) ∨ P.underlying u = some .string) (hzero : zeroE P e = some zc) (hb : bytesT P e = some bytes)
    (h : stepA fl H (·.ev fr) (.append zc bytes y q) = some (v, H')) : Stepped P o a base ρ w v H' := by
  have hvs := absOpd_VR hF hs
  have hvx := absOpd_VR hF hx
  obtain ⟨hzero, hz0⟩ := zeroE_zeroA hzero
  obtain ⟨i, zv, hi, hzv, hzl, hL⟩ := zeroA_info hzero
  obtain ⟨i', hi', hbi, hb0⟩ := bytesT_info hb
  rw [hi] at hi'
  injection hi' with hi'
  subst hi'
  have hzs : zv.cells.size = zc.length := by have := (hL ρ).1; simpa using this.symm
  simp only [stepA, appendA] at h
  split at h
  · cases h
  · rename_i news hnews
    obtain ⟨ln, m, hLn, hlen, hlenOf, hfc, hfcm, _⟩ := sliceCells_run (P := P) (size := i.size) hH hvx hnews hzl.symm hz0
    have hnl : news.length = m * zc.length := by rw [hLn.1, hlen, hzl]
    have hdiv : news.length / zc.length = m := by rw [hnl]; exact Nat.mul_div_cancel _ hz0
    have hmm : #[s, x].map a.eval = #[a.eval s, a.eval x] := by simp
    split at h
    · -- nil
      rename_i e1
      rw [e1] at hvs
      have hvs : a.eval s = .slice none 0 0 := hvs
      split at h
      · rename_i hbb
        simp at h
        obtain ⟨rfl, rfl⟩ := h
        rw [hdiv]
        by_cases hm0 : m = 0
        · subst hm0
          have hn0 : news = [] := List.eq_nil_of_length_eq_zero (by omega)
          subst hn0
          refine ⟨.slice none 0 0, w, ρ ++ [.empty], .inl (invoke_builtin hop (.inr (.inl rfl)) ?_), hH.push_empty, RExt.push ρ _, ?_, Below.refl _ _⟩
          · rw [hmm, hvs]
            exact append_room ht hut hi hlenOf (hfc w fun _ _ => rfl) (by omega) rfl
          · simp [VR, CR, ← hH.len]
        · have hrun := append_grow (ty := o.type) (w := w) (b := none) (sLen := 0) (sCap := 0) (olds := []) ht hut hi hzv hlenOf (by simp [Builtin.firstCells]) (hfc w.drew fun _ _ => rfl) (by omega) (by
            rw [hbi, Nat.zero_add]
            have : m ≤ news.length := by rw [hnl]; exact Nat.le_mul_of_pos_right _ hz0
            exact Nat.le_trans (Nat.mul_le_mul_right _ this) hbb) (by omega)
          have hge := grownCap_ge w (0 + m) 0 e
          have hH' := grown_sound (e := e) (k := grownCap w (0 + m) 0 e) (n := 0 + m) hH (L2.nil (R := CR ρ)) hLn hzs (by simp [hnl]) hge
          refine ⟨_, _, _, .inl (invoke_builtin hop (.inr (.inl rfl)) (by rw [hmm, hvs]; exact hrun)), hH', RExt.push ρ _, ?_, (Below.refl _ _).drew.alloc (by simpa using hH.base_le) _⟩
          have := slc_new ρ H hH.len w.heap.size (grownCap w (0 + m) 0 e * zc.length) (0 + m) (grownCap w (0 + m) 0 e) zc.length hge (Nat.le_refl _)
          simpa using this
      · cases h
    · -- a block of the call's own
      rename_i b off n sz e1
      rw [e1] at hvs
      split at h
      · rename_i cs hcs
        have hcs := hown_some hcs
        split at h
        · rename_i hcond
          obtain ⟨hfl, rfl, hend, hbb⟩ := hcond
          simp at h
          obtain ⟨rfl, rfl⟩ := h
          rw [hdiv]
          have hbig : (n + m) * bytes ≤ 140737488355328 := by
            have h1 : n ≤ n * zc.length := Nat.le_mul_of_pos_right _ hz0
            have h2 : m ≤ news.length := by rw [hnl]; exact Nat.le_mul_of_pos_right _ hz0
            exact Nat.le_trans (Nat.mul_le_mul_right _ (by omega)) hbb
          have hkill := hH.kill b
          have hcl : (cs.drop off).length = n * zc.length := by rw [List.length_drop]; omega
          have hvnew : ∀ (g c n k : Nat), n ≤ k → k * zc.length ≤ c → VR (ρ.set b .dead ++ [.at g 0 c]) (.c (.slc H.length 0 n zc.length)) (.slice (some ⟨g, 0, none⟩) n k) := fun g c n k h1 h2 => by
            have := slc_new (ρ.set b .dead) (H.set b .dead) hkill.len g c n k zc.length h1 h2
            simpa using this
          -- growing
          have grow : ∀ (ad : Option Addr) (k : Nat) (lo : List Value), a.eval s = .slice ad n k → L2 (CR ρ) (cs.drop off) lo → (Builtin.firstCells i.size n (.slice ad n k)).run P w.drew = .ok lo.toArray w.drew → k < n + m →
              Stepped P o a base ρ w (.c (.slc H.length 0 (n + m) zc.length)) (H.set b .dead ++ [.own (cs.drop off ++ news)]) := fun ad k lo hsv hlo hfo hk => by
            have hrun := append_grow (ty := o.type) (w := w) ht hut hi hzv hlenOf hfo (hfc w.drew fun _ _ => rfl) hk (by rw [hbi]; exact hbig) (by omega)
            have hge := grownCap_ge w (n + m) k e
            have hH' := grown_sound (e := e) (k := grownCap w (n + m) k e) (n := n + m) hkill (hlo.mono fun _ _ h => h.ext (RExt.kill ρ b)) (hLn.mono fun _ _ h => h.ext (RExt.kill ρ b)) hzs (by rw [hcl, hnl, Nat.add_mul]) hge
            exact ⟨_, _, _, .inl (invoke_builtin hop (.inr (.inl rfl)) (by rw [hmm, hsv]; exact hrun)), hH', (RExt.kill ρ b).trans (RExt.push _ _), hvnew _ _ _ _ hge (Nat.le_refl _), (Below.refl _ _).drew.alloc (by simpa using hH.base_le) _⟩
          -- nothing there, nothing comes
          have still : ∀ (ad : Option Addr), a.eval s = .slice ad 0 0 → n = 0 → Stepped P o a base ρ w (.c (.slc H.length 0 (n + m) zc.length)) (H.set b .dead ++ [.own (cs.drop off ++ news)]) := fun ad hsv hn0 => by
            subst hn0
            have hcd : cs.drop off = [] := List.eq_nil_of_length_eq_zero (by omega)
            by_cases hm0 : m = 0
            · subst hm0
              have hn0 : news = [] := List.eq_nil_of_length_eq_zero (by omega)
              subst hn0
              have hl0 : ln = [] := List.eq_nil_of_length_eq_zero (by rw [hlen]; omega)
              subst hl0
              refine ⟨.slice ad 0 0, w, ρ.set b .dead ++ [.empty], .inl (invoke_builtin hop (.inr (.inl rfl)) ?_), ?_, (RExt.kill ρ b).trans (RExt.push _ _), ?_, Below.refl _ _⟩
              · rw [hmm, hsv]
                exact append_room ht hut hi hlenOf (hfc w fun _ _ => rfl) (by omega) (by cases ad <;> simp [storeCells])
              · rw [hcd]; exact hkill.push_empty
              · simp [VR, CR, ← hH.len]
            · exact grow ad 0 [] hsv (by rw [hcd]; exact L2.nil) (by cases ad <;> simp [Builtin.firstCells, loadCells, loadCellsFrom]) (by omega)
          rcases hH.at_slc (hown_hcells hcs) hvs with ⟨g, f, c, k, hr, hsv, hnk, hkc, arr, ty, fz, hg, hh⟩ | ⟨hn0, ad, hsv⟩
          · by_cases hroom : n + m ≤ k
            · -- room
              have hB := hH.blk b _ _ hcs hr
              simp only [BR] at hB
              obtain ⟨hbase, arr', ty', fz', hg', hz', hfc', hcl', hh'⟩ := hB
              have hmk : (n + m) * zc.length ≤ k * zc.length := Nat.mul_le_mul_right _ hroom
              rw [Nat.add_mul] at hmk
              have hst := run_storeCells_thawed P g (f + cs.length) ty' fz' ln 0 arr' w hg' hz' (by have := hLn.1; omega) hLn.one
              have hH' := hH.moved (o := off) (m := k * zc.length) hcs hr hg' hLn (by omega) (by rw [hnl]; omega) hkc
              refine ⟨.slice (some ⟨g, f + off, none⟩) (n + m) k, _, _, .inl (invoke_builtin hop (.inr (.inl rfl)) ?_), hH', (RExt.kill ρ b).trans (RExt.push _ _), ?_, below_setRow (Below.refl _ _) hbase _⟩
              · rw [hmm, hsv]
                refine append_room ht hut hi hlenOf (hfc w fun _ _ => rfl) hroom ?_
                simp only [addr_add, ← hzl]
                rw [show f + off + n * zc.length = f + cs.length by omega]
                exact hst
              · simp [VR, CR, ← hH.len]
                exact .inl hroom
            · -- no room
              obtain ⟨lo, hlo, hll, hcell⟩ := hH.reads (o := off) (n := n * zc.length) hr hg hh (by omega)
              have htk : (cs.drop off).take (n * zc.length) = cs.drop off := List.take_of_length_le (by omega)
              rw [htk] at hlo
              refine grow _ k lo hsv hlo ?_ (by omega)
              exact run_firstCells_some w.drew i.size n _ n k lo (by rw [hll, hzl]) hcell
          · exact still ad hsv hn0
        · cases h
      · cases h
    · cases h
theorem set_self {α : Type} {l : List α} {b : Nat} {x : α} (h : l[b]? = some x) : l.set b x = l := by
  apply List.ext_getElem?
  intro i
  rw [List.getElem?_set]
  by_cases hb : b = i
  · subst hb; rw [if_pos rfl, if_pos (List.getElem?_eq_some_iff.1 h).1, h]
  · rw [if_neg hb]

theorem st_copy (hH : HR base ρ H w) (hF : FR ρ fr a.tmps) {t e : TypeId} {ts : List TypeId} {sz : Nat} {d s : Operand} {y q : AOpd} (hop : o.op = .call { callee := .builtin .copy, args := #[d, s], argTypes := (t :: ts).toArray }) (hd : absOpd d = some y) (hs : absOpd s = some q)
    (ht : P.underlying t = some (.slice e)) (hsz : sizeT P e = some sz) (hp : 0 < sz)
    (h : stepA fl H (·.ev fr) (.copy sz y q) = some (v, H')) : Stepped P o a base ρ w v H' := by
  have hvd := absOpd_VR hF hd
  have hvs := absOpd_VR hF hs
  simp only [stepA] at h
  split at h
  · rename_i b off n sz' m cs e1 e2 e3
    rw [e1] at hvd
    split at h
    · rename_i hz
      subst hz
      cases hw : writeN fl H b off (cs.take (min m n * sz')) with
      | none => rw [hw] at h; cases h
      | some H1 =>
        rw [hw] at h
        simp at h
        obtain ⟨rfl, rfl⟩ := h
        obtain ⟨bs, hb, hle, rfl⟩ := writeN_own hw
        obtain ⟨l, m', hL, hlen, hlenOf, _, hfc, hlenA⟩ := sliceCells_run (P := P) (size := sz') hH hvs e3 rfl hp
        rw [e2] at hlenA
        injection hlenA with hm
        subst hm
        have hmin : Nat.min m n = min m n := rfl
        have hL2 : L2 (CR ρ) (cs.take (min m n * sz')) (l.take (min m n * sz')) := hL.take _
        have hfcn := hfc (min m n) (Nat.min_le_left _ _)
        have hmm : #[d, s].map a.eval = #[a.eval d, a.eval s] := by simp
        rcases hH.at_slc (hown_hcells hb) hvd with ⟨g, f, c, k, hr, hu', _⟩ | ⟨hn0, ad, hu'⟩
        · obtain ⟨w', hrun, hH', hB⟩ := write_run (P := P) hH hb hle hr hL2
          refine ⟨.int .i64 (min m n : Nat), w', ρ, .inl (invoke_builtin hop (.inr (.inr (.inl rfl))) ?_), hH', RExt.refl ρ, ?_, hB⟩
          · rw [hmm, hu']
            simp [Builtin.copy_, run_underlying ht, hlenOf, run_sizeOf hsz, hmin, hfcn, hrun, goInt]
          · simp [i64, VR, CR]
        · subst hn0
          have hmin0 : min m 0 = 0 := Nat.min_zero m
          rw [hmin0] at hL2 hfcn hle ⊢
          simp only [Nat.zero_mul, List.take_zero] at hL2 hfcn hle ⊢
          have hset : H.set b (.own (bs.take off ++ [] ++ bs.drop (off + ([] : List Cell).length))) = H := by
            simp only [List.append_nil, List.length_nil, Nat.add_zero, List.take_append_drop]
            exact set_self hb
          rw [hset]
          refine Stepped.pure hH (u := .int .i64 0) (invoke_builtin hop (.inr (.inr (.inl rfl))) ?_) (by simp [i64, VR, CR])
          rw [hmm, hu']
          cases ad <;> simp [Builtin.copy_, run_underlying ht, hlenOf, run_sizeOf hsz, hfcn, goInt, storeCells]
    · cases h
  · cases h

theorem fold_run {f : AV → AV → Option AV} {g : Value → Value → Sem Value} (hfg : ∀ x y z u v, f x y = some z → VR ρ x u → VR ρ y v → ∃ r, (g u v).run P w = .ok r w ∧ VR ρ z r) :
    ∀ (xs : List AV) (vs : List Value) (x : AV) (u : Value) (z : AV), L2 (VR ρ) xs vs → VR ρ x u → foldA f x xs = some z → ∃ r, (vs.foldlM g u).run P w = .ok r w ∧ VR ρ z r
  | [], vs, x, u, z, hL, hx, h => by
    have : vs = [] := List.eq_nil_of_length_eq_zero hL.1.symm
    subst this
    simp [foldA] at h; subst h
    exact ⟨u, by simp, hx⟩
  | y :: r, vs, x, u, z, hL, hx, h => by
    cases vs with
    | nil => have := hL.1; simp at this
    | cons v vs =>
      simp only [foldA] at h
      split at h
      · rename_i b hb
        obtain ⟨v', hv', hR⟩ := hL.2 0 y rfl
        simp at hv'; subst hv'
        obtain ⟨r', hr', hVr⟩ := hfg _ _ _ _ _ hb hx hR
        have hL' : L2 (VR ρ) r vs := ⟨by have := hL.1; simpa using this, fun i z hz => by simpa using hL.2 (i + 1) z (by simpa using hz)⟩
        obtain ⟨r2, hr2, hV2⟩ := fold_run hfg r vs b r' z hL' hVr h
        exact ⟨r2, by simp [List.foldlM_cons, hr', hr2], hV2⟩
      · cases h

theorem max_run (x y z : AV) (u v : Value) (h : maxA x y = some z) (hx : VR ρ x u) (hy : VR ρ y v) : ∃ r, (Builtin.max2 u v).run P w = .ok r w ∧ VR ρ z r := by
  unfold maxA at h
  split at h
  · rename_i k a k' b
    split at h
    · rename_i hk
      subst hk
      simp at h; subst h
      have hx : u = .int k a := hx
      have hy : v = .int k b := hy
      subst hx hy
      exact ⟨_, by simp [Builtin.max2], rfl⟩
    · cases h
  · cases h
theorem min_run (x y z : AV) (u v : Value) (h : minA x y = some z) (hx : VR ρ x u) (hy : VR ρ y v) : ∃ r, (Builtin.min2 u v).run P w = .ok r w ∧ VR ρ z r := by
  unfold minA at h
  split at h
  · rename_i k a k' b
    split at h
    · rename_i hk
      subst hk
      simp at h; subst h
      have hx : u = .int k a := hx
      have hy : v = .int k b := hy
      subst hx hy
      exact ⟨_, by simp [Builtin.min2], rfl⟩
    · cases h
  · cases h

theorem st_max (hH : HR base ρ H w) (hF : FR ρ fr a.tmps) {args : Array Operand} {ts : Array TypeId} {as : List AOpd} (hop : o.op = .call { callee := .builtin .max, args := args, argTypes := ts }) (has : optMap absOpd args.toList = some as)
    (h : stepA fl H (·.ev fr) (.max as) = some (v, H')) : Stepped P o a base ρ w v H' := by
  have hL := absOpd_evs hF has
  simp only [stepA] at h
  split at h
  · rename_i x r hxr
    cases hf : foldA maxA x r with
    | none => rw [hf] at h; cases h
    | some z =>
      rw [hf] at h; simp at h
      obtain ⟨rfl, rfl⟩ := h
      rw [hxr] at hL
      cases hvs : args.toList.map a.eval with
      | nil => rw [hvs] at hL; have := hL.1; simp at this
      | cons u vs =>
        rw [hvs] at hL
        obtain ⟨u', hu', hR⟩ := hL.2 0 x rfl
        simp at hu'; subst hu'
        have hL' : L2 (VR ρ) r vs := ⟨by have := hL.1; simpa using this, fun i z hz => by simpa using hL.2 (i + 1) z (by simpa using hz)⟩
        obtain ⟨q, hq, hV⟩ := fold_run (P := P) (w := w) (fun x y z u v => max_run x y z u v) r vs x u z hL' hR hf
        refine Stepped.pure hH (u := q) (invoke_builtin hop (.inr (.inr (.inr (.inl rfl)))) ?_) hV
        simp only [Builtin.max_, Array.toList_map, hvs]
        exact hq
  · cases h
theorem st_min (hH : HR base ρ H w) (hF : FR ρ fr a.tmps) {args : Array Operand} {ts : Array TypeId} {as : List AOpd} (hop : o.op = .call { callee := .builtin .min, args := args, argTypes := ts }) (has : optMap absOpd args.toList = some as)
    (h : stepA fl H (·.ev fr) (.min as) = some (v, H')) : Stepped P o a base ρ w v H' := by
  have hL := absOpd_evs hF has
  simp only [stepA] at h
  split at h
  · rename_i x r hxr
    cases hf : foldA minA x r with
    | none => rw [hf] at h; cases h
    | some z =>
      rw [hf] at h; simp at h
      obtain ⟨rfl, rfl⟩ := h
      rw [hxr] at hL
      cases hvs : args.toList.map a.eval with
      | nil => rw [hvs] at hL; have := hL.1; simp at this
      | cons u vs =>
        rw [hvs] at hL
        obtain ⟨u', hu', hR⟩ := hL.2 0 x rfl
        simp at hu'; subst hu'
        have hL' : L2 (VR ρ) r vs := ⟨by have := hL.1; simpa using this, fun i z hz => by simpa using hL.2 (i + 1) z (by simpa using hz)⟩
        obtain ⟨q, hq, hV⟩ := fold_run (P := P) (w := w) (fun x y z u v => min_run x y z u v) r vs x u z hL' hR hf
        refine Stepped.pure hH (u := q) (invoke_builtin hop (.inr (.inr (.inr (.inr rfl)))) ?_) hV
        simp only [Builtin.min_, Array.toList_map, hvs]
        exact hq
  · cases h
end steps
end PAbs
