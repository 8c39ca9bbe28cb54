/- Generic: a string appended at a step of a region that draws; a region ahead of a post that minds where a panic lay. No program in sight. -/
import Derived.Test.YtkaafdoplemjhaaGreatDoorSessQA0
import Derived.Test.YtkaafdoplemjhaaGreatDoorSessQA2
import Derived.Lib.AppendStr
import Derived.Lib.SlBytesRow
namespace Go.Proofs.Sess
open Go Go.RowKit
variable {P : Program}

/-- What does not panic may forget what a panic would leave. -/
theorem wp_calm {c : Code} {K : Act → World → Prop} {Q : Exit → Act → World → Prop} {a : Act} {w : World} (h : c.wp P (Exit.then K (fun _ _ _ => False)) a w) : c.wp P (Exit.then K Q) a w :=
  Code.wp_mono (fun e a w h => by cases e <;> first | exact h | exact h.elim) h

/-- A string is appended to a nil slice: the new row lies in a new block. -/
theorem step_append_string_nil {ops : Array Oper} {o : Oper} {a : Act} {K : Act → World → Prop} {Q : Exit → Act → World → Prop} {E : Prop} {w : World} (hgd : o.guard = none) (sl x : Operand) (t u : TypeId)
    (ho : o.op = .call { callee := .builtin .append, args := #[sl, x], argTypes := #[t, u] })
    (e : TypeId) (i : TypeInfo) (ht : P.underlying t = some (.slice e)) (hu : P.underlying u = some .string) (hi : P.info? e = some i) (hz : i.zero = some (.int .u8 0))
    (hsize : i.size = 1) (hby : i.bytes = 1) (hs : a.eval sl = .slice none 0 0) (s : ByteArray) (hx : a.eval x = .string s) (hs0 : s.size ≠ 0) (hs1 : s.size ≤ 1000000)
    (h : ∀ g cap w', w.heap.size ≤ g → s.size ≤ cap → w'.ownsRow w.heap.size e 1 (.slice (some ⟨g, 0, none⟩) s.size cap) s.size (Lib.strCells s) → w.grownBy w' none → K (a.put o.dst (.slice (some ⟨g, 0, none⟩) s.size cap)) w') :
    if Region.wanted o (yielded ops a.tmps) = true then Oper.wp P o a w K Q else E := by
  have hw : Region.wanted o (yielded ops a.tmps) = true := by simp [Region.wanted, hgd]
  rw [if_pos hw]
  obtain ⟨v', w', hr, h2, h3, h4⟩ := Lib.run_append_own_string (P := P) w w.heap.size t u o.type e i ht hu hi hz hsize hby (.slice none 0 0) 0 [] (World.ownsRow_nil _ _ _ _) s (by unfold maxLen; omega) (by omega) (Nat.le_refl _)
  unfold Oper.wp execOp
  simp only [ho, resolve, invoke, builtin, Sem.run_bind, Sem.run_pure, Result.andThen_ok, List.map_toArray, List.map_cons, List.map_nil, hs, hx, hr]
  simp only [Nat.zero_add, List.nil_append] at h2
  have h2' := h2
  rcases h2.2 with ⟨hv, hn⟩ | ⟨g, cap, cur, hv, hb, hg, hc, _⟩
  · exact absurd hn hs0
  · subst hv
    exact h g cap w' hb hc h2' h3

/-- The bytes of an owned row. -/
theorem bytes_of_own {w : World} {base g n c : Nat} {e : TypeId} {s : ByteArray} (h : w.ownsRow base e 1 (.slice (some ⟨g, 0, none⟩) n c) s.size (Lib.strCells s)) : Lib.Bytes w g 0 s := fun i hi => by
  have hl : i < (Lib.strCells s).length := by rw [Lib.strCells_length]; exact hi
  have h1 := h.cells (g := g) rfl i _ (List.getElem?_eq_getElem hl)
  have add : (⟨g, 0, none⟩ : Addr).add i = ⟨g, 0 + i, none⟩ := by unfold Addr.add; split <;> simp_all
  rw [add] at h1
  rw [h1]
  simp [Lib.strCells]
  rfl

/-- A string is appended to a slice that is owned: the new row is the old one, or lies in a new block. -/
theorem step_append_string {ops : Array Oper} {o : Oper} {a : Act} {K : Act → World → Prop} {Q : Exit → Act → World → Prop} {E : Prop} {w : World} (hgd : o.guard = none) (sl x : Operand) (t u : TypeId)
    (ho : o.op = .call { callee := .builtin .append, args := #[sl, x], argTypes := #[t, u] })
    (e : TypeId) (i : TypeInfo) (ht : P.underlying t = some (.slice e)) (hu : P.underlying u = some .string) (hi : P.info? e = some i) (hz : i.zero = some (.int .u8 0))
    (hsize : i.size = 1) (hby : i.bytes = 1) (v : Value) (n : Nat) (xs : List Value) (hown : w.ownsRow 0 e 1 v n xs) (hs : a.eval sl = v) (s : ByteArray) (hx : a.eval x = .string s) (hs0 : s.size ≠ 0) (hs1 : n + s.size ≤ 1000000)
    (h : ∀ g cap w', w'.ownsRow 0 e 1 (.slice (some ⟨g, 0, none⟩) (n + s.size) cap) (n + s.size) (xs ++ Lib.strCells s) → w.grownBy w' v.ownBlock → (v.ownBlock = some g ∨ w.heap.size ≤ g) → K (a.put o.dst (.slice (some ⟨g, 0, none⟩) (n + s.size) cap)) w') :
    if Region.wanted o (yielded ops a.tmps) = true then Oper.wp P o a w K Q else E := by
  have hw : Region.wanted o (yielded ops a.tmps) = true := by simp [Region.wanted, hgd]
  rw [if_pos hw]
  obtain ⟨v', w', hr, h2, h3, h4⟩ := Lib.run_append_own_string (P := P) w 0 t u o.type e i ht hu hi hz hsize hby v n xs hown s (by unfold maxLen; omega) (by omega) (Nat.zero_le _)
  unfold Oper.wp execOp
  simp only [ho, resolve, invoke, builtin, Sem.run_bind, Sem.run_pure, Result.andThen_ok, List.map_toArray, List.map_cons, List.map_nil, hs, hx, hr]
  have h2' := h2
  rcases h2.2 with ⟨hv, hn⟩ | ⟨g, cap, cur, hv, hb, hg, hc, _⟩
  · omega
  · subst hv
    refine h g cap w' h2' h3 ?_
    rcases Nat.lt_or_ge g w.heap.size with hlt | hge
    · rcases hown.2 with ⟨hv, hn⟩ | ⟨g0, cap0, cur0, hv0, _, hg0, hrest⟩
      · exfalso
        subst hv
        have hnn := Lib.run_append_own_string (P := P) w w.heap.size t u o.type e i ht hu hi hz hsize hby (.slice none 0 0) n xs ⟨hown.1, .inl ⟨rfl, hn⟩⟩ s (by unfold maxLen; omega) (by omega) (Nat.le_refl _)
        obtain ⟨v2, w2, hr2, k2, _⟩ := hnn
        rw [hr] at hr2
        cases hr2
        rcases k2.2 with ⟨hv, _⟩ | ⟨g2, _, _, hv2, hb2, _⟩
        · cases hv
        · cases hv2; omega
      · left
        subst hv0
        have hg1 : g0 = g := by
          by_cases hroom : n + s.size ≤ cap0
          · skip
            have hcs' : cur0.size = cap0 := by simpa using hrest.2.2.1
            have hr3 := Lib.run_append_room_string (P := P) w t u o.type e i ht hu hi hsize g0 n cap0 cur0 hg0 s hroom (by omega)
            rw [hr] at hr3
            cases hr3
            rfl
          · exfalso
            have hxl : xs.length = n := by simpa using hown.1
            have holds : ∀ j u, xs[j]? = some u → w.cell? ((⟨g0, 0, none⟩ : Addr).add j) = some u := hown.cells (g := g0) rfl
            have hr3 := Lib.run_append_grow_string (P := P) w t u o.type e i (.int .u8 0) ht hu hi hz ⟨g0, 0, none⟩ n cap0 xs (by rw [hsize]; simpa using hxl) holds s (by omega) (by omega) (by rw [hby]; exact growslice_fits (by omega) (by omega))
            rw [hr] at hr3
            cases hr3
            omega
        rw [hg1]; rfl
    · exact .inr hge

end Go.Proofs.Sess
