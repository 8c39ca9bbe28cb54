/- SessionDatagrams' row: the arguments opened, the law behind, shut again. -/
import Derived.Test.YtkaafdoplemjhaaGreatDoorSessRa
import Derived.Test.YtkaafdoplemjhaaGreatDoorSessQC3
import Derived.Lib.SmallJoins
import Derived.Deep.Slices
import Derived.Deep.Fields
import Derived.SliceStrings
import Derived.DataReads
namespace Go.Proofs.YtkaafdoplemjhaaGreatDoor
open Go.ChangeShapes Go.WideShapes Go.ChangeAt Go.RowKit Go.Joins Go.Deep Go

theorem flat_of {a : Addr} (h : a.spot = none) : ∃ g o, a = ⟨g, o, none⟩ := by
  obtain ⟨g, o, s⟩ := a
  exact ⟨g, o, by simp at h; rw [h]⟩
theorem first_flat {w : World} {a : Addr} {t : TypeId} {p : List Value → Prop} (h : ∃ cs, w.cells? 0 (a.add (0 * Tryz.prog.cellsOf t)) (Tryz.prog.cellsOf t) = some cs ∧ p cs) (hp : decide (0 < Tryz.prog.cellsOf t) = true) : a.spot = none := by
  obtain ⟨cs, hc, _⟩ := h
  obtain ⟨_, hlen, hcell⟩ := World.cells?_some hc
  have h0 := hcell 0 (of_decide_eq_true hp)
  rw [Nat.zero_mul, Sess.add_zero_addr, Sess.add_zero_addr, List.getElem?_eq_getElem (by rw [hlen]; exact of_decide_eq_true hp)] at h0
  exact Sess.spot_none h0
/-- The fields of a struct that lies cell by cell, each read by itself. -/
theorem fields_at {H : Type} {enc : TypeId × Value → H} {w : World} {base : Nat} {spare : Nat → Bool} {held : Bool} {fuel : Nat} {t : TypeId} {fs : Array Field} {a : Addr} {cs : List Value} {x : DataW H × List MemPlace}
    (hs : Tryz.prog.underlying t = some (.struct fs)) (hone : oneCellFields Tryz.prog fs = true) (hc : w.cells? base a fs.size = some cs) (h : DataW.trod enc Tryz.prog w base spare held fuel t cs = some x) :
    ∃ n, ∀ (i : Nat) (f : Field), fs[i]? = some f → ∃ v y, w.cell? (a.add i) = some v ∧ DataW.trod enc Tryz.prog w base spare held n f.type [v] = some y := by
  obtain ⟨_, hlen, hcell⟩ := World.cells?_some hc
  obtain ⟨xs, n, _, _, _, hxl, hg⟩ := DataW.trod_struct hs h
  refine ⟨n, fun i f hf => ?_⟩
  have hi : i < fs.size := (Array.getElem?_eq_some_iff.1 hf).1
  obtain ⟨ho, h1⟩ := hone_of hone i f hf
  have h2 := hg i f hf
  rw [ho, h1, List.getElem?_eq_getElem (show i < xs.length by omega)] at h2
  have hil : i < cs.length := by omega
  refine ⟨cs[i], xs[i], by rw [hcell i hi, List.getElem?_eq_getElem hil], ?_⟩
  rw [show (cs.drop i).take 1 = [cs[i]] by rw [List.drop_eq_getElem_cons hil, List.take_succ_cons, List.take_zero]] at h2
  exact h2

set_option maxRecDepth 100000 in
/-- The calls, as they come in. -/
theorem open_calls {H : Type} {enc : TypeId × Value → H} {w : World} {fuel : Nat} {cs : List Value} {x : DataW H × List MemPlace} (h : DataW.trod enc Tryz.prog w 0 (fun _ => true) true fuel 27 cs = some x) :
    ∃ (la : Option Addr) (ln lc : Nat) (cl : Nat → Sess.CallW), cs = [.slice la ln lc] ∧ Sess.CallsAt w la ln cl := by
  rcases open_slice Tryz.underlying27 h with ⟨rfl, _⟩ | ⟨a, len, cap, m, n, D, Pl, rfl, _, hl, _, hm, _, he⟩
  · exact ⟨none, 0, 0, fun _ => ⟨0, 0, 0, 0, .empty⟩, rfl, fun i hi => absurd hi (by omega)⟩
  · have hone : ∀ i, i < len → ∃ c : Sess.CallW, ∃ g o, a = ⟨g, o, none⟩ ∧ w.cell? ⟨g, o + i * 5, none⟩ = some (.int .i64 c.k) ∧ w.cell? ⟨g, o + i * 5 + 1, none⟩ = some (.int .i64 c.a) ∧ w.cell? ⟨g, o + i * 5 + 2, none⟩ = some (.int .i64 c.d) ∧ w.cell? ⟨g, o + i * 5 + 3, none⟩ = some (.int .i64 c.n) ∧ w.cell? ⟨g, o + i * 5 + 4, none⟩ = some (.string c.s) := by
      intro i hi
      obtain ⟨cs', hc, ht⟩ := he i (by simp at hm; omega)
      rw [show Tryz.prog.cellsOf 37 = 5 by kernel_rfl] at hc
      obtain ⟨n', hf⟩ := fields_at Tryz.underlying37 (by kernel_rfl) hc ht
      obtain ⟨v0, y0, c0, t0⟩ := hf 0 _ rfl
      obtain ⟨v1, y1, c1, t1⟩ := hf 1 _ rfl
      obtain ⟨v2, y2, c2, t2⟩ := hf 2 _ rfl
      obtain ⟨v3, y3, c3, t3⟩ := hf 3 _ rfl
      obtain ⟨v4, y4, c4, t4⟩ := hf 4 _ rfl
      obtain ⟨k, e0, _⟩ := DataW.trod_int Tryz.underlying3 t0
      obtain ⟨k1, e1, _⟩ := DataW.trod_int Tryz.underlying3 t1
      obtain ⟨k2, e2, _⟩ := DataW.trod_int Tryz.underlying3 t2
      obtain ⟨k3, e3, _⟩ := DataW.trod_int Tryz.underlying3 t3
      obtain ⟨s, e4, _⟩ := DataW.trod_string Tryz.underlying9 t4
      simp only [List.cons.injEq, and_true] at e0 e1 e2 e3 e4
      subst e0; subst e1; subst e2; subst e3; subst e4
      obtain ⟨g, o, rfl⟩ := flat_of (first_flat (he 0 (by simp at hm; omega)) (by kernel_rfl))
      simp only [Sess.add_flat] at c0 c1 c2 c3 c4
      exact ⟨⟨k, k1, k2, k3, s⟩, g, o, rfl, by simpa using c0, c1, c2, c3, c4⟩
    haveI : Inhabited Sess.CallW := ⟨⟨0, 0, 0, 0, .empty⟩⟩
    obtain ⟨cl, hcl⟩ := choose_lt hone
    refine ⟨some a, len, cap, cl, rfl, fun i hi => ?_⟩
    obtain ⟨g, o, ha, h⟩ := hcl i hi
    exact ⟨g, o, by rw [ha], h⟩

set_option maxRecDepth 100000 in
/-- The certificates, as they come in. -/
theorem open_trust {H : Type} {enc : TypeId × Value → H} {w : World} {fuel : Nat} {cs : List Value} {x : DataW H × List MemPlace} (h : DataW.trod enc Tryz.prog w 0 (fun _ => true) true fuel 22 cs = some x) :
    ∃ (ta : Option Addr) (tn tc : Nat) (nns : Nat → Nat), cs = [.slice ta tn tc] ∧ Sess.TrustIn w ta tn nns := by
  rcases open_slice Tryz.underlying22 h with ⟨rfl, _⟩ | ⟨a, len, cap, m, n, D, Pl, rfl, _, hl, _, hm, _, he⟩
  · exact ⟨none, 0, 0, fun _ => 0, rfl, fun i hi => absurd hi (by omega)⟩
  · have hone : ∀ i, i < len → ∃ nn : Nat, ∃ g o, a = ⟨g, o, none⟩ ∧ Sess.CertIn w g (o + i * 8) nn := by
      intro i hi
      obtain ⟨cs', hc, ht⟩ := he i (by simp at hm; omega)
      rw [show Tryz.prog.cellsOf 49 = 8 by kernel_rfl] at hc
      obtain ⟨n', hf⟩ := fields_at Tryz.underlying49 (by kernel_rfl) hc ht
      obtain ⟨v0, y0, c0, t0⟩ := hf 0 _ rfl
      obtain ⟨v1, y1, c1, t1⟩ := hf 1 _ rfl
      obtain ⟨v2, y2, c2, t2⟩ := hf 2 _ rfl
      obtain ⟨v3, y3, c3, t3⟩ := hf 3 _ rfl
      obtain ⟨v4, y4, c4, t4⟩ := hf 4 _ rfl
      obtain ⟨v5, y5, c5, t5⟩ := hf 5 _ rfl
      obtain ⟨v6, y6, c6, t6⟩ := hf 6 _ rfl
      obtain ⟨v7, y7, c7, t7⟩ := hf 7 _ rfl
      obtain ⟨s0, e0, _⟩ := DataW.trod_string Tryz.underlying9 t0
      obtain ⟨s1, e1, _⟩ := DataW.trod_string Tryz.underlying9 t1
      obtain ⟨s2, e2, _⟩ := DataW.trod_string Tryz.underlying9 t2
      obtain ⟨k3, e3, _⟩ := DataW.trod_int Tryz.underlying3 t3
      obtain ⟨k4, e4, _⟩ := DataW.trod_int Tryz.underlying3 t4
      obtain ⟨b6, e6, _⟩ := DataW.trod_bool Tryz.underlying4 t6
      obtain ⟨s7, e7, _⟩ := DataW.trod_string Tryz.underlying9 t7
      have h5 : ∃ na nn nc, v5 = .slice na nn nc ∧ Sess.NamesIn w na nn nc := by
        rcases open_strings Tryz.underlying47 Tryz.underlying9 (by kernel_rfl) t5 with ⟨e5, _⟩ | ⟨a', len', cap', ss, e5, _, hl', _, hz, _, hcell, _⟩
        · simp only [List.cons.injEq, and_true] at e5
          exact ⟨none, 0, 0, e5, .inl ⟨rfl, rfl, rfl⟩⟩
        · simp only [List.cons.injEq, and_true] at e5
          refine ⟨some a', len', cap', e5, .inr ⟨a', ss, rfl, ?_, hcell⟩⟩
          rw [hz]; simpa using hl'
      obtain ⟨na, nn, nc, e5, hna⟩ := h5
      simp only [List.cons.injEq, and_true] at e0 e1 e2 e3 e4 e6 e7
      subst e0; subst e1; subst e2; subst e3; subst e4; subst e5; subst e6; subst e7
      obtain ⟨g, o, rfl⟩ := flat_of (first_flat (he 0 (by simp at hm; omega)) (by kernel_rfl))
      simp only [Sess.add_flat] at c0 c1 c2 c3 c4 c5 c6 c7
      exact ⟨nn, g, o, rfl, s0, s1, s2, s7, k3, k4, na, nc, b6, by simpa using c0, c1, c2, c3, c4, c5, c6, c7, hna⟩
    obtain ⟨nns, hn⟩ := choose_lt hone
    refine ⟨some a, len, cap, nns, rfl, fun i hi => ?_⟩
    obtain ⟨g, o, ha, h⟩ := hn i hi
    exact ⟨g, o, by rw [ha], h⟩

set_option maxRecDepth 100000 in
/-- The setting, as it comes in. -/
theorem open_setting {H : Type} {enc : TypeId × Value → H} {w : World} {b0 : Nat} {r : Reach} {v : Value} {d : DataW H} {p : List MemPlace} (hv : Value.okWide Tryz.prog w r b0 26 v) (h : DataW.Trod enc Tryz.prog w 0 (fun _ => true) true 26 v d p) :
    ∃ (app b1 b2 : Int) (ta : Option Addr) (tn tc : Nat) (nns : Nat → Nat), v = .agg #[.int .i64 app, .slice ta tn tc, .int .i64 b1, .int .i64 b2] ∧ Sess.TrustIn w ta tn nns := by
  obtain ⟨cs, rfl, hsz⟩ := okWide_struct Tryz.underlying26 hv
  obtain ⟨l⟩ := cs
  match l, hsz.trans (show Tryz.prog.cellsOf 26 = 4 by kernel_rfl) with
  | [c0, c1, c2, c3], _ =>
    obtain ⟨fuel, hf⟩ := h
    obtain ⟨xs, n, _, _, _, hlen, hg⟩ := DataW.trod_struct Tryz.underlying26 hf
    match xs, hlen with
    | [y0, y1, y2], _ =>
      have g0 : DataW.trod enc Tryz.prog w 0 (fun _ => true) true n 3 [c0] = some y0 := by simpa [Value.cells, show Tryz.prog.cellsOf 3 = 1 by kernel_rfl] using hg 0 _ rfl
      have g1 : DataW.trod enc Tryz.prog w 0 (fun _ => true) true n 22 [c1] = some y1 := by simpa [Value.cells, show Tryz.prog.cellsOf 22 = 1 by kernel_rfl] using hg 1 _ rfl
      have g2 : DataW.trod enc Tryz.prog w 0 (fun _ => true) true n 24 [c2, c3] = some y2 := by simpa [Value.cells, show Tryz.prog.cellsOf 24 = 2 by kernel_rfl] using hg 2 _ rfl
      obtain ⟨app, e0, _⟩ := DataW.trod_int Tryz.underlying3 g0
      obtain ⟨ta, tn, tc, nns, e1, ht⟩ := open_trust g1
      obtain ⟨xs', n', _, _, _, hlen', hg'⟩ := DataW.trod_struct Tryz.underlying24 g2
      match xs', hlen' with
      | [z0, z1], _ =>
        have k0 : DataW.trod enc Tryz.prog w 0 (fun _ => true) true n' 3 [c2] = some z0 := by simpa [Value.cells, show Tryz.prog.cellsOf 3 = 1 by kernel_rfl] using hg' 0 _ rfl
        have k1 : DataW.trod enc Tryz.prog w 0 (fun _ => true) true n' 3 [c3] = some z1 := by simpa [Value.cells, show Tryz.prog.cellsOf 3 = 1 by kernel_rfl] using hg' 1 _ rfl
        obtain ⟨b1, e2, _⟩ := DataW.trod_int Tryz.underlying3 k0
        obtain ⟨b2, e3, _⟩ := DataW.trod_int Tryz.underlying3 k1
        simp only [List.cons.injEq, and_true] at e0 e1 e2 e3
        subst e0; subst e1; subst e2; subst e3
        exact ⟨app, b1, b2, ta, tn, tc, nns, rfl, ht⟩

/-- The table of strconv stands in the program, an array of integers. -/
theorem tab_some : (((Tryz.prog.globalNamed "internal/strconv.uint64pow10").bind fun g => (Tryz.prog.globals[g]?).bind fun gl => (Tryz.prog.underlying gl.type).bind fun d => match d with
  | .array n e => if Tryz.prog.cellsOf e = 1 ∧ Tryz.prog.cellsOf gl.type = n then (match Tryz.prog.underlying e with | some (.int .u64) => some () | _ => none) else none
  | _ => none)).isSome = true := by kernel_rfl
/-- .. from the row's condition. -/
theorem tab_in {W : World} (h : laidMetH Tryz.prog LV W) : Sess.TabIn W.heap.size W := by
  rw [MakeChecks.laidMetH_plain _ _ _ (by kernel_rfl)] at h
  obtain ⟨x, hx⟩ := Option.isSome_iff_exists.1 tab_some
  obtain ⟨g, hg, hx⟩ := Option.bind_eq_some_iff.1 hx
  obtain ⟨gl, hgl, hx⟩ := Option.bind_eq_some_iff.1 hx
  obtain ⟨d, hd, hx⟩ := Option.bind_eq_some_iff.1 hx
  split at hx
  · split at hx
    · rename_i hc
      split at hx
      · rename_i he
        exact Sess.TabIn.of (Lib.tabIs_of_head hg (by rw [hgl]; rfl) hd he hc.1 hc.2 h)
      · cases hx
    · cases hx
  · cases hx

set_option maxRecDepth 100000 in
theorem datagrams_lifted (os : Os) (started : os.Started) (H : Type) (enc : TypeId × Value → H) :
    ReturnsInHanded {} Tryz.checked os 4 .any (fun w args => (Rows.sessionDatagramsSpec.pre enc Tryz.prog Tryz.f4 [] false w args ∧ laidMetH Tryz.prog LV w) ∧ sizedMet enc Tryz.prog Tryz.f4 (OpenSpec.ofChange Rows.sessionDatagramsSpec) false w args)
      (Rows.sessionDatagramsSpec.post enc Tryz.prog Tryz.f4 false true false false) := by
  refine returnsInHanded_of_change_and (C := Tryz.checked) (X := fun w _ => laidMetH Tryz.prog LV w) (fun _ _ _ hh h => h.of_heap hh) own started (by kernel_rfl) Tryz.func4
    (ChangeSpec.witness_shaped (enc := enc) (C := Tryz.checked) (os := os) (X := fun w _ => laidMetH Tryz.prog LV w) false (World.laidAll Tryz.prog os LV) #[.agg #[.int .i64 0, .slice none 0 0, .int .i64 0, .int .i64 0], .slice none 0 0] 8 (World.laidAll_os _ _ _) (start_shaped os _) (by kernel_rfl) (by kernel_rfl) (by kernel_rfl) (start_met os _)) ?_
  intro W base args ds gs before hval0 hW _ _ hX _
  have hval : ∀ (j : Nat) t v, Tryz.f4.params[j]? = some t → args[j]? = some v → Value.okWide Tryz.prog W .any base t v := hval0
  have hW' := hW
  obtain ⟨p, q, hA0, hV, rfl, hfz, hnd⟩ := hW
  have hA : DataW.TrodAll enc Tryz.prog W 0 (fun _ => true) true Tryz.f4.params.toList args.toList ds p := hA0
  rw [Tryz.params4] at hA hval
  obtain ⟨v0, vs0, d0, ds0, p0, q0, hargs, rfl, rfl, h0, r0⟩ := trodAll_cons hA
  obtain ⟨v1, vs1, d1, ds1, p1, q1, rfl, rfl, rfl, h1, r1⟩ := trodAll_cons r0
  obtain ⟨rfl, rfl, rfl⟩ := trodAll_nil r1
  obtain rfl : args = #[v0, v1] := by cases args; simp_all
  obtain ⟨rfl, rfl⟩ := trodVars_none hV
  have lt0 : ∀ x ∈ p0, x.block < W.heap.size := by obtain ⟨m, hm⟩ := h0; exact DataW.trod_lt m _ _ _ hm
  have lt1 : ∀ x ∈ p1, x.block < W.heap.size := by obtain ⟨m, hm⟩ := h1; exact DataW.trod_lt m _ _ _ hm
  obtain ⟨app, b1, b2, ta, tn, tc, nns, rfl, ht⟩ := open_setting (hval 0 26 v0 rfl rfl) h0
  obtain ⟨sa, sl, sc, rfl⟩ := okWide_slice Tryz.underlying27 (hval 1 27 v1 rfl rfl)
  have h1' := h1
  obtain ⟨fuel, hf1⟩ := h1'
  obtain ⟨la, ln, lc, cl, e1, hc⟩ := open_calls hf1
  simp only [Value.cells, List.cons.injEq, and_true, Value.slice.injEq] at e1
  obtain ⟨rfl, rfl, rfl⟩ := e1
  clear hA0 hval0
  refine (Sess.datagrams_law W app b1 b2 ta sa tn tc sl sc nns cl ht hc (tab_in hX)).mono fun e W' ⟨he, hk⟩ => ?_
  subst he
  have bel := hk.below
  exact ⟨_, rfl, _, _, _, [], _, [], hW', trodAll_mk1 (shut_bool Tryz.underlying4 _), trodAll_cons_mk (Below.trod laidOut (by kernel_rfl) (of_decide_eq_true (by kernel_rfl)) h0 bel lt0) (trodAll_cons_mk (Below.trod laidOut (by kernel_rfl) (of_decide_eq_true (by kernel_rfl)) h1 bel lt1) trodAll_mk0), rfl, bel.frame _, fun h => by cases h⟩
end Go.Proofs.YtkaafdoplemjhaaGreatDoor
