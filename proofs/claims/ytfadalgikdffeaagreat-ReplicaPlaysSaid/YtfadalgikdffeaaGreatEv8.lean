/- Structs and arrays made of parts; what slices hold; conversions. -/
import Derived.Test.YtfadalgikdffeaaGreatEv7
import Derived.Laws.BytesString
set_option linter.unusedVariables false
set_option linter.unusedSimpArgs false
namespace Go.EV
open Go.RowKit
/-- The empty value of a struct has the shape that its type says. -/
def shapeOk (T : TT) (ti : TI) : Prop :=
  match ti.td, ti.zero with
  | .st fs, .ag zs => ∀ j : Nat, (zs[j]?).map X.size = ((fs[j]?).map fun t => ((T t).map (·.size)).getD 0)
  | .arr n e, .ar d zs => (T e).map (·.size) = some d ∧ zs.length = n
  | .st _, _ | .arr _ _, _ => False
  | _, _ => True
def ShOk (T : TT) : Prop := ∀ t ti, T t = some ti → shapeOk T ti
section
variable {P : Program} {T : TT} {w : World} {F : Nat → Prop} {A : Nat → Option RA}
theorem zero_ok (w : World) (F : Nat → Prop) (A : Nat → Option RA) (hT : TOk P T) {t : Nat} {ti : TI} (ht : T t = some ti) : ∃ i z cs, P.info? t = some i ∧ i.zero = some z ∧ z = val ti.zero cs ∧ z.cells.toList = cs ∧ (∀ w F, Rf w F ti.zero cs) := by
  obtain ⟨i, d, z, hi, hu, hs, hby, hz, hR, _⟩ := (hT t ti ht).ex
  have h0 := hR w F A
  refine ⟨i, z, z.cells.toList, hi, hz, ?_, rfl, fun w F => rc_rf (A := fun _ => none) (hT t ti ht).fz (hR w F (fun _ => none)).cells⟩
  obtain ⟨cs, h1, rfl⟩ := h0
  have h2 : R1 w F A ti.zero (val ti.zero cs) := ⟨cs, h1, rfl⟩
  have h3 := h2.cells
  cases ha : ti.zero.agg with
  | true => simp [val, ha, Value.cells]
  | false =>
    have h4 := rc_len h1
    have h5 : ti.zero.size = 1 := by
      cases hz : ti.zero <;> simp_all [X.agg, X.size]
    rw [h5] at h4
    match cs, h4 with
    | [u], _ =>
      have := rc_cell h1 u (by simp)
      simp only [val, ha, List.headD_cons]
      cases u <;> simp_all [Value.cells, Value.oneCell', val]
theorem build_ok (hT : TOk P T) (hS : ShOk T) {t : Nat} {ti : TI} (ht : T t = some ti) {ps : List (Nat × X)} {qs : List (Nat × Value)} (hrel : PRel w F A ps qs) :
    (∀ zs ys, ti.zero = .ag zs → fillX zs ps = some ys → ∃ v, (Instr.build t qs.toArray).run P w = .ok v w ∧ Rv w F A (.ag ys) v) ∧
    (∀ d zs ys, ti.zero = .ar d zs → (∀ p ∈ ps, p.2.fz = true) → fillX zs ps = some ys → ∃ v, (Instr.build t qs.toArray).run P w = .ok v w ∧ Rv w F A (.ar d ys) v) := by
  obtain ⟨i, d, hi, hu, hs, _, hdesc, hrow⟩ := desc_ok hT ht
  obtain ⟨i', z, cs, hi', hz, hzv, hzc, hrf⟩ := zero_ok w F A hT ht
  rw [hi] at hi'; cases hi'
  have hsh := hS t ti ht
  have hfit := (hT t ti ht).fit
  simp only [fits, Bool.and_eq_true, beq_iff_eq] at hfit
  have hzcells : z.cells = cs.toArray := by rw [← hzc]
  constructor
  · intro zs ys hze hfill
    unfold shapeOk at hsh
    rw [hze] at hsh hfit hrf
    have hag : ti.td.agg = true := by rw [← hfit.1.2]; rfl
    cases htd : ti.td with
    | st fs =>
      rw [htd] at hsh hdesc
      simp only at hsh
      simp only [descOk] at hdesc
      obtain ⟨fields, rfl, hm, hall⟩ := hdesc
      have hrl : RcL w F A zs cs := by have := hrf w F; simp only [Rf] at this; exact rfL_rcL this
      have hpl := places_of (P := P) (T := T) hT (fields := fields.toList) (fs := fs) 0 hm (fun j f hf => (hall j f (by simpa using hf)).2.imp fun fi h => h.1)
      obtain ⟨cs', hf, hr'⟩ := fill_ag (fun i => (fields.toList.map fun f => (f.offset, ((T f.type).map (·.size)).getD 0)).toArray[i]?) hrl (fun j y hy => by
        have h1 := hsh j
        rw [hy] at h1
        simp only [Option.map_some] at h1
        obtain ⟨ft, hft, hsz⟩ := Option.map_eq_some_iff.1 h1.symm
        rw [← hm, List.getElem?_map] at hft
        obtain ⟨fld, hfld, rfl⟩ := Option.map_eq_some_iff.1 hft
        obtain ⟨ho, _⟩ := hall j fld (by simpa using hfld)
        have he := sizeL_offs (T := T) hsh j
        simp [hfld, ho, he, hsz]) hrel hfill
      refine ⟨.agg cs'.toArray, run_build w t qs.toArray cs'.toArray ?_, ag_ok hr'⟩
      unfold Program.built
      simp only [hi, hu, hz, hpl, hzcells]
      exact hf
    | arr n e => rw [htd] at hsh; exact hsh.elim
    | bool | int k | str | sl e | pt e | oth => rw [htd] at hag; simp [TD.agg] at hag
  · intro d' zs ys hze hfz hfill
    unfold shapeOk at hsh
    rw [hze] at hsh hfit hrf
    have hag : ti.td.agg = true := by rw [← hfit.1.2]; rfl
    cases htd : ti.td with
    | st fs => rw [htd] at hsh; exact hsh.elim
    | arr n e =>
      rw [htd] at hsh hdesc
      simp only at hsh
      simp only [descOk] at hdesc
      subst hdesc
      obtain ⟨ei, he, hed⟩ := Option.map_eq_some_iff.1 hsh.1
      obtain ⟨ie, de, hie, _, hse, _⟩ := desc_ok hT he
      have hrl : RfE w F d' zs cs := by have := hrf w F; simpa only [Rf] using this
      obtain ⟨cs', hf, hr'⟩ := fill_ar d' hrl hfz hrel hfill
      refine ⟨.agg cs'.toArray, run_build w t qs.toArray cs'.toArray ?_, ar_ok hr'⟩
      unfold Program.built
      simp only [hi, hu, hz, hzcells, hie, hse, hed]
      exact hf
    | bool | int k | str | sl e | pt e | oth => rw [htd] at hag; simp [TD.agg] at hag
/-- What a slice holds, in memory. -/
theorem elems_ok {r : Nat → Option X} (hr : Places w F A r) {x : X} {c : List X} (h : elems r x = some c) {a : Value} (ha : Rv w F A x a) :
    ∃ ad n, a = .slice ad c.length n ∧ c.length ≤ n ∧ (c = [] ∨ ∃ b o d cs, ad = some ⟨b, o, none⟩ ∧ RfE w F d c cs ∧ MemAt w b o cs) := by
  unfold elems at h
  split at h
  · cases h
    obtain ⟨ad, n, rfl, h1, _, h3⟩ := sl_of ha
    refine ⟨ad, n, rfl, h1, ?_⟩
    rcases h3 with h3 | ⟨a0, d, cs, rfl, hs, _, hrf, hm⟩
    · exact .inl h3
    · exact .inr ⟨a0.block, a0.off, d, cs, by rw [← spot_eta hs], hrf, hm⟩
  · rename_i g
    split at h
    · rename_i d0 c' hg
      cases h
      obtain ⟨ra, ad, n, hA, rfl, h1, h2, h3⟩ := hw_of ha
      obtain ⟨cs, hrf, hd, hlen, hcap, hown⟩ := hr.ar hg hA
      refine ⟨ad, n, by rw [hlen], by omega, ?_⟩
      by_cases hc : c = []
      · exact .inl hc
      · have : 0 < c.length := List.length_pos_iff.2 hc
        rcases h3 with h3 | rfl
        · omega
        · exact .inr ⟨_, _, _, cs, rfl, hrf, (hown (by omega)).mem⟩
    · cases h
  · rename_i g lo len f
    split at h
    · rename_i d0 c' hg
      cases h
      obtain ⟨ra, ad, n, hA, rfl, h1, h2, h4, h5, h3⟩ := hd_of ha
      obtain ⟨cs, hrf, hd, hlen, hcap, hown⟩ := hr.ar hg hA
      have hl : (mid lo len c').length = len := by simp [mid]; omega
      refine ⟨ad, n, by rw [hl], by omega, ?_⟩
      by_cases hc : mid lo len c' = []
      · exact .inl hc
      · have : 0 < (mid lo len c').length := List.length_pos_iff.2 hc
        rcases h3 with h3 | rfl
        · omega
        · refine .inr ⟨_, _, _, _, rfl, rfE_mid lo len hrf, ?_⟩
          have := MemAt.sub (hown (by omega)).mem (lo * ra.d) (len * ra.d)
          rw [hd] at this ⊢
          exact this
    · cases h
  · cases h
theorem toBytes_cells : ∀ {c : List X} {l : List UInt8} {d : Nat} {cs : List Value}, toBytes c = some l → RfE w F d c cs → ∃ ns : List Int, cs = ns.map (Value.int .u8) ∧ l = ns.map fun n => UInt8.ofNat n.toNat
  | [], l, d, cs, h, hr => by
    simp [toBytes] at h; subst h
    simp only [RfE] at hr; subst hr
    exact ⟨[], rfl, rfl⟩
  | x :: c, l, d, cs, h, hr => by
    unfold toBytes at h
    split at h
    · rename_i h0; cases h0
    · rename_i n xs h0
      cases h0
      obtain ⟨l', hl', rfl⟩ := Option.map_eq_some_iff.1 h
      simp only [RfE] at hr
      obtain ⟨c1, c2, rfl, hd, h1, h2⟩ := hr
      simp only [Rf] at h1
      subst h1
      obtain ⟨ns, rfl, rfl⟩ := toBytes_cells hl' h2
      exact ⟨n :: ns, rfl, rfl⟩
    · cases h
end
end Go.EV
