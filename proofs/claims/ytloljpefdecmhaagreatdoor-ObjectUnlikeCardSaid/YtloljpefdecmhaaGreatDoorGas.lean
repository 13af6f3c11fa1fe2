import Derived.Test.YtloljpefdecmhaaGreatDoorGar
namespace Go.Proofs.YtloljpefdecmhaaGreatDoor
open Go Go.Mv
open Go.ChangeShapes
set_option maxRecDepth 100000
theorem obj_t_at (x : Ob) (d e p : Value) {j : Nat} (hj : j < 32) : (objV x d e p).cells[3 + j]? = some (.int .u8 (x.t j)) := by
  rcases lt32 hj with hj | ⟨k, hk, rfl⟩
  · rcases lt16 hj with rfl | rfl | rfl | rfl | rfl | rfl | rfl | rfl | rfl | rfl | rfl | rfl | rfl | rfl | rfl | rfl <;> rfl
  · rcases lt16 hk with rfl | rfl | rfl | rfl | rfl | rfl | rfl | rfl | rfl | rfl | rfl | rfl | rfl | rfl | rfl | rfl <;> rfl
theorem obj_g_at (x : Ob) (d e p : Value) {j : Nat} (hj : j < 32) : (objV x d e p).cells[37 + j]? = some (.int .u8 (x.tg.id j)) := by
  rcases lt32 hj with hj | ⟨k, hk, rfl⟩
  · rcases lt16 hj with rfl | rfl | rfl | rfl | rfl | rfl | rfl | rfl | rfl | rfl | rfl | rfl | rfl | rfl | rfl | rfl <;> rfl
  · rcases lt16 hk with rfl | rfl | rfl | rfl | rfl | rfl | rfl | rfl | rfl | rfl | rfl | rfl | rfl | rfl | rfl | rfl <;> rfl

theorem id_atC (f : Nat → Int) {j : Nat} (hj : j < 32) : (idC f)[j]? = some (.int .u8 (f j)) := by
  rcases lt32 hj with hj | ⟨k, hk, rfl⟩
  · rcases lt16 hj with rfl | rfl | rfl | rfl | rfl | rfl | rfl | rfl | rfl | rfl | rfl | rfl | rfl | rfl | rfl | rfl <;> rfl
  · rcases lt16 hk with rfl | rfl | rfl | rfl | rfl | rfl | rfl | rfl | rfl | rfl | rfl | rfl | rfl | rfl | rfl | rfl <;> rfl
theorem ent_atC (e : Ent) {j : Nat} (hj : j < 32) : (entC e)[2 + j]? = some (.int .u8 (e.id j)) := by
  rcases lt32 hj with hj | ⟨k, hk, rfl⟩
  · rcases lt16 hj with rfl | rfl | rfl | rfl | rfl | rfl | rfl | rfl | rfl | rfl | rfl | rfl | rfl | rfl | rfl | rfl <;> rfl
  · rcases lt16 hk with rfl | rfl | rfl | rfl | rfl | rfl | rfl | rfl | rfl | rfl | rfl | rfl | rfl | rfl | rfl | rfl <;> rfl
theorem cellsO_id : Tryz.prog.cellsOf 36 = 32 := by kernel_rfl
theorem cellsO_u8 : Tryz.prog.cellsOf 5 = 1 := by kernel_rfl
theorem cellsO_ent : Tryz.prog.cellsOf 97 = 34 := by kernel_rfl
theorem cellsO_lnk : Tryz.prog.cellsOf 46 = 33 := by kernel_rfl
theorem cellsO_obj : Tryz.prog.cellsOf 48 = 70 := by kernel_rfl
section
variable {H : Type} {enc : TypeId × Value → H} {w : World} {base : Nat} {spare : Nat → Bool} {held : Bool} {n : Nat} {cs : List Value} {x : DataW H × List MemPlace}
theorem open_byteT (h : DataW.trod enc Tryz.prog w base spare held n 5 cs = some x) : ∃ c, cs = byteC c ∧ True := by
  obtain ⟨z, rfl, _, hw⟩ := DataW.trod_int Tryz.underlying5 h
  have := has_u8 (wf_has hw)
  exact ⟨toB z, by rw [byteC, ← bcell_toB this.1 (by omega)], trivial⟩
def idOf (cs : List Value) : Nat → Int := fun i => bif Nat.blt i 32 then intAt cs.toArray i else 0
theorem idOf_can (cs : List Value) : IdCan (idOf cs) := fun i hi => by
  have : Nat.blt i 32 = false := by rw [← Bool.not_eq_true]; intro h; have := Nat.blt_eq ▸ h; omega
  simp only [idOf, this, cond_false]
theorem idOf_at {z : Int} {j : Nat} (hj : j < 32) (h : cs[j]? = some (.int .u8 z)) : idOf cs j = z := by
  have : Nat.blt j 32 = true := by simpa using hj
  simp only [idOf, this, cond_true, intAt, List.getElem?_toArray, h]
theorem open_idT (h : DataW.trod enc Tryz.prog w base spare held n 36 cs = some x) : ∃ f, cs = idC f ∧ IdOk f ∧ IdCan f := by
  obtain ⟨hl, ht⟩ := trod_ints Tryz.underlying36 Tryz.underlying5 cellsO_u8 h
  rw [cellsO_id] at hl
  refine ⟨idOf cs, ?_, fun i => ?_, idOf_can cs⟩
  · apply List.ext_getElem?
    intro i
    by_cases hi : i < 32
    · obtain ⟨z, hz, _⟩ := ht i hi
      rw [hz, id_atC _ hi, idOf_at hi hz]
    · rw [List.getElem?_eq_none (by omega), List.getElem?_eq_none (by rw [idC_len]; omega)]
  · by_cases hi : i < 32
    · obtain ⟨z, hz, hh⟩ := ht i hi
      rw [idOf_at hi hz]; exact has_u8 hh
    · rw [idOf_can cs i (by omega)]; omega
theorem open_entT (h : DataW.trod enc Tryz.prog w base spare held n 97 cs = some x) : ∃ e, cs = entC e ∧ IdOk e.id := by
  obtain ⟨hl, hf⟩ := trod_field Tryz.underlying97 h
  rw [cellsO_ent] at hl
  obtain ⟨m0, y0, h0⟩ := hf 0 _ rfl
  obtain ⟨m1, y1, h1⟩ := hf 1 _ rfl
  obtain ⟨m2, y2, h2⟩ := hf 2 _ rfl
  have h0 : DataW.trod enc Tryz.prog w base spare held m0 9 ((cs.drop 0).take (Tryz.prog.cellsOf 9)) = some y0 := h0
  have h1 : DataW.trod enc Tryz.prog w base spare held m1 3 ((cs.drop 1).take (Tryz.prog.cellsOf 3)) = some y1 := h1
  have h2 : DataW.trod enc Tryz.prog w base spare held m2 36 ((cs.drop 2).take (Tryz.prog.cellsOf 36)) = some y2 := h2
  obtain ⟨s, hs, _, _⟩ := DataW.trod_string Tryz.underlying9 h0
  obtain ⟨k, hk, _, _⟩ := DataW.trod_int Tryz.underlying3 h1
  obtain ⟨f, hfe, hok, _⟩ := open_idT h2
  rw [cellsO_id] at hfe
  refine ⟨⟨s, k, f⟩, ?_, hok⟩
  apply List.ext_getElem?
  intro i
  by_cases hi0 : i = 0
  · subst hi0; rw [at0 hs]; rfl
  by_cases hi1 : i = 1
  · subst hi1; rw [at0 hk]; rfl
  by_cases hi : i < 34
  · obtain ⟨j, hj, rfl⟩ : ∃ j, j < 32 ∧ i = 2 + j := ⟨i - 2, by omega, by omega⟩
    rw [ent_atC _ hj, ← id_atC f hj, ← hfe, atj hj]
  · rw [List.getElem?_eq_none (by omega), List.getElem?_eq_none (by rw [entC_len]; omega)]
end
/-- Elements behind a slice that stands in a cell. -/
theorem open_cellL {H : Type} {α : Type} {P : Program} {ec : α → List Value} {sz : Nat} {ok : α → Prop} {t e : TypeId} {enc : TypeId × Value → H} {W : World} {r : Reach} {b0 m : Nat} {v : Value} {y : DataW H × List MemPlace} (ht : P.underlying t = some (.slice e)) (hsz : P.cellsOf e = sz) (hs0 : 0 < sz) (hk : ∀ x, (ec x).length = sz)
    (hel : ∀ n cs x, DataW.trod enc P W 0 (fun _ => true) true n e cs = some x → ∃ a, cs = ec a ∧ ok a) (hc : Cell.okWide P W r b0 t v) (h : DataW.trod enc P W 0 (fun _ => true) true m t [v] = some y) (HZ : Mem) (hH : Hp HZ W) :
    ∃ HA l, Hp (HA ++ HZ) W ∧ Rdx sz ec (HA ++ HZ) v l ∧ (∀ x ∈ l, ok x) ∧ l.length ≤ 9223372036854775807 := by
  have hv : v.cells.toList = [v] := by
    rcases DataW.trod_slice ht h with ⟨hcs, _⟩ | ⟨a, len, cap, elems, rest, m', _, hcs, _⟩
    · obtain rfl := (List.cons.inj hcs).1; rfl
    · obtain rfl := (List.cons.inj hcs).1; rfl
  exact open_list (d := y.1) (p := y.2) ht hsz hs0 hk hel (by simp only [Value.okWide, ht]; exact hc) ⟨m, by rw [hv]; exact h⟩ HZ hH
def obTs : List TypeId := [3, 32, 43] ++ List.replicate 32 5 ++ [44, 3] ++ List.replicate 32 5 ++ [9]
theorem obTs_is : Tryz.prog.cellTypes Tryz.prog.depth 48 = some obTs := by kernel_rfl
theorem take1 {l : List Value} {o n : Nat} {v : Value} (hn : n = 1) (h : l[o]? = some v) : (l.drop o).take n = [v] := by
  subst hn
  obtain ⟨hlt, rfl⟩ := List.getElem?_eq_some_iff.1 h
  rw [List.drop_eq_getElem_cons hlt]; rfl
theorem cellsO_b : Tryz.prog.cellsOf 32 = 1 := by kernel_rfl
theorem cellsO_e : Tryz.prog.cellsOf 43 = 1 := by kernel_rfl
theorem cellsO_i : Tryz.prog.cellsOf 44 = 1 := by kernel_rfl
/-- An object that comes in. -/
theorem open_ob {H : Type} {enc : TypeId × Value → H} {W : World} {r : Reach} {b0 : Nat} {v : Value} {d : DataW H} {p : List MemPlace} (hval : Value.okWide Tryz.prog W r b0 48 v) (h : DataW.Trod enc Tryz.prog W 0 (fun _ => true) true 48 v d p) (HZ : Mem) (hH : Hp HZ W) :
    ∃ HA x xd xe xp, v = objV x xd xe xp ∧ Hp (HA ++ HZ) W ∧ Rdb (HA ++ HZ) xd x.data ∧ Rdx 34 entC (HA ++ HZ) xe x.ents ∧ Rdx 32 idC (HA ++ HZ) xp x.pars ∧ ObW x := by
  simp only [Value.okWide, Tryz.underlying48] at hval
  obtain ⟨cs, rfl, hsz, ts, hts, _, hc⟩ := hval
  rw [cellsO_obj] at hsz
  obtain rfl := Option.some.inj (hts.symm.trans obTs_is)
  have hl : obTs.length = 70 := rfl
  rw [hl] at hc
  have cell : ∀ i (hi : i < 70), ∃ v u, cs[i]? = some v ∧ obTs[i]? = some u ∧ Cell.okWide Tryz.prog W r b0 u v := fun i hi => by
    obtain ⟨u, hu, hk⟩ := hc i (cs[i]'(by omega)) (by simp [hsz, hi])
    rw [Nat.mod_eq_of_lt hi] at hu
    exact ⟨_, u, by simp [hsz, hi], hu, hk⟩
  obtain ⟨n, hn⟩ := h
  have hn : DataW.trod enc Tryz.prog W 0 (fun _ => true) true n 48 cs.toList = some (d, p) := hn
  obtain ⟨_, hf⟩ := trod_field Tryz.underlying48 hn
  obtain ⟨m0, y0, h0⟩ := hf 0 _ rfl
  obtain ⟨m1, y1, h1⟩ := hf 1 _ rfl
  obtain ⟨m2, y2, h2⟩ := hf 2 _ rfl
  obtain ⟨m3, y3, h3⟩ := hf 3 _ rfl
  obtain ⟨m4, y4, h4⟩ := hf 4 _ rfl
  obtain ⟨m5, y5, h5⟩ := hf 5 _ rfl
  obtain ⟨m6, y6, h6⟩ := hf 6 _ rfl
  have h0 : DataW.trod enc Tryz.prog W 0 (fun _ => true) true m0 3 ((cs.toList.drop 0).take (Tryz.prog.cellsOf 3)) = some y0 := h0
  have h1 : DataW.trod enc Tryz.prog W 0 (fun _ => true) true m1 32 ((cs.toList.drop 1).take (Tryz.prog.cellsOf 32)) = some y1 := h1
  have h2 : DataW.trod enc Tryz.prog W 0 (fun _ => true) true m2 43 ((cs.toList.drop 2).take (Tryz.prog.cellsOf 43)) = some y2 := h2
  have h3 : DataW.trod enc Tryz.prog W 0 (fun _ => true) true m3 36 ((cs.toList.drop 3).take (Tryz.prog.cellsOf 36)) = some y3 := h3
  have h4 : DataW.trod enc Tryz.prog W 0 (fun _ => true) true m4 44 ((cs.toList.drop 35).take (Tryz.prog.cellsOf 44)) = some y4 := h4
  have h5 : DataW.trod enc Tryz.prog W 0 (fun _ => true) true m5 46 ((cs.toList.drop 36).take (Tryz.prog.cellsOf 46)) = some y5 := h5
  have h6 : DataW.trod enc Tryz.prog W 0 (fun _ => true) true m6 9 ((cs.toList.drop 69).take (Tryz.prog.cellsOf 9)) = some y6 := h6
  obtain ⟨k, hk, _, _⟩ := DataW.trod_int Tryz.underlying3 h0
  obtain ⟨t, ht, htok, _⟩ := open_idT h3
  obtain ⟨s, hs, _, _⟩ := DataW.trod_string Tryz.underlying9 h6
  obtain ⟨_, hg⟩ := trod_field Tryz.underlying46 h5
  obtain ⟨g0, z0, hg0⟩ := hg 0 _ rfl
  obtain ⟨g1, z1, hg1⟩ := hg 1 _ rfl
  have hg0 : DataW.trod enc Tryz.prog W 0 (fun _ => true) true g0 3 ((((cs.toList.drop 36).take (Tryz.prog.cellsOf 46)).drop 0).take (Tryz.prog.cellsOf 3)) = some z0 := hg0
  have hg1 : DataW.trod enc Tryz.prog W 0 (fun _ => true) true g1 36 ((((cs.toList.drop 36).take (Tryz.prog.cellsOf 46)).drop 1).take (Tryz.prog.cellsOf 36)) = some z1 := hg1
  obtain ⟨gk, hgk, _, _⟩ := DataW.trod_int Tryz.underlying3 hg0
  obtain ⟨gi, hgi, hgok, _⟩ := open_idT hg1
  obtain ⟨v1, u1, c1, e1, o1⟩ := cell 1 (by decide)
  obtain ⟨v2, u2, c2, e2, o2⟩ := cell 2 (by decide)
  obtain ⟨v3, u3, c3, e3, o3⟩ := cell 35 (by decide)
  obtain rfl := Option.some.inj e1
  obtain rfl := Option.some.inj e2
  obtain rfl := Option.some.inj e3
  have c1' : cs.toList[1]? = some v1 := by simpa using c1
  have c2' : cs.toList[2]? = some v2 := by simpa using c2
  have c3' : cs.toList[35]? = some v3 := by simpa using c3
  rw [take1 cellsO_b c1'] at h1
  rw [take1 cellsO_e c2'] at h2
  rw [take1 cellsO_i c3'] at h4
  obtain ⟨HA, l1, hH1, r1, _, n1⟩ := open_cellL Tryz.underlying32 cellsO_u8 (by decide) byteC_len (ok := fun _ => True) (fun n cs x h => open_byteT h) o1 h1 HZ hH
  obtain ⟨HB, l2, hH2, r2, k2, n2⟩ := open_cellL Tryz.underlying43 cellsO_ent (by decide) entC_len (ok := fun e => IdOk e.id) (fun n cs x h => open_entT h) o2 h2 _ hH1
  obtain ⟨HC, l3, hH3, r3, k3, n3⟩ := open_cellL Tryz.underlying44 cellsO_id (by decide) idC_len (ok := fun f => IdOk f ∧ IdCan f) (fun n cs x h => open_idT h) o3 h4 _ hH2
  rw [cellsO_id] at ht hgi
  have a0 := at0 hk
  have a6 := at0 hs
  have ag := at0 hgk
  rw [cellsO_lnk] at ag hgi
  rw [atj (by decide)] at ag
  have key : cs = (objV ⟨k, l1, l2, t, l3, ⟨gk, gi⟩, s⟩ v1 v2 v3).cells := by
    apply Array.ext_getElem?
    intro i
    rw [← Array.getElem?_toList]
    by_cases i0 : i = 0
    · subst i0; rw [a0]; rfl
    by_cases i1 : i = 1
    · subst i1; rw [c1']; rfl
    by_cases i2 : i = 2
    · subst i2; rw [c2']; rfl
    by_cases i3 : i < 35
    · obtain ⟨j, hj, rfl⟩ : ∃ j, j < 32 ∧ i = 3 + j := ⟨i - 3, by omega, by omega⟩
      rw [obj_t_at _ _ _ _ hj, ← id_atC t hj, ← ht, atj hj]
    by_cases i4 : i = 35
    · subst i4; rw [c3']; rfl
    by_cases i5 : i = 36
    · subst i5; rw [ag]; rfl
    by_cases i6 : i < 69
    · obtain ⟨j, hj, rfl⟩ : ∃ j, j < 32 ∧ i = 37 + j := ⟨i - 37, by omega, by omega⟩
      rw [obj_g_at _ _ _ _ hj, ← id_atC gi hj, ← hgi, atj hj, atj (by omega), show 36 + (1 + j) = 37 + j by omega]
    by_cases i7 : i = 69
    · subst i7; rw [a6]; rfl
    · have e1 : (objV ⟨k, l1, l2, t, l3, ⟨gk, gi⟩, s⟩ v1 v2 v3).cells.size = 70 := rfl
      rw [List.getElem?_eq_none (by rw [Array.length_toList]; omega), Array.getElem?_eq_none (by omega)]
  refine ⟨HC ++ (HB ++ HA), ⟨k, l1, l2, t, l3, ⟨gk, gi⟩, s⟩, v1, v2, v3, by rw [key]; rfl, by rw [List.append_assoc, List.append_assoc]; exact hH3, Rdb.of_x (r1.mono fun _ hw => hw.sp (fun a => by simp only [cnt_append]; omega)), r2.mono fun _ hw => hw.sp (fun a => by simp only [cnt_append]; omega), r3.mono fun _ hw => hw.sp (fun a => by simp only [cnt_append]; omega), n1, n2, n3, k2, htok, hgok, fun f hf => (k3 f hf).1, fun f hf => (k3 f hf).2⟩

end Go.Proofs.YtloljpefdecmhaaGreatDoor
