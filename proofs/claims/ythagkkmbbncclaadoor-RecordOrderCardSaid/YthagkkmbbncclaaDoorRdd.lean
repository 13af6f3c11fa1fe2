import Derived.Test.YthagkkmbbncclaaDoorPit
namespace Go.Proofs.YthagkkmbbncclaaDoor
open Go Go.Mv
set_option maxRecDepth 8000
def zeroR : Rec := ⟨0, 0, fun _ => 0, ⟨#[]⟩, false, fun _ => 0⟩
def runD : List Nat → Rec → List UInt8 → Dr Rec
  | [], q, ys => .ok q ys
  | i :: is, q, ys => match partD i q ys with
    | .err e => .err e
    | .ok q' r => runD is q' r
theorem runD_snoc : ∀ (is : List Nat) (i : Nat) (q : Rec) (ys : List UInt8), runD (is ++ [i]) q ys = match runD is q ys with | .err e => .err e | .ok q' r => partD i q' r
  | [], i, q, ys => by
    simp only [List.nil_append, runD]
    cases partD i q ys <;> rfl
  | j :: is, i, q, ys => by
    simp only [List.cons_append, runD]
    cases partD j q ys with
    | err e => rfl
    | ok q' r => exact runD_snoc is i q' r
theorem runD_err : ∀ (is js : List Nat) (q : Rec) (ys : List UInt8) (e : Int), is <+: js → runD is q ys = .err e → runD js q ys = .err e
  | [], js, q, ys, e, _, h => by simp [runD] at h
  | i :: is, [], q, ys, e, hp, h => by have := hp.length_le; simp at this
  | i :: is, j :: js, q, ys, e, hp, h => by
    obtain ⟨t, ht⟩ := hp
    simp only [List.cons_append, List.cons.injEq] at ht
    obtain ⟨rfl, ht⟩ := ht
    simp only [runD] at h ⊢
    cases hd : partD i q ys with
    | err e' => rw [hd] at h; exact h
    | ok q' r => rw [hd] at h; exact runD_err is js q' r e ⟨t, ht⟩ h
/-- What stands behind the four parts. -/
def tailD (q : Rec) (r : List UInt8) : Dr Rec :=
  if q.has = true then (match rawD 32 r with | .err e => .err e | .ok t r' => fineD { q with tip := tipOf t } r') else fineD q r
theorem recD_run (ys : List UInt8) : recD ys = match runD (List.range 4) zeroR ys with | .err e => .err e | .ok q r => tailD q r := by
  have e4 : List.range 4 = [0, 1, 2, 3] := rfl
  rw [e4]
  simp only [recD, runD, partD]
  cases dotD ys with
  | err e => rfl
  | ok d r1 =>
    dsimp only
    cases vecD r1 with
    | err e => rfl
    | ok l r2 =>
      dsimp only
      cases bytesD 100 r2 with
      | err e => rfl
      | ok b r3 =>
        dsimp only
        cases numD 1 r3 with
        | err e => rfl
        | ok n r4 =>
          dsimp only
          by_cases hn : n = 1
          · simp only [tailD, hn, if_true, decide_true, zeroR]
            cases rawD 32 r4 <;> rfl
          · simp only [tailD, hn, if_false, decide_false, zeroR, Bool.false_eq_true]
theorem runD_ok4 {ys r : List UInt8} {q : Rec} (h : runD (List.range 4) zeroR ys = .ok q r) : RecOk q ∧ q.ref.size ≤ 100 ∧ q.tip = fun _ => 0 := by
  have e4 : List.range 4 = [0, 1, 2, 3] := rfl
  rw [e4] at h
  simp only [runD, partD] at h
  cases hd : dotD ys with
  | err e => simp [hd] at h
  | ok d r1 =>
    simp only [hd] at h
    obtain ⟨_, a2⟩ := dotD_ok hd
    have ha := dotOk_iff.1 a2
    cases hv : vecD r1 with
    | err e => simp [hv] at h
    | ok l r2 =>
      simp only [hv] at h
      obtain ⟨_, b2, _⟩ := vecD_ok hv
      cases hb : bytesD 100 r2 with
      | err e => simp [hb] at h
      | ok b r3 =>
        simp only [hb] at h
        obtain ⟨_, c2⟩ := bytesD_ok hb
        cases hn : numD 1 r3 with
        | err e => simp [hn] at h
        | ok n r4 =>
          simp only [hn, Dr.ok.injEq] at h
          obtain ⟨rfl, rfl⟩ := h
          exact ⟨⟨⟨by show (-9223372036854775808 : Int) ≤ d.1; omega, by show (d.1 : Int) ≤ 9223372036854775807; omega⟩, ⟨by show (-9223372036854775808 : Int) ≤ d.2; omega, by show (d.2 : Int) ≤ 9223372036854775807; omega⟩, b2, fun i => by simp [zeroR]⟩, by show b.toArray.size ≤ 100; simpa using c2, rfl⟩
theorem bd_rec0 (w : World) : (Instr.build 30 #[]).run Tryd.prog w = .ok (recV zeroR) w := by
  simp [Instr.build, Tryd.zeroValue30, Tryd.runUnderlying30, Value.cells, Instr.fill, recV, zeroR]
theorem lt20 {i : Nat} (h : i < 20) : i < 16 ∨ i = 16 ∨ i = 17 ∨ i = 18 ∨ i = 19 := by omega
theorem rec_low (q : Rec) (t : Nat → Int) {i : Nat} (h : i < 20) : (recV { q with tip := t }).cells[i]? = (recV q).cells[i]? := by
  rcases lt20 h with h | rfl | rfl | rfl | rfl
  · rcases lt16 h with rfl | rfl | rfl | rfl | rfl | rfl | rfl | rfl | rfl | rfl | rfl | rfl | rfl | rfl | rfl | rfl <;> rfl
  all_goals rfl
theorem rec_sz (q : Rec) : (recV q).cells.size = 52 := rfl
theorem put_rec_tip (q : Rec) {t : List UInt8} (h : t.length = 32) : putL (recV q).cells 20 (bcells t) = (recV { q with tip := tipOf t }).cells := by
  apply Array.ext_getElem?
  intro i
  rw [get_putL _ _ _ _ (by rw [length_bcells, rec_sz]; omega)]
  by_cases h1 : i < 20
  · rw [if_neg (by omega)]; exact (rec_low q _ h1).symm
  · by_cases h2 : i < 52
    · obtain ⟨j, hj, rfl⟩ : ∃ j, j < 32 ∧ i = 20 + j := ⟨i - 20, by omega, by omega⟩
      rw [if_pos (by rw [length_bcells]; omega), rec_tip_at _ hj, show 20 + j - 20 = j from by omega, bcells_get]
      have : t[j]? = some (t[j]'(by omega)) := List.getElem?_eq_getElem (by omega)
      simp only [this, Option.map_some, tipOf, List.getD_eq_getElem?_getD, Option.getD_some, bcell]
    · rw [if_neg (by rw [length_bcells]; omega), Array.getElem?_eq_none (by rw [rec_sz]; omega), Array.getElem?_eq_none (by rw [rec_sz]; omega)]

theorem tail_F {q : Rec} {r : List UInt8} (h : q.has = false) (hok : recOkB q = true) : tailD q r = .ok q r := by simp [tailD, h, fineD, hok]
theorem tail_F' {q : Rec} {r : List UInt8} (h : q.has = false) (hok : recOkB q = false) : tailD q r = .err 120 := by simp [tailD, h, fineD, hok]
theorem tail_T {q : Rec} {r r' t : List UInt8} (h : q.has = true) (hd : rawD 32 r = .ok t r') (hok : recOkB { q with tip := tipOf t } = true) : tailD q r = .ok { q with tip := tipOf t } r' := by
  have e : tailD q r = fineD { q with tip := tipOf t } r' := by simp only [tailD, h, if_true, hd]
  rw [e]; simp only [fineD, hok, cond_true]
theorem tail_T' {q : Rec} {r r' t : List UInt8} (h : q.has = true) (hd : rawD 32 r = .ok t r') (hok : recOkB { q with tip := tipOf t } = false) : tailD q r = .err 120 := by
  have e : tailD q r = fineD { q with tip := tipOf t } r' := by simp only [tailD, h, if_true, hd]
  rw [e]; simp only [fineD, hok, cond_false]
theorem tail_E {q : Rec} {r : List UInt8} {e : Int} (h : q.has = true) (hd : rawD 32 r = .err e) : tailD q r = .err e := by simp only [tailD, h, if_true, hd]
theorem copy_src {H : Mem} {i b : Nat} {ys : List UInt8} {tl : List Value} {t : TypeId} {fz : Nat × Nat} (hi : H[i]? = some (b, .cells (bcells ys ++ tl).toArray t fz)) : ∀ w, Hp H w → ∀ j u, (bcells ys)[j]? = some u → w.cell? ((⟨b, 0, none⟩ : Addr).add j) = some u := fun w hw j u hj => by
  have hadd : (⟨b, 0, none⟩ : Addr).add j = ⟨b, j, none⟩ := by
    unfold Addr.add; split
    · rename_i h; simp
    · simp
  rw [hadd, cell_of hw (off := j) hi]
  obtain ⟨hlt, _⟩ := List.getElem?_eq_some_iff.1 hj
  simp [List.getElem?_append_left hlt, hj]
theorem RD.copy0 {P : Program} {ty dT sT el : TypeId} {by' : Nat} {z : Value} {E : Env} {L : Mem} {x y : Operand} {a : Option Addr} {dLen dCap : Nat} (hT : P.underlying dT = some (.slice el)) (hI : ElI P el 1 by' z) (hx : evalE E x = some (.slice a dLen dCap)) (hy : evalE E y = some (.slice none 0 0)) :
    RD P (.call ⟨.builtin .copy, #[x, y], #[dT, sT]⟩) ty E L (.int .i64 0) := by
  obtain ⟨i0, hi0, hz0, hz1, hz2⟩ := info_parts hI
  refine RD.call_builtin (vs := [.slice a dLen dCap, .slice none 0 0]) (by simp [evalL, hx, hy]) (fun w _ => ?_)
  have hTu := fun w => run_underlying (w := w) hT
  cases a <;> simp [builtin, Builtin.copy_, hTu, sizeOf, typeInfo, hi0, Builtin.lenOf, Builtin.firstCells, storeCells, goInt]
def decJ (b5 b4 s : Nat) (HX : Mem) (x : Array Value × Value × Int) : Mem := (b5, .cells #[.int .i64 x.2.2] 32 (0, 0)) :: recM b4 x.1 s x.2.1 HX
theorem in_decJ {b5 b4 s n : Nat} {HX : Mem} {x y : Array Value × Value × Int} : ∀ e ∈ decJ b5 b4 s HX x, e.1 ∈ keys (decJ b5 b4 s HX y) ∨ n ≤ e.1 := fun e he => .inl (show e.1 ∈ keys (decJ b5 b4 s HX x) from mem_keys.2 ⟨e, he, rfl⟩)
def decG (HX : Mem) (ys : List UInt8) (pre : List Nat) (x : Array Value × Value × Int) : Prop := x.2.2 = 0 ∧ ∃ q r, x.1 = (recV q).cells ∧ runD pre zeroR ys = .ok q r ∧ Rdb HX x.2.1 r ∧ r.length ≤ ys.length
def decS (HX : Mem) (ys : List UInt8) (c : Code) (pre : List Nat) (x : Array Value × Value × Int) : Prop := c = .exit 0 ∧ x.2.2 ≠ 0 ∧ runD pre zeroR ys = .err x.2.2 ∧ ∃ r, Rdb HX x.2.1 r ∧ r.length ≤ ys.length

set_option maxHeartbeats 4000000 in

theorem c_recDec (HX : Mem) (s : Nat) (sv : Value) (ys : List UInt8) (g : Obj) (w : World) (hb : Rdb HX sv ys) (hlen : ys.length ≤ 2199023255552) (hg : GOk g) (hw : Hp ([(0, g)] ++ srcM s sv HX) w) : Calls Tryd.prog 17 #[.pointer (some ⟨s, 0, none⟩)] w (Ret w (keys (srcM s sv HX)) (Reads HX s recV (recV zeroR) ys (recD ys))) := by
  refine fn_enter (args := [_]) Tryd.func17 rfl Tryd.ntmps17 rfl hw ?_
  refine pn_seq ?_
  refine pn_plain [] rfl ?_
  refine TE_alloc rfl Tryd.zeroValue30 trivial rfl fun b2 hb2 => ?_
  refine TE_q rfl rfl (RD.assign rfl) rfl ?_
  refine TE_nil0 ?_
  refine pn_scope ?_
  refine pn_seq ?_
  refine pn_plain [] rfl ?_
  refine TE_alloc rfl Tryd.zeroValue30 trivial rfl fun b4 hb4 => ?_
  refine TE_nil0 ?_
  refine pn_seq ?_
  refine pn_plain [] rfl ?_
  refine TE_alloc rfl Tryd.zeroValue32 trivial rfl fun b5 hb5 => ?_
  refine TE_store (i := 0) rfl Tryd.sizeOf32 trivial rfl rfl rfl rfl rfl rfl (.inl hb5) ?_
  refine TE_nil0 ?_
  refine pn_seq ?_
  refine pn_label ?_
  refine pn_seq ?_
  refine pn_seq ?_
  refine pn_plain [] rfl ?_
  refine TE_q rfl rfl (RD.move rfl) rfl ?_
  refine TE_call rfl rfl trivial Tryd.call40 rfl rfl rfl (fun w hs' => c_parts s b4 w) ?_
  rintro v10 H1 ⟨x5, bs, x2, x3, rfl, rfl⟩ hpx
  refine TE_nil0 ?_
  refine pn_block ?_
  refine pn_rangeH (τ := Unit) (HI := pclM x5 bs x2 x3) (HR := [(x3, .cells #[.pointer (some ⟨b4, 0, none⟩)] 80 (0, 0)), (x2, .cells #[.pointer (some ⟨s, 0, none⟩)] 37 (0, 0)), (b2, .cells (recV zeroR).cells 30 (0, 0)), (0, g)]) (it_parts x5 bs x2 x3) (decJ b5 b4 s HX) (decG HX ys) (decS HX ys) ((recV zeroR).cells, sv, 0) ⟨rfl, zeroR, ys, rfl, rfl, hb, Nat.le_refl _⟩ rfl Tryd.call72 (by intro x; rfl) rfl (fun w h => (Hp.pickT (A := [_, _, _, _, _, _, _, _, _]) (T := HX) (is := [2, 3, 6, 7, 0, 1, 4, 5, 8]) h rfl rfl).perm (List.perm_append_comm (l₁ := [_, _, _, _]))) (allA (Q := fun k => w.heap.size ≤ k ∨ k ∈ keys (srcM s sv HX)) (fun e he => .inl (hpx e (List.mem_append_left _ he))) (allC (Q := fun k => w.heap.size ≤ k ∨ k ∈ keys (srcM s sv HX)) (.inl hb5) (allC (Q := fun k => w.heap.size ≤ k ∨ k ∈ keys (srcM s sv HX)) (.inl hb4) (fun e he => (in_src e he).symm)))) (fun i _ => [(6, pclV x2 x3 i), (5, .pointer (some ⟨b5, 0, none⟩)), (4, .pointer (some ⟨b4, 0, none⟩)), (2, .pointer (some ⟨b2, 0, none⟩)), (0, .pointer (some ⟨s, 0, none⟩))]) (fun _ _ => []) (fun _ _ => True) ?_ ?_ ?_ ?_
  · intro W l1 pre x y R hW hG hpre
    refine pn_plain [] rfl ?_
    refine TE_q rfl rfl (RD.assign rfl) rfl ?_
    refine TE_nil0 ?_
    (exact fun a w hr hs => ⟨(), trivial, hr.keeps ⟨rfl, rfl, rfl, rfl, rfl, trivial⟩, hs⟩)
  · rintro W l1 pre i ⟨cs, v, e⟩ t R hW ⟨he0, q, r, hcs, hrun, hq, hl⟩ hpre -; dsimp only at he0 hcs hq; subst he0; subst hcs; have hrc := part_call (List.mem_range.1 (hpre.subset (by simp)) : i < 4)
    refine pn_block ?_
    refine pn_seq ?_
    refine pn_perm (((b5, .cells #[.int .i64 0] 32 (0, 0)) :: ([(x3, .cells #[.pointer (some ⟨b4, 0, none⟩)] 80 (0, 0)), (x2, .cells #[.pointer (some ⟨s, 0, none⟩)] 37 (0, 0)), (b2, .cells (recV zeroR).cells 30 (0, 0)), (0, g)] ++ R)) ++ recM b4 (recV q).cells s v HX) (fun w h => Hp.perm (A := (b5, .cells #[.int .i64 0] 32 (0, 0)) :: (recM b4 (recV q).cells s v HX ++ ([(x3, .cells #[.pointer (some ⟨b4, 0, none⟩)] 80 (0, 0)), (x2, .cells #[.pointer (some ⟨s, 0, none⟩)] 37 (0, 0)), (b2, .cells (recV zeroR).cells 30 (0, 0)), (0, g)] ++ R))) h (List.Perm.cons _ List.perm_append_comm)) ?_
    refine pn_plain [] rfl ?_
    refine TE_q rfl rfl (RD.move rfl) rfl ?_
    refine TE_callT ((b5, .cells #[.int .i64 0] 32 (0, 0)) :: ([(x3, .cells #[.pointer (some ⟨b4, 0, none⟩)] 80 (0, 0)), (x2, .cells #[.pointer (some ⟨s, 0, none⟩)] 37 (0, 0)), (b2, .cells (recV zeroR).cells 30 (0, 0)), (0, g)] ++ R)) (recM b4 (recV q).cells s v HX) rfl rfl rfl trivial hrc.1 rfl rfl rfl (fun e he => .inr (List.mem_cons_of_mem _ (List.mem_cons_of_mem _ (mem_keys.2 ⟨e, he, rfl⟩)))) (fun w hs' => hrc.2 HX b4 s x2 x3 q v r w hq (by omega) ((hs'.hp.left.sub (.cons _ (.cons_cons _ (.cons_cons _ (.cons _ (.cons _ (List.sublist_append_right R _))))))).perm (.swap _ _ _))) ?_
    rintro v13 H1 (⟨q', r', v', hd, rfl, rfl, hq', hl'⟩ | ⟨e, cs', v', r', hd, he, rfl, rfl, hq', hl'⟩) hX1
    · refine TE_store (i := 0) rfl Tryd.sizeOf32 trivial rfl rfl rfl rfl rfl rfl (.inr (by simp [decJ])) ?_
      refine TE_nil0 ?_
      refine pn_seq ?_
      refine pn_plain [] rfl ?_
      refine TE_l rfl rfl trivial rfl (RD.load (i := 0) Tryd.isAgg32 rfl rfl rfl) rfl ?_
      refine TE_q rfl rfl (RD.neq rfl rfl) rfl ?_
      refine TE_nil0 ?_
      refine pn_condF rfl ?_
      refine pn_skip ?_
      (exact pn_endR (σ := Array Value × Value × Int) (HJ := decJ b5 b4 s HX) (s := ((recV q).cells, v, 0)) (l := l1) (R := R) ((recV q').cells, v', 0) rfl ⟨rfl, q', r', rfl, by rw [runD_snoc, hrun]; exact hd, hq', by omega⟩ (fun w h => (h.sub (.cons_cons _ (.cons _ (.cons _ (.cons _ (.cons _ (List.Sublist.refl _))))))).perm (List.Perm.cons _ List.perm_append_comm)) in_decJ)
    · refine TE_store (i := 0) rfl Tryd.sizeOf32 trivial rfl rfl rfl rfl rfl rfl (.inr (by simp [decJ])) ?_
      refine TE_nil0 ?_
      refine pn_seq ?_
      refine pn_plain [] rfl ?_
      refine TE_l rfl rfl trivial rfl (RD.load (i := 0) Tryd.isAgg32 rfl rfl rfl) rfl ?_
      refine TE_q rfl rfl (RD.as (v := .bool true) (RD.neq rfl rfl) (by rw [decide_eq_false he]; rfl)) rfl ?_
      refine TE_nil0 ?_
      refine pn_condT rfl ?_
      refine pn_exit ?_
      (exact pn_endR (σ := Array Value × Value × Int) (HJ := decJ b5 b4 s HX) (s := ((recV q).cells, v, 0)) (l := l1) (R := R) (cs', v', e) rfl ⟨rfl, he, by rw [runD_snoc, hrun]; exact hd, r', hq', by omega⟩ (fun w h => (h.sub (.cons_cons _ (.cons _ (.cons _ (.cons _ (.cons _ (List.Sublist.refl _))))))).perm (List.Perm.cons _ List.perm_append_comm)) in_decJ)
  · rintro D HI' ⟨cs, v, e⟩ hD ⟨he0, q, r, hcs, hrun, hq, hl⟩ rfl; dsimp only at he0 hcs hq; subst he0; subst hcs; obtain ⟨hqo, hqs, hqt⟩ := runD_ok4 hrun; refine pn_perm ((b5, .cells #[.int .i64 0] 32 (0, 0)) :: (b4, .cells (recV q).cells 30 (0, 0)) :: (b2, .cells (recV zeroR).cells 30 (0, 0)) :: (0, g) :: (D, .deferred (some [])) :: srcM s v HX) (fun w h => Hp.pickT (A := [_, _, _, _, _, _, _, _, _, _]) (T := HX) (is := [7, 8, 5, 6, 2, 9]) (Hp.perm (A := decJ b5 b4 s HX ((recV q).cells, v, 0) ++ (pclM x5 bs x2 x3 ++ ((D, .deferred (some [])) :: [(x3, .cells #[.pointer (some ⟨b4, 0, none⟩)] 80 (0, 0)), (x2, .cells #[.pointer (some ⟨s, 0, none⟩)] 37 (0, 0)), (b2, .cells (recV zeroR).cells 30 (0, 0)), (0, g)]))) h List.perm_append_comm) rfl rfl) ?_
    refine pn_seq ?_
    refine pn_seq ?_
    refine pn_plain [] rfl ?_
    refine TE_l rfl rfl trivial rfl (RD.load (i := 0) Tryd.isAgg32 rfl rfl rfl) rfl ?_
    refine TE_q rfl rfl (RD.eql rfl rfl) rfl ?_
    refine TE_q rfl rfl (RD.move rfl) rfl ?_
    refine TE_isT ?_
    first | (refine TE_s rfl rfl rfl rfl rfl ?_) | (refine TE_gq rfl rfl rfl rfl (RD.fieldAddr (o := 19) Tryd.runUnderlying30 rfl rfl Tryd.sizeOf4 rfl) rfl ?_)
    first | (refine TE_s rfl rfl rfl rfl rfl ?_) | (refine TE_l rfl rfl ⟨_, rfl, rfl⟩ rfl (RD.load (i := 1) Tryd.isAgg4 rfl rfl rfl) rfl ?_)
    first | (refine TE_q rfl rfl (RD.pickT rfl rfl) rfl ?_) | (refine TE_q rfl rfl (RD.pickF rfl rfl) rfl ?_)
    refine TE_nil0 ?_
    refine pn_cond rfl (fun hc1 => ?_) (fun hc1 => ?_)
    · refine pn_seq ?_
      refine pn_plain [] rfl ?_
      refine TE_q rfl rfl (RD.move rfl) rfl ?_
      refine TE_callT [_, _, _, _, _] (srcM s v HX) rfl rfl rfl trivial Tryd.call41 rfl rfl rfl (fun e he => (in_src e he).symm) (fun w hs' => c_raw HX s 32 v r w hq (by omega) (hs'.hp.left.right (A := [_, _, _, _, _]))) ?_
      rintro v24 H1 (⟨t, r', v', x, H2, hd, rfl, hr, rfl, hq', hl'⟩ | ⟨e, v', r', hd, he, rfl, rfl, hq', hl'⟩) hX2
      · have ht := (rawD_ok hd).2; obtain ⟨bb, cap, tl, rfl, rfl⟩ := retB_some hr (by omega)
        refine TE_q rfl rfl (RD.move rfl) rfl ?_
        refine TE_q rfl rfl (RD.extract rfl rfl) rfl ?_
        refine TE_q rfl rfl (RD.extract rfl rfl) rfl ?_
        refine TE_q rfl rfl (RD.assign rfl) rfl ?_
        refine TE_q rfl rfl (RD.assign rfl) rfl ?_
        refine TE_nil0 ?_
        refine pn_seq ?_
        refine pn_plain [] rfl ?_
        refine TE_q rfl rfl (RD.fieldAddr (o := 20) Tryd.runUnderlying30 rfl rfl Tryd.sizeOf28 rfl) rfl ?_
        refine TE_q rfl rfl (RD.sliceA Tryd.runUnderlying28 Tryd.sizeOf5 rfl rfl (Nat.le_refl _)) rfl ?_
        refine TE_q rfl rfl (RD.move rfl) rfl ?_
        refine TE_copy (i := 1) (cs := bcells t) rfl rfl trivial rfl Tryd.underlying35 elByte rfl rfl (by rw [length_bcells, ht]; rfl) (copy_src (i := 5) rfl) rfl (by rw [length_bcells, rec_sz]; omega) (bcells_one _) (.inl hb4) ?_
        refine TE_nil0 ?_
        refine pn_plain [] rfl ?_
        refine TE_q rfl rfl (RD.move rfl) rfl ?_
        refine TE_store (i := 0) rfl Tryd.sizeOf32 trivial rfl rfl rfl rfl rfl rfl (.inl hb5) ?_
        refine TE_nil0 ?_
        refine pn_seq ?_
        refine pn_seq ?_
        refine pn_perm ((b5, .cells #[.int .i64 0] 32 (0, 0)) :: (b4, .cells (recV { q with tip := tipOf t }).cells 30 (0, 0)) :: (b2, .cells (recV zeroR).cells 30 (0, 0)) :: (0, g) :: (D, .deferred (some [])) :: (bb, .cells (bcells t ++ tl).toArray 5 (0, 0)) :: srcM s v' HX) (fun w h => by rw [← put_rec_tip q ht]; exact h) ?_
        refine pn_plain [] rfl ?_
        refine TE_l rfl rfl trivial rfl (RD.load (i := 0) Tryd.isAgg32 rfl rfl rfl) rfl ?_
        refine TE_q rfl rfl (RD.eql rfl rfl) rfl ?_
        refine TE_nil0 ?_
        refine pn_condT rfl ?_
        refine pn_plain [] rfl ?_
        refine TE_l rfl rfl trivial rfl (RD.loadA (v := recV { q with tip := tipOf t }) (i := 1) Tryd.isAgg30 Tryd.sizeOf30 rfl rfl (Nat.le_of_ble_eq_true rfl) (rec_all _)) rfl ?_
        refine TE_call rfl rfl trivial Tryd.call9 rfl rfl rfl (fun w hs' => c_recCheck { q with tip := tipOf t } g w ⟨hqo.s, hqo.c, hqo.ctx, tipOf_ok t⟩ hg (by show q.ref.size < 4294967281; omega) (hs'.hp.left.sub (.cons _ (.cons _ (.cons _ (.cons_cons _ (List.nil_sublist _))))))) ?_
        rintro v35 H1 ⟨rfl, rfl⟩ -
        refine TE_store (i := 0) rfl Tryd.sizeOf32 trivial rfl rfl rfl rfl rfl rfl (.inl hb5) ?_
        refine TE_nil0 ?_
        refine pn_seq ?_
        refine pn_seq ?_
        refine pn_plain [] rfl ?_
        refine TE_l rfl rfl trivial rfl (RD.load (i := 0) Tryd.isAgg32 rfl rfl rfl) rfl ?_
        refine TE_q rfl rfl (RD.neq rfl rfl) rfl ?_
        refine TE_nil0 ?_
        first | refine pn_condD rfl (fun hc3 => ?_) (fun hc3 => ?_) | refine pn_condN rfl (fun hc3 => ?_) (fun hc3 => ?_) | refine pn_cond rfl (fun hc3 => ?_) (fun hc3 => ?_)
        · refine pn_seq ?_
          refine pn_drawT [1] [2] [0, 1, 3, 4] [_, _, _, _, _] _ rfl rfl (by kernel_rfl) (by kernel_rfl) rfl rfl ?_
          refine TE_q rfl rfl (RD.build rfl bd_rec0) rfl ?_
          refine TE_q rfl rfl (RD.load (i := 0) Tryd.isAgg32 rfl rfl rfl) rfl ?_
          refine TE_put (i := 0) rfl Tryd.sizeOf30 trivial rfl rfl rfl rfl rfl rfl (.inl hb2) ?_
          refine TE_q rfl rfl (RD.assign rfl) rfl ?_
          refine TE_nil ?_
          refine pn_ret ?_
          rw [err1 hc3]; exact lv_ret (lv_mark [_, _, _, _] _ rfl hD (lv_end rfl ⟨recV zeroR, _, b2, 0, rfl, rfl, load_agg (i := 0) Tryd.isAgg30 Tryd.sizeOf30 rfl (by rw [size_putL]; exact Nat.le_of_ble_eq_true rfl) (put_agg rfl rfl rfl rfl), _, _, rfl, rfl, rfl⟩ (.inr ⟨120, _, r', by rw [recD_run, hrun]; exact tail_T' hc1 hd (err1 hc3), by decide, rfl, rfl, hq', by omega⟩) (fun w h => h.sub (.cons _ (.cons _ (.cons _ (.cons _ (.cons _ (List.Sublist.refl _))))))) in_src))
        · refine pn_skip ?_
          refine pn_seq ?_
          refine pn_plain [] rfl ?_
          refine TE_l rfl rfl trivial rfl (RD.loadA (v := recV { q with tip := tipOf t }) (i := 1) Tryd.isAgg30 Tryd.sizeOf30 rfl rfl (Nat.le_of_ble_eq_true rfl) (rec_all _)) rfl ?_
          refine TE_put (i := 2) rfl Tryd.sizeOf30 trivial rfl rfl rfl rfl rfl rfl (.inl hb2) ?_
          refine TE_q rfl rfl (RD.assign rfl) rfl ?_
          refine TE_nil0 ?_
          refine pn_ret ?_
          exact lv_ret (lv_mark [_, _, _, _] _ rfl hD (lv_end rfl ⟨recV { q with tip := tipOf t }, _, b2, 0, rfl, rfl, load_agg (i := 2) Tryd.isAgg30 Tryd.sizeOf30 rfl (by rw [size_putL]; exact Nat.le_of_ble_eq_true rfl) (put_agg rfl rfl rfl rfl), _, _, rfl, rfl, rfl⟩ (.inl ⟨{ q with tip := tipOf t }, r', _, by rw [recD_run, hrun]; exact tail_T hc1 hd (err0 hc3), rfl, rfl, hq', by omega⟩) (fun w h => h.sub (.cons _ (.cons _ (.cons _ (.cons _ (.cons _ (List.Sublist.refl _))))))) in_src))
      · refine TE_q rfl rfl (RD.move rfl) rfl ?_
        refine TE_q rfl rfl (RD.extract rfl rfl) rfl ?_
        refine TE_q rfl rfl (RD.extract rfl rfl) rfl ?_
        refine TE_q rfl rfl (RD.assign rfl) rfl ?_
        refine TE_q rfl rfl (RD.assign rfl) rfl ?_
        refine TE_nil0 ?_
        refine pn_seq ?_
        refine pn_plain [] rfl ?_
        refine TE_q rfl rfl (RD.fieldAddr (o := 20) Tryd.runUnderlying30 rfl rfl Tryd.sizeOf28 rfl) rfl ?_
        refine TE_q rfl rfl (RD.sliceA Tryd.runUnderlying28 Tryd.sizeOf5 rfl rfl (Nat.le_refl _)) rfl ?_
        refine TE_q rfl rfl (RD.move rfl) rfl ?_
        refine TE_l rfl rfl trivial rfl (RD.copy0 Tryd.underlying35 elByte rfl rfl) rfl ?_
        refine TE_nil0 ?_
        refine pn_plain [] rfl ?_
        refine TE_q rfl rfl (RD.move rfl) rfl ?_
        refine TE_store (i := 0) rfl Tryd.sizeOf32 trivial rfl rfl rfl rfl rfl rfl (.inl hb5) ?_
        refine TE_nil0 ?_
        refine pn_seq ?_
        refine pn_seq ?_
        refine pn_plain [] rfl ?_
        refine TE_l rfl rfl trivial rfl (RD.load (i := 0) Tryd.isAgg32 rfl rfl rfl) rfl ?_
        refine TE_q rfl rfl (RD.as (v := .bool false) (RD.eql rfl rfl) (by rw [decide_eq_false he])) rfl ?_
        refine TE_nil0 ?_
        refine pn_condF rfl ?_
        refine pn_skip ?_
        refine pn_seq ?_
        refine pn_seq ?_
        refine pn_plain [] rfl ?_
        refine TE_l rfl rfl trivial rfl (RD.load (i := 0) Tryd.isAgg32 rfl rfl rfl) rfl ?_
        refine TE_q rfl rfl (RD.as (v := .bool true) (RD.neq rfl rfl) (by rw [decide_eq_false he]; rfl)) rfl ?_
        refine TE_nil0 ?_
        refine pn_condT rfl ?_
        refine pn_seq ?_
        refine pn_drawT [1] [2] [0, 1, 3, 4] [_, _, _, _, _] _ rfl rfl (by kernel_rfl) (by kernel_rfl) rfl rfl ?_
        refine TE_q rfl rfl (RD.build rfl bd_rec0) rfl ?_
        refine TE_q rfl rfl (RD.load (i := 0) Tryd.isAgg32 rfl rfl rfl) rfl ?_
        refine TE_put (i := 0) rfl Tryd.sizeOf30 trivial rfl rfl rfl rfl rfl rfl (.inl hb2) ?_
        refine TE_q rfl rfl (RD.assign rfl) rfl ?_
        refine TE_nil ?_
        refine pn_ret ?_
        exact lv_ret (lv_mark [_, _, _, _] _ rfl hD (lv_end rfl ⟨recV zeroR, _, b2, 0, rfl, rfl, load_agg (i := 0) Tryd.isAgg30 Tryd.sizeOf30 rfl (by rw [size_putL]; exact Nat.le_of_ble_eq_true rfl) (put_agg rfl rfl rfl rfl), _, _, rfl, rfl, rfl⟩ (.inr ⟨e, _, r', by rw [recD_run, hrun]; exact tail_E hc1 hd, he, rfl, rfl, hq', by omega⟩) (fun w h => h.sub (.cons _ (.cons _ (.cons _ (.cons _ (List.Sublist.refl _)))))) in_src))
    · refine pn_skip ?_
      refine pn_seq ?_
      refine pn_seq ?_
      refine pn_plain [] rfl ?_
      refine TE_l rfl rfl trivial rfl (RD.load (i := 0) Tryd.isAgg32 rfl rfl rfl) rfl ?_
      refine TE_q rfl rfl (RD.eql rfl rfl) rfl ?_
      refine TE_nil0 ?_
      refine pn_condT rfl ?_
      refine pn_plain [] rfl ?_
      refine TE_l rfl rfl trivial rfl (RD.loadA (v := recV q) (i := 1) Tryd.isAgg30 Tryd.sizeOf30 rfl rfl (Nat.le_of_ble_eq_true rfl) (rec_all _)) rfl ?_
      refine TE_call rfl rfl trivial Tryd.call9 rfl rfl rfl (fun w hs' => c_recCheck q g w hqo hg (by omega) (hs'.hp.left.sub (.cons _ (.cons _ (.cons _ (.cons_cons _ (List.nil_sublist _))))))) ?_
      rintro v35 H1 ⟨rfl, rfl⟩ -
      refine TE_store (i := 0) rfl Tryd.sizeOf32 trivial rfl rfl rfl rfl rfl rfl (.inl hb5) ?_
      refine TE_nil0 ?_
      refine pn_seq ?_
      refine pn_seq ?_
      refine pn_plain [] rfl ?_
      refine TE_l rfl rfl trivial rfl (RD.load (i := 0) Tryd.isAgg32 rfl rfl rfl) rfl ?_
      refine TE_q rfl rfl (RD.neq rfl rfl) rfl ?_
      refine TE_nil0 ?_
      first | refine pn_condD rfl (fun hc5 => ?_) (fun hc5 => ?_) | refine pn_condN rfl (fun hc5 => ?_) (fun hc5 => ?_) | refine pn_cond rfl (fun hc5 => ?_) (fun hc5 => ?_)
      · refine pn_seq ?_
        refine pn_drawT [1] [2] [0, 1, 3, 4] [_, _, _, _, _] _ rfl rfl (by kernel_rfl) (by kernel_rfl) rfl rfl ?_
        refine TE_q rfl rfl (RD.build rfl bd_rec0) rfl ?_
        refine TE_q rfl rfl (RD.load (i := 0) Tryd.isAgg32 rfl rfl rfl) rfl ?_
        refine TE_put (i := 0) rfl Tryd.sizeOf30 trivial rfl rfl rfl rfl rfl rfl (.inl hb2) ?_
        refine TE_q rfl rfl (RD.assign rfl) rfl ?_
        refine TE_nil ?_
        refine pn_ret ?_
        rw [err1 hc5]; exact lv_ret (lv_mark [_, _, _, _] _ rfl hD (lv_end rfl ⟨recV zeroR, _, b2, 0, rfl, rfl, load_agg (i := 0) Tryd.isAgg30 Tryd.sizeOf30 rfl (by rw [size_putL]; exact Nat.le_of_ble_eq_true rfl) (put_agg rfl rfl rfl rfl), _, _, rfl, rfl, rfl⟩ (.inr ⟨120, _, r, by rw [recD_run, hrun]; exact tail_F' hc1 (err1 hc5), by decide, rfl, rfl, hq, hl⟩) (fun w h => h.sub (.cons _ (.cons _ (.cons _ (.cons _ (List.Sublist.refl _)))))) in_src))
      · refine pn_skip ?_
        refine pn_seq ?_
        refine pn_plain [] rfl ?_
        refine TE_l rfl rfl trivial rfl (RD.loadA (v := recV q) (i := 1) Tryd.isAgg30 Tryd.sizeOf30 rfl rfl (Nat.le_of_ble_eq_true rfl) (rec_all _)) rfl ?_
        refine TE_put (i := 2) rfl Tryd.sizeOf30 trivial rfl rfl rfl rfl rfl rfl (.inl hb2) ?_
        refine TE_q rfl rfl (RD.assign rfl) rfl ?_
        refine TE_nil0 ?_
        refine pn_ret ?_
        exact lv_ret (lv_mark [_, _, _, _] _ rfl hD (lv_end rfl ⟨recV q, _, b2, 0, rfl, rfl, load_agg (i := 2) Tryd.isAgg30 Tryd.sizeOf30 rfl (by rw [size_putL]; exact Nat.le_of_ble_eq_true rfl) (put_agg rfl rfl rfl rfl), _, _, rfl, rfl, rfl⟩ (.inl ⟨q, r, _, by rw [recD_run, hrun]; exact tail_F hc1 (err0 hc5), rfl, rfl, hq, hl⟩) (fun w h => h.sub (.cons _ (.cons _ (.cons _ (.cons _ (List.Sublist.refl _)))))) in_src))
  · rintro D HI' c0 pre ⟨cs, v, e⟩ hD hpre ⟨rfl, he, hrun, r, hq, hl⟩ rfl; dsimp only at he hrun hq; refine pn_perm ((b5, .cells #[.int .i64 e] 32 (0, 0)) :: (b4, .cells cs 30 (0, 0)) :: (b2, .cells (recV zeroR).cells 30 (0, 0)) :: (0, g) :: (D, .deferred (some [])) :: srcM s v HX) (fun w h => Hp.pickT (A := [_, _, _, _, _, _, _, _, _, _]) (T := HX) (is := [7, 8, 5, 6, 2, 9]) (Hp.perm (A := decJ b5 b4 s HX (cs, v, e) ++ (pclM x5 bs x2 x3 ++ ((D, .deferred (some [])) :: [(x3, .cells #[.pointer (some ⟨b4, 0, none⟩)] 80 (0, 0)), (x2, .cells #[.pointer (some ⟨s, 0, none⟩)] 37 (0, 0)), (b2, .cells (recV zeroR).cells 30 (0, 0)), (0, g)]))) h List.perm_append_comm) rfl rfl) ?_; refine pn_exit ?_
    refine pn_seq ?_
    refine pn_seq ?_
    refine pn_plain [] rfl ?_
    refine TE_l rfl rfl trivial rfl (RD.load (i := 0) Tryd.isAgg32 rfl rfl rfl) rfl ?_
    refine TE_q rfl rfl (RD.as (v := .bool false) (RD.eql rfl rfl) (by rw [decide_eq_false he])) rfl ?_
    refine TE_q rfl rfl (RD.move rfl) rfl ?_
    refine TE_isF ?_
    first | (refine TE_s rfl rfl rfl rfl rfl ?_) | (refine TE_gq rfl rfl rfl rfl (RD.fieldAddr (o := 19) Tryd.runUnderlying30 rfl rfl Tryd.sizeOf4 rfl) rfl ?_)
    first | (refine TE_s rfl rfl rfl rfl rfl ?_) | (refine TE_l rfl rfl ⟨_, rfl, rfl⟩ rfl (RD.load (i := 1) Tryd.isAgg4 rfl rfl rfl) rfl ?_)
    first | (refine TE_q rfl rfl (RD.pickT rfl rfl) rfl ?_) | (refine TE_q rfl rfl (RD.pickF rfl rfl) rfl ?_)
    refine TE_nil0 ?_
    refine pn_condF rfl ?_
    refine pn_skip ?_
    refine pn_seq ?_
    refine pn_seq ?_
    refine pn_plain [] rfl ?_
    refine TE_l rfl rfl trivial rfl (RD.load (i := 0) Tryd.isAgg32 rfl rfl rfl) rfl ?_
    refine TE_q rfl rfl (RD.as (v := .bool false) (RD.eql rfl rfl) (by rw [decide_eq_false he])) rfl ?_
    refine TE_nil0 ?_
    refine pn_condF rfl ?_
    refine pn_skip ?_
    refine pn_seq ?_
    refine pn_seq ?_
    refine pn_plain [] rfl ?_
    refine TE_l rfl rfl trivial rfl (RD.load (i := 0) Tryd.isAgg32 rfl rfl rfl) rfl ?_
    refine TE_q rfl rfl (RD.as (v := .bool true) (RD.neq rfl rfl) (by rw [decide_eq_false he]; rfl)) rfl ?_
    refine TE_nil0 ?_
    refine pn_condT rfl ?_
    refine pn_seq ?_
    refine pn_drawT [1] [2] [0, 1, 3, 4] [_, _, _, _, _] _ rfl rfl (by kernel_rfl) (by kernel_rfl) rfl rfl ?_
    refine TE_q rfl rfl (RD.build rfl bd_rec0) rfl ?_
    refine TE_q rfl rfl (RD.load (i := 0) Tryd.isAgg32 rfl rfl rfl) rfl ?_
    refine TE_put (i := 0) rfl Tryd.sizeOf30 trivial rfl rfl rfl rfl rfl rfl (.inl hb2) ?_
    refine TE_q rfl rfl (RD.assign rfl) rfl ?_
    refine TE_nil ?_
    refine pn_ret ?_
    exact lv_ret (lv_mark [_, _, _, _] _ rfl hD (lv_end rfl ⟨recV zeroR, _, b2, 0, rfl, rfl, load_agg (i := 0) Tryd.isAgg30 Tryd.sizeOf30 rfl (by rw [size_putL]; exact Nat.le_of_ble_eq_true rfl) (put_agg rfl rfl rfl rfl), _, _, rfl, rfl, rfl⟩ (.inr ⟨e, _, r, by rw [recD_run, runD_err _ _ _ _ _ hpre hrun], he, rfl, rfl, hq, hl⟩) (fun w h => h.sub (.cons _ (.cons _ (.cons _ (.cons _ (List.Sublist.refl _)))))) in_src))

end Go.Proofs.YthagkkmbbncclaaDoor
