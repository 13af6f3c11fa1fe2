import Derived.Test.YtaakjgmehbbgfaaGreatDoorS19
import Derived.Test.YtaakjgmehbbgfaaGreatDoorSa2
namespace Go.Proofs.YtaakjgmehbbgfaaGreatDoor
open Go Go.Mv
set_option maxRecDepth 8000
def dlt (x y : Rec) : Prop := dotCmp x.s x.c y.s y.c < 0
theorem dlt_iff {x y : Rec} : dlt x y ↔ x.s < y.s ∨ (x.s = y.s ∧ x.c < y.c) := dotCmp_lt
instance (x y : Rec) : Decidable (dlt x y) := inferInstanceAs (Decidable (dotCmp x.s x.c y.s y.c < 0))
def Srt (l : List Rec) : Prop := l.Pairwise dlt
def insD (r : Rec) : List Rec → List Rec
  | [] => [r]
  | x :: t => if dlt r x then r :: x :: t else x :: insD r t
theorem insD_perm (r : Rec) : ∀ l, (insD r l).Perm (l ++ [r])
  | [] => List.Perm.refl _
  | x :: t => by
    unfold insD; split
    · exact (List.perm_append_comm (l₁ := [r])).trans (List.Perm.refl _)
    · exact List.Perm.cons x (insD_perm r t)
theorem insD_mem {r x : Rec} {l : List Rec} : x ∈ insD r l ↔ x ∈ l ∨ x = r := by
  rw [(insD_perm r l).mem_iff]; simp
theorem insD_srt {r : Rec} : ∀ {l : List Rec}, Srt l → (∀ x ∈ l, dotK x ≠ dotK r) → Srt (insD r l)
  | [], _, _ => List.pairwise_singleton _ _
  | x :: t, h, hn => by
    obtain ⟨hx, ht⟩ := List.pairwise_cons.1 h
    unfold insD; split
    · rename_i hr
      refine List.pairwise_cons.2 ⟨fun y hy => ?_, h⟩
      rcases List.mem_cons.1 hy with rfl | hy
      · exact hr
      · have := hx y hy
        rw [dlt_iff] at *; omega
    · rename_i hr
      refine List.pairwise_cons.2 ⟨fun y hy => ?_, insD_srt ht fun y hy => hn y (List.mem_cons_of_mem _ hy)⟩
      rcases insD_mem.1 hy with hy | rfl
      · exact hx y hy
      · have h1 := hn x List.mem_cons_self
        have h2 : ¬ (x.s = y.s ∧ x.c = y.c) := fun h => h1 (by simp [dotK, h.1, h.2])
        rw [dlt_iff] at hr ⊢; omega
def badB (ref : ByteArray) (l : List Rec) (r : Rec) : Bool := !recOkB r || !decide (r.ref = ref) || l.any fun x => decide (dotK x = dotK r)
theorem badB_iff {ref : ByteArray} {l : List Rec} {r : Rec} : badA ref l r ↔ badB ref l r = true := by
  simp [badA, badB, or_assoc]
def apL (ref : ByteArray) (l : List Rec) (r : Rec) : List Rec := if badB ref l r then l else if lateB l r then stayL l r else insD r (stayL l r)
def apG (ref : ByteArray) (l : List Rec) (r : Rec) : Int := if badB ref l r then 0 else (l.length : Int) - (stayL l r).length
def apE (ref : ByteArray) (l : List Rec) (r : Rec) : Int := if badB ref l r then 190 else 0
theorem Srt.stay {l : List Rec} (h : Srt l) (r : Rec) : Srt (stayL l r) := h.sublist List.filter_sublist
theorem Srt.inj {l : List Rec} (h : Srt l) {x y : Rec} (hx : x ∈ l) (hy : y ∈ l) (he : dotK x = dotK y) : x = y := by
  obtain ⟨i, hi, rfl⟩ := List.getElem_of_mem hx
  obtain ⟨j, hj, rfl⟩ := List.getElem_of_mem hy
  have hk : (l[i]).s = (l[j]).s ∧ (l[i]).c = (l[j]).c := by simpa [dotK] using he
  rcases Nat.lt_trichotomy i j with h1 | h1 | h1
  · have h9 := List.pairwise_iff_getElem.1 h i j hi hj h1
    have h2 := dlt_iff.1 h9
    omega
  · subst h1; rfl
  · have h9 := List.pairwise_iff_getElem.1 h j i hj hi h1
    have h2 := dlt_iff.1 h9
    omega
theorem ApR_ap {ref : ByteArray} {l l' : List Rec} {r : Rec} {gone e : Int} (hs : Srt l) (h : ApR ref l r l' gone e) : l' = apL ref l r ∧ gone = apG ref l r ∧ e = apE ref l r := by
  rcases h with ⟨hb, rfl, rfl, rfl⟩ | ⟨hb, rfl, rfl, h⟩
  · rw [badB_iff] at hb; simp [apL, apG, apE, hb]
  · rw [badB_iff] at hb
    have hb' : badB ref l r = false := by simpa using hb
    refine ⟨?_, by simp [apG, hb'], by simp [apE, hb']⟩
    rcases h with ⟨hl, rfl⟩ | ⟨hl, hp, hw⟩
    · simp [apL, hb', hl]
    · have hn : ∀ x ∈ stayL l r, dotK x ≠ dotK r := fun x hx he => by
        have := (List.any_eq_false.1 ((Bool.or_eq_false_iff.1 hb').2)) x ((List.mem_filter.1 hx).1)
        simp [he] at this
      have hi := insD_srt (hs.stay r) hn
      have hp2 : l'.Perm (insD r (stayL l r)) := hp.trans (insD_perm r _).symm
      simp only [apL, hb', hl, Bool.false_eq_true, if_false]
      refine List.Perm.eq_of_pairwise (le := fun x y => ¬ dlt y x) (fun a b ha hb' h1 h2 => ?_) hw (hi.imp fun {a b} h => ?_) hp2
      · refine hi.inj (hp2.mem_iff.1 ha) hb' ?_
        rw [dlt_iff] at h1 h2
        have : a.s = b.s ∧ a.c = b.c := by omega
        simp [dotK, this.1, this.2]
      · rw [dlt_iff] at *; omega
theorem c_sibApplyF (bs : Nat) (ref : ByteArray) (l : List Rec) (st : SnkS) (r : Rec) (g : Obj) (HX : Mem) (w : World) (hne : ref ≠ ⟨#[]⟩) (hbo : BldOk 52 recC l st) (hok : ∀ x ∈ l, RecOk x) (hr : RecOk r) (hsz : r.ref.size < 4294967281) (hlen : l.length ≤ 1000) (hg : GOk g) (hs : Srt l) (hH : Hp ((bs, .cells #[.string ref, bldVx l st] 56 (0, 0)) :: (0, g) :: (bldMx 40 recC l st ++ HX)) w) :
    Calls Tryz.prog 16 #[.pointer (some ⟨bs, 0, none⟩), recV r] w (Ret w (keys ((bs, .cells #[.string ref, bldVx l st] 56 (0, 0)) :: bldMx 40 recC l st)) fun v H1 => ∃ st', v = .tuple #[.int .i64 (apG ref l r), .int .i64 (apE ref l r)] ∧ BldOk 52 recC (apL ref l r) st' ∧ H1 = (bs, .cells #[.string ref, bldVx (apL ref l r) st'] 56 (0, 0)) :: bldMx 40 recC (apL ref l r) st') :=
  (c_sibApply bs ref l st r g HX w hne hbo hok hr hsz hlen hg hH).mono (by
    rintro e w' ⟨v, H1, rfl, ⟨l', st', gone, e2, rfl, hb, ha, rfl⟩, h1, h2, h3⟩
    obtain ⟨rfl, rfl, rfl⟩ := ApR_ap hs ha
    exact ⟨_, _, rfl, ⟨st', rfl, hb, rfl⟩, h1, h2, h3⟩)

theorem ne97 : (⟨#[97]⟩ : ByteArray) ≠ ⟨#[]⟩ := by decide
theorem bk97 : breaksN ⟨#[97]⟩ = 0 := by kernel_rfl
theorem ofR_ok {s t : Int} {l : List Int} (hs : 0 ≤ s ∧ s < 16) (ht : 0 ≤ t ∧ t ≤ 255) (h : VecOk (ctxOf l)) : RecOk (ofR s t l) :=
  ⟨by simp only [ofR, i64Ok]; omega, by have := h s.toNat; simp only [ofR, i64Ok]; omega, h, fun i => by simp only [ofR]; split <;> omega⟩
theorem vok (l : List Int) (h : l.all (fun x => decide (0 ≤ x ∧ x ≤ 4294967295)) = true) : VecOk (ctxOf l) := ctxOf_ok fun x hx => by simpa using List.all_eq_true.1 h x hx
theorem al1 : apL ⟨#[97]⟩ [] (ofR 0 1 []) = [ofR 0 1 []] ∧ apG ⟨#[97]⟩ [] (ofR 0 1 []) = 0 ∧ apE ⟨#[97]⟩ [] (ofR 0 1 []) = 0 := ⟨by kernel_rfl, by kernel_rfl, by kernel_rfl⟩
theorem al2 : apL ⟨#[97]⟩ [ofR 0 1 []] (ofR 1 2 []) = [ofR 0 1 [], ofR 1 2 []] ∧ apG ⟨#[97]⟩ [ofR 0 1 []] (ofR 1 2 []) = 0 ∧ apE ⟨#[97]⟩ [ofR 0 1 []] (ofR 1 2 []) = 0 := ⟨by kernel_rfl, by kernel_rfl, by kernel_rfl⟩
theorem al3 : apL ⟨#[97]⟩ [ofR 0 1 [], ofR 1 2 []] (ofR 0 0 [1]) = [ofR 0 0 [1], ofR 1 2 []] ∧ apG ⟨#[97]⟩ [ofR 0 1 [], ofR 1 2 []] (ofR 0 0 [1]) = 1 ∧ apE ⟨#[97]⟩ [ofR 0 1 [], ofR 1 2 []] (ofR 0 0 [1]) = 0 := ⟨by kernel_rfl, by kernel_rfl, by kernel_rfl⟩

theorem idl (a b : Nat → Int) (h : idCmp a b < 0) {ts : List (Nat → Int)} (hs : SetOf [a, b] ts) : ts = [a, b] :=
  hs.uniq ⟨List.pairwise_cons.2 ⟨fun x hx => by simp only [List.mem_cons, List.not_mem_nil, or_false] at hx; subst hx; exact h, List.pairwise_singleton _ _⟩, fun x => Iff.rfl⟩
theorem al4 {ts : List (Nat → Int)} (h : SetOf (tipsL (alL [ofR 0 1 [], ofR 1 2 []])) ts) : sameIL ts [fun i => if i = 0 then 1 else 0, fun i => if i = 0 then 2 else 0] = true := by
  rw [show tipsL (alL [ofR 0 1 [], ofR 1 2 []]) = [canI (ofR 0 1 []).tip, canI (ofR 1 2 []).tip] from by kernel_rfl] at h
  rw [idl _ _ (by have : idCmp (canI (ofR 0 1 []).tip) (canI (ofR 1 2 []).tip) = -1 := by kernel_rfl
                  omega) h]
  kernel_rfl
theorem al5 {ts : List (Nat → Int)} (h : SetOf (tipsL (alL [ofR 0 0 [1], ofR 1 2 []])) ts) : sameIL ts [fun i => if i = 0 then 2 else 0] = true := by
  rw [show tipsL (alL [ofR 0 0 [1], ofR 1 2 []]) = [canI (ofR 1 2 []).tip] from by kernel_rfl] at h
  rw [h.uniq (ys := [canI (ofR 1 2 []).tip]) ⟨List.pairwise_singleton _ _, fun x => Iff.rfl⟩]
  kernel_rfl

theorem c_alive19  (g : Obj) (w : World) (hg : GOk g) (hH : Hp [(0, g)] w) : Calls Tryz.prog 14 #[] w (Ret w [] fun v H1 => v = .bool true ∧ H1 = []) := by
  refine fn_enter (args := []) Tryz.func14 rfl Tryz.ntmps14 rfl hH ?_
  refine pn_seq ?_
  refine pn_plain [] rfl ?_
  refine TE_q rfl rfl (RD.assign rfl) rfl ?_
  refine TE_nil0 ?_
  refine pn_seq ?_
  refine pn_plain [] rfl ?_
  refine TE_callG _ [(0, g)] rfl rfl trivial Tryz.call15 rfl rfl rfl (fun w hw => c_sibNew ⟨#[97]⟩ g w hg (by decide) bk97 (hw.sp (fun a => by simp -failIfUnchanged <;> omega))) (fun a => by simp -failIfUnchanged <;> omega) ?_
  rintro v3 H4 ⟨bs1, rfl, rfl⟩ hX2
  refine TE_sp [(bs1, .cells #[.string ⟨#[97]⟩, .slice none 0 0] 56 (0, 0)), (0, g)] (fun a => by simp -failIfUnchanged <;> omega) ?_
  refine TE_q rfl rfl (RD.move rfl) rfl ?_
  refine TE_q rfl rfl (RD.extract rfl rfl) rfl ?_
  refine TE_q rfl rfl (RD.extract rfl rfl) rfl ?_
  refine TE_q rfl rfl (RD.assign rfl) rfl ?_
  refine TE_q rfl rfl (RD.assign rfl) rfl ?_
  refine TE_nil0 ?_
  refine pn_seq ?_
  refine pn_plain [] rfl ?_
  refine TE_q rfl rfl (RD.move rfl) rfl ?_
  refine TE_callG _ [] rfl rfl trivial Tryz.call22 rfl rfl rfl (fun w hw => c_of19 0 1 (.slice none 0 0) [] [] w (by omega) Rdx.nil (by decide) (vok _ rfl) (hw.sp (fun a => by simp -failIfUnchanged <;> omega))) (fun a => by simp -failIfUnchanged <;> omega) ?_
  rintro v5 H6 ⟨rfl, rfl⟩ -
  refine TE_callM _ [(bs1, .cells #[.string ⟨#[97]⟩, .slice none 0 0] 56 (0, 0))] [(0, g)] [(bs1, .cells #[.string ⟨#[97]⟩, .slice none 0 0] 56 (0, 0)), (0, g)] rfl rfl trivial Tryz.call16 rfl rfl rfl (ownC (.inl (hX2 _ List.mem_cons_self)) own0) (fun a => by simp -failIfUnchanged <;> omega) (fun w hw => (by have h := c_sibApplyF bs1 ⟨#[97]⟩ [] none (ofR 0 1 []) g [] w ne97 BldOk.nil (by simp) (ofR_ok (s := 0) (t := 1) (l := []) (by decide) (by decide) (vok _ rfl)) (by show ByteArray.size ⟨#[97]⟩ < 4294967281; decide) (by decide) hg List.Pairwise.nil (hw.sp (fun a => by simp -failIfUnchanged <;> omega)); rw [al1.1, al1.2.1, al1.2.2] at h; exact h)) (fun a => by simp -failIfUnchanged <;> omega) ?_
  rintro v11 H12 ⟨st7, rfl, hbo8, rfl⟩ hX9
  have hRD10 : Rdx 52 (recC) (bldMx 40 (recC) [ofR 0 1 []] st7) (bldVx [ofR 0 1 []] st7) [ofR 0 1 []] := hbo8.rdx (u := 40) recC_len
  refine TE_sp ((bs1, .cells #[.string ⟨#[97]⟩, bldVx [ofR 0 1 []] st7] 56 (0, 0)) :: (0, g) :: (bldMx 40 (recC) [ofR 0 1 []] st7)) (fun a => by simp -failIfUnchanged <;> omega) ?_
  refine TE_q rfl rfl (RD.move rfl) rfl ?_
  refine TE_q rfl rfl (RD.extract rfl rfl) rfl ?_
  refine TE_q rfl rfl (RD.extract rfl rfl) rfl ?_
  refine TE_q rfl rfl (RD.assign rfl) rfl ?_
  refine TE_q rfl rfl (RD.assign rfl) rfl ?_
  refine TE_nil0 ?_
  refine pn_seq ?_
  refine pn_plain [] rfl ?_
  refine TE_q rfl rfl (RD.move rfl) rfl ?_
  refine TE_callG _ [] rfl rfl trivial Tryz.call22 rfl rfl rfl (fun w hw => c_of19 1 2 (.slice none 0 0) [] [] w (by omega) Rdx.nil (by decide) (vok _ rfl) (hw.sp (fun a => by simp -failIfUnchanged <;> omega))) (fun a => by simp -failIfUnchanged <;> omega) ?_
  rintro v13 H14 ⟨rfl, rfl⟩ -
  refine TE_callM _ ((bs1, .cells #[.string ⟨#[97]⟩, bldVx [ofR 0 1 []] st7] 56 (0, 0)) :: (bldMx 40 (recC) [ofR 0 1 []] st7)) [(0, g)] ((bs1, .cells #[.string ⟨#[97]⟩, bldVx [ofR 0 1 []] st7] 56 (0, 0)) :: (0, g) :: (bldMx 40 (recC) [ofR 0 1 []] st7)) rfl rfl trivial Tryz.call16 rfl rfl rfl (ownC (.inl (hX2 _ List.mem_cons_self)) (fun e he => hX9 e (List.mem_cons_of_mem _ he))) (fun a => by simp -failIfUnchanged <;> omega) (fun w hw => (by have h := c_sibApplyF bs1 ⟨#[97]⟩ [ofR 0 1 []] st7 (ofR 1 2 []) g [] w ne97 hbo8 (by intro x hx; simp only [List.mem_cons, List.not_mem_nil, or_false] at hx; rcases hx with rfl <;> exact ofR_ok (by decide) (by decide) (vok _ rfl)) (ofR_ok (s := 1) (t := 2) (l := []) (by decide) (by decide) (vok _ rfl)) (by show ByteArray.size ⟨#[97]⟩ < 4294967281; decide) (by decide) hg (List.pairwise_singleton _ _) (hw.sp (fun a => by simp -failIfUnchanged <;> omega)); rw [al2.1, al2.2.1, al2.2.2] at h; exact h)) (fun a => by simp -failIfUnchanged <;> omega) ?_
  rintro v19 H20 ⟨st15, rfl, hbo16, rfl⟩ hX17
  have hRD18 : Rdx 52 (recC) (bldMx 40 (recC) [ofR 0 1 [], ofR 1 2 []] st15) (bldVx [ofR 0 1 [], ofR 1 2 []] st15) [ofR 0 1 [], ofR 1 2 []] := hbo16.rdx (u := 40) recC_len
  refine TE_sp ((bs1, .cells #[.string ⟨#[97]⟩, bldVx [ofR 0 1 [], ofR 1 2 []] st15] 56 (0, 0)) :: (0, g) :: (bldMx 40 (recC) [ofR 0 1 [], ofR 1 2 []] st15)) (fun a => by simp -failIfUnchanged <;> omega) ?_
  refine TE_q rfl rfl (RD.move rfl) rfl ?_
  refine TE_q rfl rfl (RD.extract rfl rfl) rfl ?_
  refine TE_q rfl rfl (RD.extract rfl rfl) rfl ?_
  refine TE_q rfl rfl (RD.assign rfl) rfl ?_
  refine TE_q rfl rfl (RD.assign rfl) rfl ?_
  refine TE_nil0 ?_
  refine pn_seq ?_
  refine pn_plain [] rfl ?_
  refine TE_q rfl rfl (RD.move rfl) rfl ?_
  refine TE_callG _ ((bs1, .cells #[.string ⟨#[97]⟩, bldVx [ofR 0 1 [], ofR 1 2 []] st15] 56 (0, 0)) :: (bldMx 40 (recC) [ofR 0 1 [], ofR 1 2 []] st15)) rfl rfl trivial Tryz.call19 rfl rfl rfl (fun w hw => c_sibTips bs1 ⟨#[97]⟩ (bldVx [ofR 0 1 [], ofR 1 2 []] st15) (bldMx 40 (recC) [ofR 0 1 [], ofR 1 2 []] st15) [ofR 0 1 [], ofR 1 2 []] w ne97 (hRD18.mono (fun _ hw => hw.sp (fun a => by simp -failIfUnchanged <;> omega))) (by intro x hx; simp only [List.mem_cons, List.not_mem_nil, or_false] at hx; rcases hx with rfl | rfl <;> exact ofR_ok (by decide) (by decide) (vok _ rfl)) (by decide) (hw.sp (fun a => by simp -failIfUnchanged <;> omega))) (fun a => by simp -failIfUnchanged <;> omega) ?_
  rintro v28 H29 ⟨ts21, st23, hset22, hbo24, rfl, rfl⟩ hX25
  have hRD26 : Rdx 32 (idC) (bldMx 38 (idC) ts21 st23) (bldVx ts21 st23) ts21 := hbo24.rdx (u := 38) idC_len
  have hln27 : ts21.length ≤ ([ofR 0 1 [], ofR 1 2 []]).length := by have h := setOf_len hset22; rw [tipsL_len] at h; have h2 := alL_le ([ofR 0 1 [], ofR 1 2 []]); omega
  have hahln27 : ts21.length ≤ (alL [ofR 0 1 [], ofR 1 2 []]).length := by have h := setOf_len hset22; rw [tipsL_len] at h; exact h
  simp only [List.length_cons, List.length_nil] at hln27
  refine TE_sp ((bs1, .cells #[.string ⟨#[97]⟩, bldVx [ofR 0 1 [], ofR 1 2 []] st15] 56 (0, 0)) :: (0, g) :: ((bldMx 38 (idC) ts21 st23) ++ (bldMx 40 (recC) [ofR 0 1 [], ofR 1 2 []] st15))) (fun a => by simp -failIfUnchanged <;> omega) ?_
  refine TE_q rfl rfl (RD.assign rfl) rfl ?_
  refine TE_nil0 ?_
  refine pn_seq ?_
  refine pn_plain [] rfl ?_
  refine TE_q rfl rfl (RD.move rfl) rfl ?_
  refine TE_buildSlice (cells := #[.int .u32 1]) rfl Tryz.runUnderlying99 Tryz.sizeOf34 Tryz.zeroValue34 rfl rfl rfl (by kernel_rfl) trivial rfl fun b30 hb30 => ?_
  refine TE_callG _ [(b30, .cells #[.int .u32 1] 34 (0, 0))] rfl rfl trivial Tryz.call22 rfl rfl rfl (fun w hw => c_of19 0 0 (.slice (some ⟨b30, 0, none⟩) 1 1) [1] [(b30, .cells #[.int .u32 1] 34 (0, 0))] w (by omega) ((Rdx.blk (enc := enI .u32) (H := [(b30, .cells #[.int .u32 1] 34 (0, 0))]) (xs := [1]) (n := 1) (i := 0) (tl := []) (c := 1) (enI_len .u32) rfl rfl (Nat.le_refl _)).mono (fun _ hw => hw.sp (fun a => by simp -failIfUnchanged <;> omega))) (by decide) (vok _ rfl) (hw.sp (fun a => by simp -failIfUnchanged <;> omega))) (fun a => by simp -failIfUnchanged <;> omega) ?_
  rintro v30 H31 ⟨rfl, rfl⟩ -
  refine TE_callM _ ((bs1, .cells #[.string ⟨#[97]⟩, bldVx [ofR 0 1 [], ofR 1 2 []] st15] 56 (0, 0)) :: (bldMx 40 (recC) [ofR 0 1 [], ofR 1 2 []] st15)) ((b30, .cells #[.int .u32 1] 34 (0, 0)) :: (0, g) :: (bldMx 38 (idC) ts21 st23)) ((bs1, .cells #[.string ⟨#[97]⟩, bldVx [ofR 0 1 [], ofR 1 2 []] st15] 56 (0, 0)) :: (0, g) :: (bldMx 40 (recC) [ofR 0 1 [], ofR 1 2 []] st15)) rfl rfl trivial Tryz.call16 rfl rfl rfl (ownC (.inl (hX2 _ List.mem_cons_self)) (fun e he => hX17 e (List.mem_cons_of_mem _ he))) (fun a => by simp -failIfUnchanged <;> omega) (fun w hw => (by have h := c_sibApplyF bs1 ⟨#[97]⟩ [ofR 0 1 [], ofR 1 2 []] st15 (ofR 0 0 [1]) g [] w ne97 hbo16 (by intro x hx; simp only [List.mem_cons, List.not_mem_nil, or_false] at hx; rcases hx with rfl | rfl <;> exact ofR_ok (by decide) (by decide) (vok _ rfl)) (ofR_ok (s := 0) (t := 0) (l := [1]) (by decide) (by decide) (vok _ rfl)) (by show ByteArray.size ⟨#[97]⟩ < 4294967281; decide) (by decide) hg (by show List.Pairwise dlt _; simp only [List.pairwise_cons, List.mem_cons, List.not_mem_nil, or_false, forall_eq, dlt_iff, List.Pairwise.nil, and_true, false_implies, implies_true]; decide) (hw.sp (fun a => by simp -failIfUnchanged <;> omega)); rw [al3.1, al3.2.1, al3.2.2] at h; exact h)) (fun a => by simp -failIfUnchanged <;> omega) ?_
  rintro v36 H37 ⟨st32, rfl, hbo33, rfl⟩ hX34
  have hRD35 : Rdx 52 (recC) (bldMx 40 (recC) [ofR 0 0 [1], ofR 1 2 []] st32) (bldVx [ofR 0 0 [1], ofR 1 2 []] st32) [ofR 0 0 [1], ofR 1 2 []] := hbo33.rdx (u := 40) recC_len
  refine TE_sp ((bs1, .cells #[.string ⟨#[97]⟩, bldVx [ofR 0 0 [1], ofR 1 2 []] st32] 56 (0, 0)) :: (b30, .cells #[.int .u32 1] 34 (0, 0)) :: (0, g) :: ((bldMx 40 (recC) [ofR 0 0 [1], ofR 1 2 []] st32) ++ (bldMx 38 (idC) ts21 st23))) (fun a => by simp -failIfUnchanged <;> omega) ?_
  refine TE_q rfl rfl (RD.move rfl) rfl ?_
  refine TE_q rfl rfl (RD.extract rfl rfl) rfl ?_
  refine TE_q rfl rfl (RD.extract rfl rfl) rfl ?_
  refine TE_q rfl rfl (RD.assign rfl) rfl ?_
  refine TE_q rfl rfl (RD.assign rfl) rfl ?_
  refine TE_nil0 ?_
  refine pn_seq ?_
  refine pn_plainG [] ((bs1, .cells #[.string ⟨#[97]⟩, bldVx [ofR 0 0 [1], ofR 1 2 []] st32] 56 (0, 0)) :: (0, g) :: ((bldMx 40 (recC) [ofR 0 0 [1], ofR 1 2 []] st32) ++ (bldMx 38 (idC) ts21 st23))) rfl (fun a => by simp -failIfUnchanged <;> omega) ?_
  refine TE_q rfl rfl (RD.move rfl) rfl ?_
  refine TE_q rfl rfl (RD.as (v := .bool true) (RD.eql rfl rfl) rfl) rfl ?_
  refine TE_q rfl rfl (RD.move rfl) rfl ?_
  refine TE_gq rfl rfl rfl rfl (RD.move rfl) rfl ?_
  refine TE_gq rfl rfl rfl rfl (RD.as (v := .bool true) (RD.eql rfl rfl) rfl) rfl ?_
  refine TE_q rfl rfl (RD.pickT rfl rfl) rfl ?_
  refine TE_q rfl rfl (RD.move rfl) rfl ?_
  refine TE_gq rfl rfl rfl rfl (RD.move rfl) rfl ?_
  refine TE_gq rfl rfl rfl rfl (RD.as (v := .bool true) (RD.eql rfl rfl) rfl) rfl ?_
  refine TE_q rfl rfl (RD.pickT rfl rfl) rfl ?_
  refine TE_q rfl rfl (RD.move rfl) rfl ?_
  refine TE_gq rfl rfl rfl rfl (RD.move rfl) rfl ?_
  refine TE_gq rfl rfl rfl rfl (RD.move rfl) rfl ?_
  refine TE_gq rfl rfl rfl rfl (RD.as (v := .int .i64 0) (RD.addI rfl rfl (by decide) (by decide)) rfl) rfl ?_
  refine TE_gq rfl rfl rfl rfl (RD.as (v := .bool true) (RD.eql rfl rfl) rfl) rfl ?_
  refine TE_q rfl rfl (RD.pickT rfl rfl) rfl ?_
  refine TE_q rfl rfl (RD.move rfl) rfl ?_
  refine TE_gq rfl rfl rfl rfl (RD.move rfl) rfl ?_
  refine TE_gq rfl rfl rfl rfl (RD.build (v := idV (fun i => if i = 0 then 1 else 0)) rfl (bd_id1 _)) rfl ?_
  refine TE_gq rfl rfl rfl rfl (RD.build (v := idV (fun i => if i = 0 then 2 else 0)) rfl (bd_id1 _)) rfl ?_
  refine TE_buildSlice (cells := (cat idC [(fun i => if i = 0 then 1 else 0), (fun i => if i = 0 then 2 else 0)] ++ []).toArray) rfl Tryz.runUnderlying48 Tryz.sizeOf38 Tryz.zeroValue38 rfl rfl rfl (by kernel_rfl) ⟨_, rfl, rfl⟩ rfl fun b55 hb55 => ?_
  refine TE_callG _ ((b55, .cells (cat idC [(fun i => if i = 0 then 1 else 0), (fun i => if i = 0 then 2 else 0)] ++ []).toArray 38 (0, 0)) :: (bldMx 38 (idC) ts21 st23)) rfl rfl ⟨_, rfl, rfl⟩ Tryz.call21 rfl rfl rfl (fun w hw => (by have h := c_r3Same ((b55, .cells (cat idC [(fun i => if i = 0 then 1 else 0), (fun i => if i = 0 then 2 else 0)] ++ []).toArray 38 (0, 0)) :: (bldMx 38 (idC) ts21 st23)) (bldVx ts21 st23) (.slice (some ⟨b55, 0, none⟩) 2 2) ts21 [(fun i => if i = 0 then 1 else 0), (fun i => if i = 0 then 2 else 0)] w (hRD26.mono (fun _ hw => hw.sp (fun a => by simp -failIfUnchanged <;> omega))) ((Rdx.blk (enc := idC) (H := [(b55, .cells (cat idC [(fun i => if i = 0 then 1 else 0), (fun i => if i = 0 then 2 else 0)] ++ []).toArray 38 (0, 0))]) (xs := [(fun i => if i = 0 then 1 else 0), (fun i => if i = 0 then 2 else 0)]) (n := 2) (i := 0) (tl := []) (c := 2) idC_len rfl rfl (Nat.le_refl _)).mono (fun _ hw => hw.sp (fun a => by simp -failIfUnchanged <;> omega))) (by first | assumption | omega | (simp; omega)) (hw.sp (fun a => by simp -failIfUnchanged <;> omega)); rw [show (sameIL ts21 [(fun i => if i = 0 then 1 else 0), (fun i => if i = 0 then 2 else 0)]) = true from al4 (by assumption)] at h; exact h)) (fun a => by simp -failIfUnchanged <;> omega) ?_
  rintro v38 H39 ⟨rfl, rfl⟩ -
  refine TE_q rfl rfl (RD.pickT rfl rfl) rfl ?_
  refine TE_q rfl rfl (RD.move rfl) rfl ?_
  refine TE_gq rfl rfl rfl rfl (RD.move rfl) rfl ?_
  refine TE_gq rfl rfl rfl rfl (RD.as (v := .bool true) (RD.eql rfl rfl) rfl) rfl ?_
  refine TE_q rfl rfl (RD.pickT rfl rfl) rfl ?_
  refine TE_q rfl rfl (RD.move rfl) rfl ?_
  refine TE_gq rfl rfl rfl rfl (RD.move rfl) rfl ?_
  refine TE_gq rfl rfl rfl rfl (RD.as (v := .bool true) (RD.eql rfl rfl) rfl) rfl ?_
  refine TE_q rfl rfl (RD.pickT rfl rfl) rfl ?_
  refine TE_q rfl rfl (RD.move rfl) rfl ?_
  refine TE_gq rfl rfl rfl rfl (RD.move rfl) rfl ?_
  refine TE_callG _ ((bs1, .cells #[.string ⟨#[97]⟩, bldVx [ofR 0 0 [1], ofR 1 2 []] st32] 56 (0, 0)) :: (bldMx 40 (recC) [ofR 0 0 [1], ofR 1 2 []] st32)) rfl rfl ⟨_, rfl, rfl⟩ Tryz.call17 rfl rfl rfl (fun w hw => c_sibAll bs1 ⟨#[97]⟩ (bldVx [ofR 0 0 [1], ofR 1 2 []] st32) (bldMx 40 (recC) [ofR 0 0 [1], ofR 1 2 []] st32) [ofR 0 0 [1], ofR 1 2 []] w ne97 (hRD35.mono (fun _ hw => hw.sp (fun a => by simp -failIfUnchanged <;> omega))) (by intro x hx; simp only [List.mem_cons, List.not_mem_nil, or_false] at hx; rcases hx with rfl | rfl <;> exact ofR_ok (by decide) (by decide) (vok _ rfl)) (by decide) (hw.sp (fun a => by simp -failIfUnchanged <;> omega))) (fun a => by simp -failIfUnchanged <;> omega) ?_
  rintro v44 H45 ⟨st40, hbo41, rfl, rfl⟩ hX42
  have hRD43 : Rdx 52 (recC) (bldMx 40 (recC) [ofR 0 0 [1], ofR 1 2 []] st40) (bldVx [ofR 0 0 [1], ofR 1 2 []] st40) [ofR 0 0 [1], ofR 1 2 []] := hbo41.rdx (u := 40) recC_len
  refine TE_sp ((b55, .cells (cat idC [(fun i => if i = 0 then 1 else 0), (fun i => if i = 0 then 2 else 0)] ++ []).toArray 38 (0, 0)) :: (bs1, .cells #[.string ⟨#[97]⟩, bldVx [ofR 0 0 [1], ofR 1 2 []] st32] 56 (0, 0)) :: (0, g) :: ((bldMx 40 (recC) [ofR 0 0 [1], ofR 1 2 []] st40) ++ ((bldMx 40 (recC) [ofR 0 0 [1], ofR 1 2 []] st32) ++ (bldMx 38 (idC) ts21 st23)))) (fun a => by simp -failIfUnchanged <;> omega) ?_
  refine TE_buildSlice (cells := #[.int .u32 1]) rfl Tryz.runUnderlying99 Tryz.sizeOf34 Tryz.zeroValue34 rfl rfl rfl (by kernel_rfl) ⟨_, rfl, rfl⟩ rfl fun b69 hb69 => ?_
  refine TE_callG _ [(b69, .cells #[.int .u32 1] 34 (0, 0))] rfl rfl ⟨_, rfl, rfl⟩ Tryz.call22 rfl rfl rfl (fun w hw => c_of19 0 0 (.slice (some ⟨b69, 0, none⟩) 1 1) [1] [(b69, .cells #[.int .u32 1] 34 (0, 0))] w (by omega) ((Rdx.blk (enc := enI .u32) (H := [(b69, .cells #[.int .u32 1] 34 (0, 0))]) (xs := [1]) (n := 1) (i := 0) (tl := []) (c := 1) (enI_len .u32) rfl rfl (Nat.le_refl _)).mono (fun _ hw => hw.sp (fun a => by simp -failIfUnchanged <;> omega))) (by decide) (vok _ rfl) (hw.sp (fun a => by simp -failIfUnchanged <;> omega))) (fun a => by simp -failIfUnchanged <;> omega) ?_
  rintro v46 H47 ⟨rfl, rfl⟩ -
  refine TE_callG _ [] rfl rfl ⟨_, rfl, rfl⟩ Tryz.call22 rfl rfl rfl (fun w hw => c_of19 1 2 (.slice none 0 0) [] [] w (by omega) Rdx.nil (by decide) (vok _ rfl) (hw.sp (fun a => by simp -failIfUnchanged <;> omega))) (fun a => by simp -failIfUnchanged <;> omega) ?_
  rintro v48 H49 ⟨rfl, rfl⟩ -
  refine TE_buildSlice (cells := (cat recC [(ofR 0 0 [1]), (ofR 1 2 [])] ++ []).toArray) rfl Tryz.runUnderlying22 Tryz.sizeOf40 Tryz.zeroValue40 rfl rfl rfl (by kernel_rfl) ⟨_, rfl, rfl⟩ rfl fun b72 hb72 => ?_
  refine TE_callG _ ((b72, .cells (cat recC [(ofR 0 0 [1]), (ofR 1 2 [])] ++ []).toArray 40 (0, 0)) :: (bldMx 40 (recC) [ofR 0 0 [1], ofR 1 2 []] st40)) rfl rfl ⟨_, rfl, rfl⟩ Tryz.call12 rfl rfl rfl (fun w hw => (by have h := c_r12Same ((b72, .cells (cat recC [(ofR 0 0 [1]), (ofR 1 2 [])] ++ []).toArray 40 (0, 0)) :: (bldMx 40 (recC) [ofR 0 0 [1], ofR 1 2 []] st40)) (bldVx [ofR 0 0 [1], ofR 1 2 []] st40) (.slice (some ⟨b72, 0, none⟩) 2 2) [ofR 0 0 [1], ofR 1 2 []] [(ofR 0 0 [1]), (ofR 1 2 [])] w (hRD43.mono (fun _ hw => hw.sp (fun a => by simp -failIfUnchanged <;> omega))) ((Rdx.blk (enc := recC) (H := [(b72, .cells (cat recC [(ofR 0 0 [1]), (ofR 1 2 [])] ++ []).toArray 40 (0, 0))]) (xs := [(ofR 0 0 [1]), (ofR 1 2 [])]) (n := 2) (i := 0) (tl := []) (c := 2) recC_len rfl rfl (Nat.le_refl _)).mono (fun _ hw => hw.sp (fun a => by simp -failIfUnchanged <;> omega))) (by decide) (hw.sp (fun a => by simp -failIfUnchanged <;> omega)); rw [show (sameLB [ofR 0 0 [1], ofR 1 2 []] [(ofR 0 0 [1]), (ofR 1 2 [])]) = true from sameLB_self _] at h; exact h)) (fun a => by simp -failIfUnchanged <;> omega) ?_
  rintro v50 H51 ⟨rfl, rfl⟩ -
  refine TE_q rfl rfl (RD.pickT rfl rfl) rfl ?_
  refine TE_q rfl rfl (RD.move rfl) rfl ?_
  refine TE_gq rfl rfl rfl rfl (RD.move rfl) rfl ?_
  refine TE_callG _ ((bs1, .cells #[.string ⟨#[97]⟩, bldVx [ofR 0 0 [1], ofR 1 2 []] st32] 56 (0, 0)) :: (bldMx 40 (recC) [ofR 0 0 [1], ofR 1 2 []] st32)) rfl rfl ⟨_, rfl, rfl⟩ Tryz.call19 rfl rfl rfl (fun w hw => c_sibTips bs1 ⟨#[97]⟩ (bldVx [ofR 0 0 [1], ofR 1 2 []] st32) (bldMx 40 (recC) [ofR 0 0 [1], ofR 1 2 []] st32) [ofR 0 0 [1], ofR 1 2 []] w ne97 (hRD35.mono (fun _ hw => hw.sp (fun a => by simp -failIfUnchanged <;> omega))) (by intro x hx; simp only [List.mem_cons, List.not_mem_nil, or_false] at hx; rcases hx with rfl | rfl <;> exact ofR_ok (by decide) (by decide) (vok _ rfl)) (by decide) (hw.sp (fun a => by simp -failIfUnchanged <;> omega))) (fun a => by simp -failIfUnchanged <;> omega) ?_
  rintro v59 H60 ⟨ts52, st54, hset53, hbo55, rfl, rfl⟩ hX56
  have hRD57 : Rdx 32 (idC) (bldMx 38 (idC) ts52 st54) (bldVx ts52 st54) ts52 := hbo55.rdx (u := 38) idC_len
  have hln58 : ts52.length ≤ ([ofR 0 0 [1], ofR 1 2 []]).length := by have h := setOf_len hset53; rw [tipsL_len] at h; have h2 := alL_le ([ofR 0 0 [1], ofR 1 2 []]); omega
  have hahln58 : ts52.length ≤ (alL [ofR 0 0 [1], ofR 1 2 []]).length := by have h := setOf_len hset53; rw [tipsL_len] at h; exact h
  simp only [List.length_cons, List.length_nil] at hln58
  refine TE_sp ((b72, .cells (cat recC [(ofR 0 0 [1]), (ofR 1 2 [])] ++ []).toArray 40 (0, 0)) :: (b69, .cells #[.int .u32 1] 34 (0, 0)) :: (b55, .cells (cat idC [(fun i => if i = 0 then 1 else 0), (fun i => if i = 0 then 2 else 0)] ++ []).toArray 38 (0, 0)) :: (bs1, .cells #[.string ⟨#[97]⟩, bldVx [ofR 0 0 [1], ofR 1 2 []] st32] 56 (0, 0)) :: (0, g) :: ((bldMx 38 (idC) ts52 st54) ++ ((bldMx 40 (recC) [ofR 0 0 [1], ofR 1 2 []] st40) ++ ((bldMx 40 (recC) [ofR 0 0 [1], ofR 1 2 []] st32) ++ (bldMx 38 (idC) ts21 st23))))) (fun a => by simp -failIfUnchanged <;> omega) ?_
  refine TE_gq rfl rfl rfl rfl (RD.build (v := idV (fun i => if i = 0 then 2 else 0)) rfl (bd_id1 _)) rfl ?_
  refine TE_buildSlice (cells := (cat idC [(fun i => if i = 0 then 2 else 0)] ++ []).toArray) rfl Tryz.runUnderlying48 Tryz.sizeOf38 Tryz.zeroValue38 rfl rfl rfl (by kernel_rfl) ⟨_, rfl, rfl⟩ rfl fun b79 hb79 => ?_
  refine TE_callG _ ((b79, .cells (cat idC [(fun i => if i = 0 then 2 else 0)] ++ []).toArray 38 (0, 0)) :: (bldMx 38 (idC) ts52 st54)) rfl rfl ⟨_, rfl, rfl⟩ Tryz.call21 rfl rfl rfl (fun w hw => (by have h := c_r3Same ((b79, .cells (cat idC [(fun i => if i = 0 then 2 else 0)] ++ []).toArray 38 (0, 0)) :: (bldMx 38 (idC) ts52 st54)) (bldVx ts52 st54) (.slice (some ⟨b79, 0, none⟩) 1 1) ts52 [(fun i => if i = 0 then 2 else 0)] w (hRD57.mono (fun _ hw => hw.sp (fun a => by simp -failIfUnchanged <;> omega))) ((Rdx.blk (enc := idC) (H := [(b79, .cells (cat idC [(fun i => if i = 0 then 2 else 0)] ++ []).toArray 38 (0, 0))]) (xs := [(fun i => if i = 0 then 2 else 0)]) (n := 1) (i := 0) (tl := []) (c := 1) idC_len rfl rfl (Nat.le_refl _)).mono (fun _ hw => hw.sp (fun a => by simp -failIfUnchanged <;> omega))) (by first | assumption | omega | (simp; omega)) (hw.sp (fun a => by simp -failIfUnchanged <;> omega)); rw [show (sameIL ts52 [(fun i => if i = 0 then 2 else 0)]) = true from al5 (by assumption)] at h; exact h)) (fun a => by simp -failIfUnchanged <;> omega) ?_
  rintro v61 H62 ⟨rfl, rfl⟩ -
  refine TE_q rfl rfl (RD.pickT rfl rfl) rfl ?_
  refine TE_q rfl rfl (RD.assign rfl) rfl ?_
  refine TE_nil0 ?_
  refine pn_ret ?_
  exact pn_doneS [] rfl rfl ⟨rfl, rfl⟩ (fun _ => Nat.zero_le _) (fun _ he => nomatch he)

end Go.Proofs.YtaakjgmehbbgfaaGreatDoor
