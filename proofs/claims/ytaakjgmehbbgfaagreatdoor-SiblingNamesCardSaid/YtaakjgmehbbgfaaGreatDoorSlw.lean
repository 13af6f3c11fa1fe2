import Derived.Test.YtaakjgmehbbgfaaGreatDoorSrl
namespace Go.Proofs.YtaakjgmehbbgfaaGreatDoor
open Go Go.Mv
set_option maxRecDepth 8000
theorem c_sibLoadT (HX : Mem) (v : Value) (l : List Rec) (g : Obj) (w : World) (hb : Rdx 52 recC ((0, g) :: HX) v l) (hok : ∀ r ∈ l, RecOk r) (hsz : ∀ r ∈ l, r.ref.size < 4294967281) (hlen : l.length ≤ 1000000) (hg : GOk g) (hH : Hp ((0, g) :: HX) w) (h : loadOk l) : Calls Tryz.prog 10 #[v] w (Ret w [] fun r H1 => ∃ bs st, BldOk 52 recC l st ∧ r = .tuple #[.pointer (some ⟨bs, 0, none⟩), .int .i64 0] ∧ H1 = (bs, .cells #[.string (refL l), bldVx l st] 56 (0, 0)) :: bldMx 40 recC l st) :=
  (c_sibLoad HX v l g w hb hok hsz hlen hg hH).mono (by
    rintro e w' ⟨v, H1, rfl, (⟨bs, st, h1, _, h2, h3⟩ | ⟨h', _⟩), h4, h5, h6⟩
    · exact ⟨v, H1, rfl, ⟨bs, st, h1, h2, h3⟩, h4, h5, h6⟩
    · exact absurd h h')
theorem c_sibLoadF (HX : Mem) (v : Value) (l : List Rec) (g : Obj) (w : World) (hb : Rdx 52 recC ((0, g) :: HX) v l) (hok : ∀ r ∈ l, RecOk r) (hsz : ∀ r ∈ l, r.ref.size < 4294967281) (hlen : l.length ≤ 1000000) (hg : GOk g) (hH : Hp ((0, g) :: HX) w) (h : ¬ loadOk l) : Calls Tryz.prog 10 #[v] w (Ret w [] fun r H1 => r = .tuple #[.pointer none, .int .i64 190] ∧ H1 = []) :=
  (c_sibLoad HX v l g w hb hok hsz hlen hg hH).mono (by
    rintro e w' ⟨v, H1, rfl, (⟨bs, st, h1, h', h2, h3⟩ | ⟨_, h2⟩), h4, h5, h6⟩
    · exact absurd h' h
    · exact ⟨v, H1, rfl, h2, h4, h5, h6⟩)
end Go.Proofs.YtaakjgmehbbgfaaGreatDoor
