/- The reference's mover: an answer. -/
import Derived.Test.YtglcmlicfmmlpaaMoverRef4
import Derived.Test.YtglcmlicfmmlpaaMoverRef5
namespace Go.Proofs.Ytglcmlicfmmlpaa
open Go.RowKit

theorem refTold_any (g : Nat) (s : MS) (x : Mv) (ga : Int) (c : Cmd) (vc : Value) (dl kc : Nat) (Ac : Option Addr) (why : Int) (wait : Bool) (rw_ ra : Int) (vr vd : Value) (bd : List UInt8) (Gd G : Nat → Prop) (w : World) (h : RefAt w g s G) (hdl : dl ≤ 140737488355328)
    (hvc : vc = .slice Ac dl kc) (hvr : ∃ A n k, vr = .slice A n k) (hbd : Bs w Gd vd bd) (hgd : ∀ b, Gd b → b ≠ g) (hbl : bd.length ≤ 140737488351232) :
    Calls Try.prog 33 #[.pointer (some ⟨g, 0, none⟩), movV x, askV ga c vc, resV why wait rw_ ra vr vd] w (RTolded g x (mTold s x ga c dl why bd) G w) := by
  by_cases hm : ga = mFrom x c ∧ c.slot = x.slot ∧ c.epoch = x.epoch
  · by_cases k8 : c.kind = 8
    · exact refTold_8 g s x ga c vc dl kc Ac why wait rw_ ra vr vd bd Gd G w h hdl hvc hvr hbd hgd hbl hm k8
    · by_cases k9 : c.kind = 9
      · exact refTold_9 g s x ga c vc dl kc Ac why wait rw_ ra vr vd bd Gd G w h hdl hvc hvr hbd hgd hbl hm k9
      · exact refTold_10 g s x ga c vc dl kc Ac why wait rw_ ra vr vd bd Gd G w h hdl hvc hvr hbd hgd hbl hm k8 k9
  · exact refTold_not g s x ga c vc dl kc Ac why wait rw_ ra vr vd bd Gd G w h hdl hvc hvr hbd hgd hbl hm
end Go.Proofs.Ytglcmlicfmmlpaa
