/-
  A table that knows more functions answers no otherwise.
-/
import Derived.Test.YtdhebofenihjmaaGreatDoorEvX
set_option linter.all false
namespace Go.Ev
def a8r (T0 T:Nat→yF):Prop:=∀g,(∀af,T0 g= .code af→T g= .code af)∧(∀ps rs G,T0 g= .given ps rs G→∃G',T g= .given ps rs G'∧∀r o,G r=some o→G' r=some o)∧(∀af,T0 g= .imp af→T g= .imp af)
theorem a4C {T0 T:Nat→yF} (hT:a8r T0 T):∀n,aHj aVa (fun b:Bool=>match b with |false=>tC T0 n |true=>tC T n)
 |0=>⟨fun f r=>fun x h=>by simp[tC]at h,fun f r=>fun x h=>by simp[tC]at h,fun c sh outs h ps=>fun x hx=>by simp[tC]at hx⟩
 |n+1=>by
  have ih:=a4C hT n
  refine ⟨fun f r=> ?_,fun f r=> ?_,fun c sh outs h ps=> ?_⟩
  ·show OLe ((tC T0 (n+1)).pc f r) ((tC T (n+1)).pc f r)
   simp only[tC]
   cases h0:T0 f with
   |code af=>rw[(hT f).1 af h0];exact aU8 ih af r
   |given ps rs g=>
    obtain ⟨G',e,k⟩:=(hT f).2.1 ps rs g h0
    rw[e];exact fun o h=>k _ o h
   |_=>exact fun x h=>by cases h
  ·show OLe ((tC T0 (n+1)).ic f r) ((tC T (n+1)).ic f r)
   simp only[tC]
   cases h0:T0 f with
   |imp af=>rw[(hT f).2.2 af h0];exact aU9 ih af r
   |_=>exact fun x h=>by cases h
  ·show OLe ((tC T0 (n+1)).fix (stepOf (tC T0 (n+1)) c sh outs) ps) ((tC T (n+1)).fix (stepOf (tC T (n+1)) c sh outs) ps)
   exact aA5 (fun X X' hX ps=>h (fun b=>match b with |false=>X |true=>X') hX ps) (n+1) (n+1) (Nat.le_refl _) ps
theorem bAd {T0 T:Nat→yF} (hT:a8r T0 T) {f:Nat} {r o:List Row} (h:(eA T0).pc f r=some o):(eA T).pc f r=some o:=by
 obtain ⟨n,hn⟩:=(gQ T0).1 h
 exact (gQ T).2 ⟨n,(a4C hT n).pc f r o hn⟩
end Go.Ev
