import Derived.Test.YtdahnapanpiooaaGreatWTab
namespace Go.Proofs.YtdahnapanpiooaaGreatW.PrintLast
section
variable {P:Program} {ops:Array Oper} {Q:Exit->Act->World->Prop} {md:Region.Mode} {S:World->Prop} {ds:List Nat} {T:Bool×List (List Nat×List Nat)}
theorem FW {i j k m:Nat} {l li lj lk lm:Array Bool} (hT:C9 md ops=T) (h:(II T.2 l.toList == [i,j,k,m] && l.toList.set i true == li.toList && l.toList.set j true == lj.toList && l.toList.set k true == lk.toList && l.toList.set m true == lm.toList)=true):(Region.ready md ops l == [i,j,k,m] && l.setIfInBounds i true == li && l.setIfInBounds j true == lj && l.setIfInBounds k true == lk && l.setIfInBounds m true == lm)=true:=by
 simp only [Bool.and_eq_true] at h |-
 obtain ⟨⟨⟨⟨hr,hsi⟩,hsj⟩,hsk⟩,hsm⟩:=h
 subst hT
 exact ⟨⟨⟨⟨by rw [Hk];exact hr,I3 hsi⟩,I3 hsj⟩,I3 hsk⟩,I3 hsm⟩
end
end Go.Proofs.YtdahnapanpiooaaGreatW.PrintLast
