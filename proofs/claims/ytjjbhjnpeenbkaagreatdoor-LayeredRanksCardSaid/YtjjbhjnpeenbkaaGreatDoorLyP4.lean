/- LayeredRanks: its row and its card. -/
import Derived.Test.YtjjbhjnpeenbkaaGreatDoorCards
import Derived.Test.YtjjbhjnpeenbkaaGreatDoorTie
import Derived.SevenTiedAt
import Derived.RowKit
import Derived.JoinedOf
import Derived.Test.YtjjbhjnpeenbkaaGreatDoorLyA
import Derived.Test.YtjjbhjnpeenbkaaGreatDoorLyM
set_option linter.unusedSimpArgs false
set_option linter.unusedVariables false
set_option maxHeartbeats 16000000
namespace Go.Proofs.YtjjbhjnpeenbkaaGreatDoor
open Go Go.PS Go.ChangeShapes Go.WideShapes Go.ChangeAt Go.RowKit Go.Proofs.YtjjbhjnpeenbkaaGreatDoor.Gr
theorem ZnH {P:Program}{ps:Array TypeId}(h:(ps.toList.all λ t=> !P.wantsStandIn t)=true)(j:Nat)(t:TypeId)(ht:ps[j]? =some t):P.wantsStandIn t=false:=by
 have:=List.all_eq_true.1 h t (by rw[<-Array.getElem?_toList]at ht;exact List.mem_of_getElem? ht);simpa using this
theorem Tryz.own :ownKnob Tryz.prog.godebug=none:=by kernel_rfl
theorem Tryz.laidOut :laidOutB Tryz.prog=true:=by kernel_rfl
abbrev listed :List (String×DataW Unit):=[("math/bits.deBruijn32tab",Rows.laid_math_bits_deBruijn32tab),("math/bits.deBruijn64tab",Rows.laid_math_bits_deBruijn64tab)]
theorem Zkq :Tryz.prog.globalNamed "math/bits.deBruijn64tab" =some 1:=by kernel_rfl
theorem ZoJ (w:World)(h:laidMetH Tryz.prog listed w):Zej (tabs Tryz.prog) w noX:=by
 have h1:laidMet Tryz.prog listed w:=h;have h2:=h1.tail;exact Zua Zkq (Lib.tabIs_of_head Zkq (t:=289) (e:=5) (n:=64) (by kernel_rfl) (by kernel_rfl) (by kernel_rfl) (by kernel_rfl) (by kernel_rfl) (zs:=Zeq) h2)
noncomputable def ZjJ (os:Os):World:=World.laidAll Tryz.prog os listed
theorem Zns (os:Os)(args:Array Value):laidMetH Tryz.prog listed ((ZjJ os).forCall (λ _ _=>0) ⟨#[],args,[]⟩).memory:=
 laidMet_laidAll args (by kernel_rfl) (by kernel_rfl)
set_option maxRecDepth 100000 in
theorem Zyz (os:Os)(started:os.Started)(H:Type)(enc:TypeId×Value->H):
  ReturnsInHanded {} Tryz.checked os 6 .any (λ w args=>(Rows.layeredRanksSpec.pre enc Tryz.prog Tryz.f6 [] false w args/\laidMetH Tryz.prog listed w)/\sizedMet enc Tryz.prog Tryz.f6 (OpenSpec.ofChange Rows.layeredRanksSpec) false w args) (Rows.layeredRanksSpec.post enc Tryz.prog Tryz.f6 false true false false):=
 Zrp (C:=Tryz.checked) (tb:=4) Tryz.own started (by kernel_rfl) Tryz.func6
  (ChangeSpec.witness_at (enc:=enc) (C:=Tryz.checked) (os:=os) (X:=λ w _=>laidMetH Tryz.prog listed w) false (ZjJ os) #[.agg #[.string ⟨#[]⟩, .bool false, .slice none 0 0, .slice none 0 0, .slice none 0 0]] 8 (World.laidAll_os _ _ _) (by kernel_rfl) (by kernel_rfl) (by kernel_rfl) (by kernel_rfl) (by kernel_rfl) (Zns os _)) Tryz.laidOut (by kernel_rfl) (by kernel_rfl) (by kernel_rfl) rfl
  (λ ds h=>by
   match ds,h with
   |[d0],_=>rfl)
  (λ xs hl ha=>by
   match xs,hl with
   |[x0],_=>
    obtain⟨y0,rfl⟩:=Zpq (ha 0 26 x0 (by kernel_rfl) rfl);exact Zyq y0) ZoJ
theorem k_a :(Rows.layeredRanksRow.inPlace==Tryz.prog.inPlace 6)=true:=by kernel_rfl
theorem k_b :(Rows.layeredRanksRow.unfollowed==Tryz.prog.unfollowed 6)=true:=by kernel_rfl
theorem k_c :(Rows.layeredRanksRow.recurses==Tryz.prog.recurses 6)=true:=by kernel_rfl
theorem k_d :(Rows.layeredRanksRow.named==Tryz.prog.varsNamed 6)=true:=by kernel_rfl
theorem k_e :(Rows.layeredRanksRow.lifted==Tryz.prog.liftsFinal)=true:=by kernel_rfl
set_option maxRecDepth 100000 in
theorem Zyy :joinedFacts Tryz.prog 6 Tryz.f6 Rows.layeredRanksSpec Rows.layeredRanksRow=true:=by
 simp only[joinedFacts,Bool.and_eq_true]
 (repeat' apply And.intro)
 all_goals first|with_reducible exact k_a|with_reducible exact k_b|with_reducible exact k_c|with_reducible exact k_d|with_reducible exact k_e|kernel_rfl
theorem ZyA :Rows.LayeredRanksSaid:=
 OpenClaim.holds_of_wide 6 Tryz.f6 rfl rfl rfl rfl rfl rfl rfl ⟨rfl,rfl,rfl,rfl,rfl⟩ rfl rfl rfl rfl rfl (by kernel_rfl) Tryz.func6 Zyy
  (of_decide_eq_true (by kernel_rfl)) (by unfold Func.isWrapper;first|(rw[if_pos (by decide+kernel)];kernel_rfl)|(rw[if_neg (by decide+kernel)];exact⟨rfl,rfl⟩))
  (λ os started H enc _=>Zyz os started H enc)
theorem layeredRanks_holds :Rows.LayeredRanksCardSaid:=
 Claim7.holds_tied_plain_at .later [] [.data, .data] true (true, "aedaad92516876768e1caf54a72ba25701bd6e588e22f05541e2256aa9fc2635") false
  ZyA (λ _ h=>by cases h) (by kernel_rfl) (λ _ h=>by cases h) layeredRanks_row_tie rfl ⟨rfl,rfl⟩ (by kernel_rfl) rfl
  (λ f fn hf hfn=>by
   obtain rfl:f=6:=Option.some.inj ((show Tryz.prog.funcNamed "layout/layoutlaw27.LayeredRanks" =some 6 by kernel_rfl).symm.trans hf) |>.symm
   obtain rfl:fn=Tryz.f6:=(Option.some.inj (Tryz.func6.symm.trans hfn)).symm;exact⟨by kernel_rfl,ZnH (by kernel_rfl)⟩)
  (by kernel_rfl)
end Go.Proofs.YtjjbhjnpeenbkaaGreatDoor
