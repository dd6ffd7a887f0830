/- LayeredOrders: its row and its card. -/
import Derived.Test.YtjjbhjnpeenbkaaGreatDoorCards
import Derived.Test.YtjjbhjnpeenbkaaGreatDoorTie
import Derived.SevenTiedAt
import Derived.RowKit
import Derived.JoinedOf
import Derived.Test.YtjjbhjnpeenbkaaGreatDoorLyA
import Derived.Test.YtjjbhjnpeenbkaaGreatDoorLyV
set_option linter.unusedSimpArgs false
set_option linter.unusedVariables false
set_option maxHeartbeats 16000000
namespace Go.Proofs.YtjjbhjnpeenbkaaGreatDoor
open Go Go.PS Go.ChangeShapes Go.WideShapes Go.ChangeAt Go.RowKit Go.Proofs.YtjjbhjnpeenbkaaGreatDoor.Gr
theorem xq {P:Program}{ps:Array TypeId}(h:(ps.toList.all λ t=> !P.wantsStandIn t)=true)(j:Nat)(t:TypeId)(ht:ps[j]? =some t):P.wantsStandIn t=false:=by
 have:=List.all_eq_true.1 h t (by rw[<-Array.getElem?_toList]at ht;exact List.mem_of_getElem? ht);simpa using this
theorem Tryz.own :ownKnob Tryz.prog.godebug=none:=by kernel_rfl
theorem Tryz.laidOut :laidOutB Tryz.prog=true:=by kernel_rfl
abbrev listed :List (String×DataW Unit):=[("math/bits.deBruijn32tab",Rows.laid_math_bits_deBruijn32tab),("math/bits.deBruijn64tab",Rows.laid_math_bits_deBruijn64tab)]
theorem sA :Tryz.prog.globalNamed "math/bits.deBruijn64tab" =some 1:=by kernel_rfl
theorem zm (w:World)(h:laidMetH Tryz.prog listed w):iO (tabs Tryz.prog) w noX:=by
 have h1:laidMet Tryz.prog listed w:=h;have h2:=h1.tail;exact Il sA (Lib.tabIs_of_head sA (t:=289) (e:=5) (n:=64) (by kernel_rfl) (by kernel_rfl) (by kernel_rfl) (by kernel_rfl) (by kernel_rfl) (zs:=ja) h2)
noncomputable def rG (os:Os):World:=World.laidAll Tryz.prog os listed
theorem wP (os:Os)(args:Array Value):laidMetH Tryz.prog listed ((rG os).forCall (λ _ _=>0) ⟨#[],args,[]⟩).memory:=
 laidMet_laidAll args (by kernel_rfl) (by kernel_rfl)
set_option maxRecDepth 100000 in
theorem M7 (os:Os)(started:os.Started)(H:Type)(enc:TypeId×Value->H):
  ReturnsInHanded {} Tryz.checked os 7 .any (λ w args=>(Rows.layeredOrdersSpec.pre enc Tryz.prog Tryz.f7 [] false w args/\laidMetH Tryz.prog listed w)/\sizedMet enc Tryz.prog Tryz.f7 (OpenSpec.ofChange Rows.layeredOrdersSpec) false w args) (Rows.layeredOrdersSpec.post enc Tryz.prog Tryz.f7 false true false false):=
 E1 (C:=Tryz.checked) (tb:=4) Tryz.own started (by kernel_rfl) Tryz.func7
  (ChangeSpec.witness_at (enc:=enc) (C:=Tryz.checked) (os:=os) (X:=λ w _=>laidMetH Tryz.prog listed w) false (rG os) #[.agg #[.string ⟨#[]⟩, .bool false, .slice none 0 0, .slice none 0 0, .slice none 0 0], .agg #[.int .i64 0, .int .i64 0, .int .i64 0, .int .i64 0, .int .i64 0]] 8 (World.laidAll_os _ _ _) (by kernel_rfl) (by kernel_rfl) (by kernel_rfl) (by kernel_rfl) (by kernel_rfl) (wP os _)) Tryz.laidOut (by kernel_rfl) (by kernel_rfl) (by kernel_rfl) rfl
  (λ ds h=>by
   match ds,h with
   |[d0,d1],_=>rfl)
  (λ xs hl ha=>by
   match xs,hl with
   |[x0,x1],_=>
    obtain⟨y0,rfl⟩:=BU (ha 0 26 x0 (by kernel_rfl) rfl);obtain⟨y1,rfl⟩:=BV (ha 1 28 x1 (by kernel_rfl) rfl);exact M1 y0 y1) zm
theorem k_a :(Rows.layeredOrdersRow.inPlace==Tryz.prog.inPlace 7)=true:=by kernel_rfl
theorem k_b :(Rows.layeredOrdersRow.unfollowed==Tryz.prog.unfollowed 7)=true:=by kernel_rfl
theorem k_c :(Rows.layeredOrdersRow.recurses==Tryz.prog.recurses 7)=true:=by kernel_rfl
theorem k_d :(Rows.layeredOrdersRow.named==Tryz.prog.varsNamed 7)=true:=by kernel_rfl
theorem k_e :(Rows.layeredOrdersRow.lifted==Tryz.prog.liftsFinal)=true:=by kernel_rfl
set_option maxRecDepth 100000 in
theorem M6 :joinedFacts Tryz.prog 7 Tryz.f7 Rows.layeredOrdersSpec Rows.layeredOrdersRow=true:=by
 simp only[joinedFacts,Bool.and_eq_true]
 (repeat' apply And.intro)
 all_goals first|with_reducible exact k_a|with_reducible exact k_b|with_reducible exact k_c|with_reducible exact k_d|with_reducible exact k_e|kernel_rfl
theorem M8 :Rows.LayeredOrdersSaid:=
 OpenClaim.holds_of_wide 7 Tryz.f7 rfl rfl rfl rfl rfl rfl rfl ⟨rfl,rfl,rfl,rfl,rfl⟩ rfl rfl rfl rfl rfl (by kernel_rfl) Tryz.func7 M6
  (of_decide_eq_true (by kernel_rfl)) (by unfold Func.isWrapper;first|(rw[if_pos (by decide+kernel)];kernel_rfl)|(rw[if_neg (by decide+kernel)];exact⟨rfl,rfl⟩))
  (λ os started H enc _=>M7 os started H enc)
theorem layeredOrders_holds :Rows.LayeredOrdersCardSaid:=
 Claim7.holds_tied_plain_at .later [] [.data, .data] true (true, "aedaad92516876768e1caf54a72ba25701bd6e588e22f05541e2256aa9fc2635") false
  M8 (λ _ h=>by cases h) (by kernel_rfl) (λ _ h=>by cases h) layeredOrders_row_tie rfl ⟨rfl,rfl⟩ (by kernel_rfl) rfl
  (λ f fn hf hfn=>by
   obtain rfl:f=7:=Option.some.inj ((show Tryz.prog.funcNamed "layout/layoutlaw27.LayeredOrders" =some 7 by kernel_rfl).symm.trans hf) |>.symm
   obtain rfl:fn=Tryz.f7:=(Option.some.inj (Tryz.func7.symm.trans hfn)).symm;exact⟨by kernel_rfl,xq (by kernel_rfl)⟩)
  (by kernel_rfl)
end Go.Proofs.YtjjbhjnpeenbkaaGreatDoor
