/- Part 70. -/
import Derived.Test.YtkdffbdnjfgpeaaGreatY51
import Derived.Test.YtkdffbdnjfgpeaaGreatY60
set_option linter.all false
namespace Go.Proofs.YtkdffbdnjfgpeaaGreat
open Go Go.RowKit Go.Proofs.Tryz
def nP:GP:=⟨2,noV,0,[]⟩
def Zuz:GT:=⟨9,noV,[],0,0,[],nP,[ZpB 1]⟩
def ZuB:GT:=⟨9,noV,[],0,0,[],nP,[Yh 0 1]⟩
def ZvI:GT:=⟨3,noV,[],0,0,[1,1],noP,[Zuz,ZpB 1]⟩
def kT (k:Int):GT:=⟨k,noV,[],0,0,[],noP,[]⟩
def Ps (t:GT) (n:Nat) (p1 p2 p3 p4:Nat×Nat):Prop:=
 (Z3 t).2=0∧Zpw (W9 t (Zqz fun y=>XX y ⟨1,1,[]⟩) n ⟨#[]⟩) (2 ^ n)=Zpw p1.1 p1.2∧Zpw (W9 t ZpX n ⟨#[]⟩) (2 ^ n)=Zpw p2.1 p2.2∧Zpw (W9 t Zp3 n ⟨#[]⟩) (2 ^ n)=Zpw p3.1 p3.2∧Zpw (W9 t Zp2 n ⟨#[]⟩) (2 ^ n)=Zpw p4.1 p4.2
set_option maxRecDepth 1000000
theorem ps1:Ps Zuz 3 (0,1) (0,1) (1,1) (0,1):=⟨by decide +kernel,kr,kr,kr,kr⟩
theorem ps2:Ps ZuB 3 (0,1) (1,1) (0,1) (3,1):=⟨by decide +kernel,kr,kr,kr,kr⟩
theorem ZwP:Ps ZvI 0 (0,1) (1,1) (0,1) (0,1):=⟨by decide +kernel,kr,kr,kr,kr⟩
theorem ps4:Ps ZvI 2 (1,2) (0,1) (1,2) (1,2):=⟨by decide +kernel,kr,kr,kr,kr⟩
theorem ps5:Ps (ZpB 1) 12 (1,1) (0,1) (0,1) (0,1):=⟨by decide +kernel,kr,kr,kr,kr⟩
theorem ZwQ:Ps (Yh 0 1) 12 (1,2) (0,1) (0,1) (1,1):=⟨by decide +kernel,kr,kr,kr,kr⟩
set_option maxRecDepth 512
def ZwZ:List (ByteArray×GV):=[(⟨#[49]⟩,⟨1,1,[]⟩)]
def h55:List (ByteArray×GV):=[(⟨#[]⟩,⟨1,5,[]⟩)]
theorem el1:Zpv Zuz 3=[]:=kr
theorem el2:Zpv ZuB 3=[]:=kr
theorem el3:Zpv ZvI 3=ZwZ:=kr
theorem el4:Zpv (Yh 5 5) 0=h55:=kr
theorem el5:Zpv (Yh 0 1) 0=[]:=kr
theorem ZxE:(Z3 (Yh 5 5)).2=0:=by decide +kernel
theorem ek0:(Z3 (kT 0)).2=11:=by decide +kernel
theorem ZxF:(Z3 (kT 11)).2=10:=by decide +kernel
section
theorem ZvJ:okP nP:=Y3.2 ⟨by unfold Yg nP;simp,ZA.2 ⟨by unfold Yg nP noV;simp,by unfold Zv nP noV;simp,by simp [nP,noV],by simp [nP,noV,okVs]⟩,by unfold Zv nP;simp,by simp [nP],by simp [nP,okPs]⟩
theorem Zw6 (k:Int) (h:Yg k):okT (kT k):=Ze.2 ⟨h,ZA.2 ⟨by unfold Yg kT noV;simp,by unfold Zv kT noV;simp,by simp [kT,noV],by simp [kT,noV,okVs]⟩,⟨by simp [kT],by simp [kT,okVs]⟩,by unfold Zv kT;simp,by unfold Zv kT;simp,⟨by simp [kT],by simp [kT,okIs]⟩,(Ze.1 (Zsz 1 (by unfold Zv;omega))).2.2.2.2.2.2.1,by simp [kT],by simp [kT,okTs]⟩
theorem Zvl (x:GT) (h:okT x):okT ⟨9,noV,[],0,0,[],nP,[x]⟩:=Ze.2 ⟨by unfold Yg;simp,ZA.2 ⟨by unfold Yg noV;simp,by unfold Zv noV;simp,by simp [noV],by simp [noV,okVs]⟩,⟨sm,by simp [okVs]⟩,by unfold Zv;simp,by unfold Zv;simp,⟨sm,by simp [okIs]⟩,ZvJ,sm,by
 simp only [okTs,and_true];exact h⟩
theorem ZvH:okT Zuz:=Zvl _ (Zsz 1 (by unfold Zv;omega))
theorem ZvF:okT ZuB:=Zvl _ (ZaW 0 1 (by unfold Zv;omega) (by unfold Zv;omega))
theorem ZwL:okT ZvI:=Ze.2 ⟨by unfold Yg ZvI;simp,ZA.2 ⟨by unfold Yg ZvI noV;simp,by unfold Zv ZvI noV;simp,by simp [ZvI,noV],by simp [ZvI,noV,okVs]⟩,⟨by simp [ZvI],by simp [ZvI,okVs]⟩,by unfold Zv ZvI;simp,by unfold Zv ZvI;simp,⟨by simp [ZvI],by simp [ZvI,okIs,Zv]⟩,(Ze.1 (Zsz 1 (by unfold Zv;omega))).2.2.2.2.2.2.1,by simp [ZvI],by
 simp only [ZvI,okTs,and_true];exact ⟨ZvH,Zsz 1 (by unfold Zv;omega)⟩⟩
theorem Zxj {w:World} {A:Nat→Prop} (k:Int):RT w A (kT k) VZ:=Zj9 rfl rfl rfl rfl rfl rfl
theorem ZwU (k:Int):Zb (kT k)≤1099511627776:=by simp [kT,Zb,Zg,Zi,Zm,ZY,Z5,noV,noP]
theorem Zvi:Zb Zuz≤1099511627776:=by simp [Zuz,ZpB,nP,Zb,Zg,Zi,Zm,ZY,Z5,noV,noP]
theorem Zvh:Zb ZuB≤1099511627776:=by simp [ZuB,Yh,nP,Zb,Zg,Zi,Zm,ZY,Z5,noV,noP]
theorem ZwJ:Zb ZvI≤1099511627776:=by simp [ZvI,Zuz,ZpB,nP,Zb,Zg,Zi,Zm,ZY,Z5,noV,noP]
def mS (b:Nat):TA:=⟨none,0,none,0,none,0,none,0,none,0,some ⟨b,0,none⟩,1⟩
def mH (a b:Nat):TA:=⟨none,0,none,0,some ⟨a,0,none⟩,2,none,0,none,0,some ⟨b,0,none⟩,2⟩
theorem ZwK {w:World} {b:Nat} (h:At w b 0 [.int .u8 1,.int .u8 1,.int .i64 1,.slice none 0 0,.slice none 0 0,.int .i64 0,.int .i64 0,.slice none 0 0,.int .u8 0,.int .u8 0,.int .i64 0,.slice none 0 0,.int .i64 0,.slice none 0 0,.slice none 0 0]):RT w (fun _=>True) Zuz (mS b):=
 Zo.2 ⟨by rw [Zl];simp [Zuz,noV,RVs],by simp [Zuz,RVs],by simp [Zuz,RIs],Zj8 rfl rfl,by show RTs w (fun _=>True) [ZpB 1] (some ⟨b,0,none⟩);simp only [RTs];exact ⟨b,0,VZ,rfl,trivial,h,Zts 1,trivial⟩⟩
theorem ZwM {w:World} {b:Nat} (h:At w b 0 [.int .u8 2,.int .u8 0,.int .i64 0,.slice none 0 0,.slice none 0 0,.int .i64 0,.int .i64 1,.slice none 0 0,.int .u8 0,.int .u8 0,.int .i64 0,.slice none 0 0,.int .i64 0,.slice none 0 0,.slice none 0 0]):RT w (fun _=>True) ZuB (mS b):=
 Zo.2 ⟨by rw [Zl];simp [ZuB,noV,RVs],by simp [ZuB,RVs],by simp [ZuB,RIs],Zj8 rfl rfl,by show RTs w (fun _=>True) [Yh 0 1] (some ⟨b,0,none⟩);simp only [RTs];exact ⟨b,0,VZ,rfl,trivial,h,Zgy 0 1,trivial⟩⟩
theorem ZwN {w:World} {a b c:Nat} (h0:At w c 0 [.int .u8 1,.int .u8 1,.int .i64 1,.slice none 0 0,.slice none 0 0,.int .i64 0,.int .i64 0,.slice none 0 0,.int .u8 0,.int .u8 0,.int .i64 0,.slice none 0 0,.int .i64 0,.slice none 0 0,.slice none 0 0]) (h1:At w a 0 [.int .i64 1,.int .i64 1])
  (h2:At w b 0 [.int .u8 9,.int .u8 0,.int .i64 0,.slice none 0 0,.slice none 0 0,.int .i64 0,.int .i64 0,.slice none 0 0,.int .u8 2,.int .u8 0,.int .i64 0,.slice none 0 0,.int .i64 0,.slice none 0 0,.slice (some ⟨c,0,none⟩) 1 1]) (h3:At w b 15 [.int .u8 1,.int .u8 1,.int .i64 1,.slice none 0 0,.slice none 0 0,.int .i64 0,.int .i64 0,.slice none 0 0,.int .u8 0,.int .u8 0,.int .i64 0,.slice none 0 0,.int .i64 0,.slice none 0 0,.slice none 0 0]):RT w (fun _=>True) ZvI (mH a b):=by
 refine Zo.2 ⟨by rw [Zl];simp [ZvI,noV,RVs],by simp [ZvI,RVs],?_,Zj8 rfl rfl,?_⟩
 ·show RIs w (fun _=>True) [1,1] (some ⟨a,0,none⟩)
  simp only [RIs]
  exact ⟨a,0,rfl,trivial,⟨h1.1,trivial⟩,a,1,rfl,trivial,⟨h1.2.1,trivial⟩,trivial⟩
 show RTs w (fun _=>True) [Zuz,ZpB 1] (some ⟨b,0,none⟩)
 simp only [RTs]
 exact ⟨b,0,mS c,rfl,trivial,h2,ZwK h0,b,15,VZ,rfl,trivial,h3,Zts 1,trivial⟩
theorem ZwI {t:GT} {n:Nat} {p1 p2 p3 p4:Nat×Nat} (h:Ps t n p1 p2 p3 p4) (w:World) (A:Nat→Prop) (m:TA) (ox:okT t) (hs:Zb t≤1099511627776) (hl:RT w A t m) (hn:n≤12) (g1:p1.1 < 65536∧p1.2 < 65536∧0 < p1.2) (g2:p2.1 < 65536∧p2.2 < 65536∧0 < p2.2) (g3:p3.1 < 65536∧p3.2 < 65536∧0 < p3.2) (g4:p4.1 < 65536∧p4.2 < 65536∧0 < p4.2):
  Calls prog 28 #[TV t m,.int .i64 n,.int .i64 1,.agg #[.int .i64 p1.1,.int .i64 p1.2],.agg #[.int .i64 p2.1,.int .i64 p2.2],.agg #[.int .i64 p3.1,.int .i64 p3.2],.agg #[.int .i64 p4.1,.int .i64 p4.2]] w fun e w'=>e=.returned (.bool true)∧Below w.heap.size w w':=
 Zqy t n 1 _ _ _ _ _ _ _ _ _ _ _ _ w A m ox hs hl hn h.1 (by unfold Zv;omega) h.2.1 h.2.2.1 h.2.2.2.1 h.2.2.2.2 rfl rfl rfl rfl g1 g2 g3 g4
section
variable (w:World)
theorem pt1 (b:Nat) (hl:RT w (fun _=>True) Zuz (mS b)):Calls prog 28 #[.agg #[.int .u8 9,.int .u8 0,.int .i64 0,.slice none 0 0,.slice none 0 0,.int .i64 0,.int .i64 0,.slice none 0 0,.int .u8 2,.int .u8 0,.int .i64 0,.slice none 0 0,.int .i64 0,.slice none 0 0,.slice (some ⟨b,0,none⟩) 1 1],.int .i64 3,.int .i64 1,.agg #[.int .i64 0,.int .i64 1],.agg #[.int .i64 0,.int .i64 1],.agg #[.int .i64 1,.int .i64 1],.agg #[.int .i64 0,.int .i64 1]] w fun e w'=>e=.returned (.bool true)∧Below w.heap.size w w':=
 ZwI ps1 w _ (mS b) ZvH Zvi hl om om om om om
theorem pt2 (b:Nat) (hl:RT w (fun _=>True) ZuB (mS b)):Calls prog 28 #[.agg #[.int .u8 9,.int .u8 0,.int .i64 0,.slice none 0 0,.slice none 0 0,.int .i64 0,.int .i64 0,.slice none 0 0,.int .u8 2,.int .u8 0,.int .i64 0,.slice none 0 0,.int .i64 0,.slice none 0 0,.slice (some ⟨b,0,none⟩) 1 1],.int .i64 3,.int .i64 1,.agg #[.int .i64 0,.int .i64 1],.agg #[.int .i64 1,.int .i64 1],.agg #[.int .i64 0,.int .i64 1],.agg #[.int .i64 3,.int .i64 1]] w fun e w'=>e=.returned (.bool true)∧Below w.heap.size w w':=
 ZwI ps2 w _ (mS b) ZvF Zvh hl om om om om om
theorem pt3 (a b:Nat) (hl:RT w (fun _=>True) ZvI (mH a b)):Calls prog 28 #[.agg #[.int .u8 3,.int .u8 0,.int .i64 0,.slice none 0 0,.slice none 0 0,.int .i64 0,.int .i64 0,.slice (some ⟨a,0,none⟩) 2 2,.int .u8 0,.int .u8 0,.int .i64 0,.slice none 0 0,.int .i64 0,.slice none 0 0,.slice (some ⟨b,0,none⟩) 2 2],.int .i64 0,.int .i64 1,.agg #[.int .i64 0,.int .i64 1],.agg #[.int .i64 1,.int .i64 1],.agg #[.int .i64 0,.int .i64 1],.agg #[.int .i64 0,.int .i64 1]] w fun e w'=>e=.returned (.bool true)∧Below w.heap.size w w':=
 ZwI ZwP w _ (mH a b) ZwL ZwJ hl om om om om om
theorem pt4 (a b:Nat) (hl:RT w (fun _=>True) ZvI (mH a b)):Calls prog 28 #[.agg #[.int .u8 3,.int .u8 0,.int .i64 0,.slice none 0 0,.slice none 0 0,.int .i64 0,.int .i64 0,.slice (some ⟨a,0,none⟩) 2 2,.int .u8 0,.int .u8 0,.int .i64 0,.slice none 0 0,.int .i64 0,.slice none 0 0,.slice (some ⟨b,0,none⟩) 2 2],.int .i64 2,.int .i64 1,.agg #[.int .i64 1,.int .i64 2],.agg #[.int .i64 0,.int .i64 1],.agg #[.int .i64 1,.int .i64 2],.agg #[.int .i64 1,.int .i64 2]] w fun e w'=>e=.returned (.bool true)∧Below w.heap.size w w':=
 ZwI ps4 w _ (mH a b) ZwL ZwJ hl om om om om om
theorem pt5:Calls prog 28 #[.agg #[.int .u8 1,.int .u8 1,.int .i64 1,.slice none 0 0,.slice none 0 0,.int .i64 0,.int .i64 0,.slice none 0 0,.int .u8 0,.int .u8 0,.int .i64 0,.slice none 0 0,.int .i64 0,.slice none 0 0,.slice none 0 0],.int .i64 12,.int .i64 1,.agg #[.int .i64 1,.int .i64 1],.agg #[.int .i64 0,.int .i64 1],.agg #[.int .i64 0,.int .i64 1],.agg #[.int .i64 0,.int .i64 1]] w fun e w'=>e=.returned (.bool true)∧Below w.heap.size w w':=
 ZwI ps5 w (fun _=>True) VZ (Zsz 1 (by unfold Zv;omega)) (Zru 1) (Zts 1) om om om om om
theorem pt6:Calls prog 28 #[.agg #[.int .u8 2,.int .u8 0,.int .i64 0,.slice none 0 0,.slice none 0 0,.int .i64 0,.int .i64 1,.slice none 0 0,.int .u8 0,.int .u8 0,.int .i64 0,.slice none 0 0,.int .i64 0,.slice none 0 0,.slice none 0 0],.int .i64 12,.int .i64 1,.agg #[.int .i64 1,.int .i64 2],.agg #[.int .i64 0,.int .i64 1],.agg #[.int .i64 0,.int .i64 1],.agg #[.int .i64 1,.int .i64 1]] w fun e w'=>e=.returned (.bool true)∧Below w.heap.size w w':=
 ZwI ZwQ w (fun _=>True) VZ (ZaW 0 1 (by unfold Zv;omega) (by unfold Zv;omega)) (J4 0 1) (Zgy 0 1) om om om om om
theorem ht1 (b:Nat) (hl:RT w (fun _=>True) Zuz (mS b)):Calls prog 30 #[.agg #[.int .u8 9,.int .u8 0,.int .i64 0,.slice none 0 0,.slice none 0 0,.int .i64 0,.int .i64 0,.slice none 0 0,.int .u8 2,.int .u8 0,.int .i64 0,.slice none 0 0,.int .i64 0,.slice none 0 0,.slice (some ⟨b,0,none⟩) 1 1],.int .i64 3,.slice none 0 0] w fun e w'=>e=.returned (.bool true)∧Below w.heap.size w w':=
 Zqx Zuz 3 [] w _ (fun _=>True) (mS b) none 0 ZvH Zvi hl om ps1.1 el1 (by simp [List.length]) (fun p hp=>by simp at hp) (by simp only [RJs])
theorem ht2 (b:Nat) (hl:RT w (fun _=>True) ZuB (mS b)):Calls prog 30 #[.agg #[.int .u8 9,.int .u8 0,.int .i64 0,.slice none 0 0,.slice none 0 0,.int .i64 0,.int .i64 0,.slice none 0 0,.int .u8 2,.int .u8 0,.int .i64 0,.slice none 0 0,.int .i64 0,.slice none 0 0,.slice (some ⟨b,0,none⟩) 1 1],.int .i64 3,.slice none 0 0] w fun e w'=>e=.returned (.bool true)∧Below w.heap.size w w':=
 Zqx ZuB 3 [] w _ (fun _=>True) (mS b) none 0 ZvF Zvh hl om ps2.1 el2 (by simp [List.length]) (fun p hp=>by simp at hp) (by simp only [RJs])
theorem ht3 (a b:Nat) (hl:RT w (fun _=>True) ZvI (mH a b)) (g d:Nat) (k0:w.cell? ⟨g,0,none⟩=some (.string ⟨#[49]⟩)) (k1:w.cell? ⟨g,1,none⟩=some (.int .u8 1)) (k2:w.cell? ⟨g,2,none⟩=some (.int .i64 1)) (k3:w.cell? ⟨g,3,none⟩=some (.slice none 0 0)):Calls prog 30 #[.agg #[.int .u8 3,.int .u8 0,.int .i64 0,.slice none 0 0,.slice none 0 0,.int .i64 0,.int .i64 0,.slice (some ⟨a,0,none⟩) 2 2,.int .u8 0,.int .u8 0,.int .i64 0,.slice none 0 0,.int .i64 0,.slice none 0 0,.slice (some ⟨b,0,none⟩) 2 2],.int .i64 3,.slice (some ⟨g,0,none⟩) 1 d] w fun e w'=>e=.returned (.bool true)∧Below w.heap.size w w':=
 Zqx ZvI 3 ZwZ w _ (fun _=>True) (mH a b) (some ⟨g,0,none⟩) d ZwL ZwJ hl om ps4.1 el3 (by simp [ZwZ]) (fun p hp=>by
  simp [ZwZ] at hp
  subst hp
  exact ZA.2 ⟨by unfold Yg;simp,by unfold Zv;simp,sm,by simp [okVs]⟩) (by
  simp only [ZwZ,RJs]
  exact ⟨g,0,⟨none,0⟩,rfl,trivial,Zsd.2 ⟨k0,k1,k2,k3⟩,by rw [Zl];simp only [RVs],trivial⟩)
theorem ht4 (g d:Nat) (k0:w.cell? ⟨g,0,none⟩=some (.string ⟨#[]⟩)) (k1:w.cell? ⟨g,1,none⟩=some (.int .u8 1)) (k2:w.cell? ⟨g,2,none⟩=some (.int .i64 5)) (k3:w.cell? ⟨g,3,none⟩=some (.slice none 0 0)):Calls prog 30 #[.agg #[.int .u8 2,.int .u8 0,.int .i64 0,.slice none 0 0,.slice none 0 0,.int .i64 5,.int .i64 5,.slice none 0 0,.int .u8 0,.int .u8 0,.int .i64 0,.slice none 0 0,.int .i64 0,.slice none 0 0,.slice none 0 0],.int .i64 0,.slice (some ⟨g,0,none⟩) 1 d] w fun e w'=>e=.returned (.bool true)∧Below w.heap.size w w':=
 Zqx (Yh 5 5) 0 h55 w (fun _=>True) (fun _=>True) VZ (some ⟨g,0,none⟩) d (ZaW 5 5 (by unfold Zv;omega) (by unfold Zv;omega)) (J4 5 5) (Zgy 5 5) om ZxE el4 (by simp [h55]) (fun p hp=>by
  simp [h55] at hp
  subst hp
  exact ZA.2 ⟨by unfold Yg;simp,by unfold Zv;simp,sm,by simp [okVs]⟩) (by
  simp only [h55,RJs]
  exact ⟨g,0,⟨none,0⟩,rfl,trivial,Zsd.2 ⟨k0,k1,k2,k3⟩,by rw [Zl];simp only [RVs],trivial⟩)
theorem ht5:Calls prog 30 #[.agg #[.int .u8 2,.int .u8 0,.int .i64 0,.slice none 0 0,.slice none 0 0,.int .i64 0,.int .i64 1,.slice none 0 0,.int .u8 0,.int .u8 0,.int .i64 0,.slice none 0 0,.int .i64 0,.slice none 0 0,.slice none 0 0],.int .i64 0,.slice none 0 0] w fun e w'=>e=.returned (.bool true)∧Below w.heap.size w w':=
 Zqx (Yh 0 1) 0 [] w (fun _=>True) (fun _=>True) VZ none 0 (ZaW 0 1 (by unfold Zv;omega) (by unfold Zv;omega)) (J4 0 1) (Zgy 0 1) om ZwQ.1 el5 (by simp [List.length]) (fun p hp=>by simp at hp) (by simp only [RJs])
theorem ea1:Calls prog 13 #[.agg #[.int .u8 1,.int .u8 1,.int .i64 1,.slice none 0 0,.slice none 0 0,.int .i64 0,.int .i64 0,.slice none 0 0,.int .u8 0,.int .u8 0,.int .i64 0,.slice none 0 0,.int .i64 0,.slice none 0 0,.slice none 0 0],.int .i64 13] w fun e w'=>e=.returned (.tuple #[.slice none 0 0,.int .i64 1])∧Below w.heap.size w w':=by
 have e:Zqq (ZpB 1) 13=1:=by unfold Zqq;rw [if_pos om]
 have:=Zrk (ZpB 1) 13 w (fun _=>True) VZ (Zsz 1 (by unfold Zv;omega)) (Zru 1) (Zts 1) (by rw [e];omega)
 rw [e] at this
 exact this
theorem ea2:Calls prog 13 #[.agg #[.int .u8 1,.int .u8 1,.int .i64 1,.slice none 0 0,.slice none 0 0,.int .i64 0,.int .i64 0,.slice none 0 0,.int .u8 0,.int .u8 0,.int .i64 0,.slice none 0 0,.int .i64 0,.slice none 0 0,.slice none 0 0],.int .i64 (-1)] w fun e w'=>e=.returned (.tuple #[.slice none 0 0,.int .i64 1])∧Below w.heap.size w w':=by
 have e:Zqq (ZpB 1) (-1)=1:=by unfold Zqq;rw [if_pos om]
 have:=Zrk (ZpB 1) (-1) w (fun _=>True) VZ (Zsz 1 (by unfold Zv;omega)) (Zru 1) (Zts 1) (by rw [e];omega)
 rw [e] at this
 exact this
theorem ea3:Calls prog 13 #[.agg #[.int .u8 0,.int .u8 0,.int .i64 0,.slice none 0 0,.slice none 0 0,.int .i64 0,.int .i64 0,.slice none 0 0,.int .u8 0,.int .u8 0,.int .i64 0,.slice none 0 0,.int .i64 0,.slice none 0 0,.slice none 0 0],.int .i64 (-1)] w fun e w'=>e=.returned (.tuple #[.slice none 0 0,.int .i64 1])∧Below w.heap.size w w':=by
 have e:Zqq (kT 0) (-1)=1:=by unfold Zqq;rw [if_pos om]
 have:=Zrk (kT 0) (-1) w (fun _=>True) VZ (Zw6 0 (by unfold Yg;omega)) (ZwU 0) (Zxj 0) (by rw [e];omega)
 rw [e] at this
 exact this
theorem ea4:Calls prog 13 #[.agg #[.int .u8 0,.int .u8 0,.int .i64 0,.slice none 0 0,.slice none 0 0,.int .i64 0,.int .i64 0,.slice none 0 0,.int .u8 0,.int .u8 0,.int .i64 0,.slice none 0 0,.int .i64 0,.slice none 0 0,.slice none 0 0],.int .i64 0] w fun e w'=>e=.returned (.tuple #[.slice none 0 0,.int .i64 11])∧Below w.heap.size w w':=by
 have e:Zqq (kT 0) 0=11:=by unfold Zqq;rw [if_neg om];exact ek0
 have:=Zrk (kT 0) 0 w (fun _=>True) VZ (Zw6 0 (by unfold Yg;omega)) (ZwU 0) (Zxj 0) (by rw [e];omega)
 rw [e] at this
 exact this
theorem ep1:Calls prog 17 #[.agg #[.int .u8 11,.int .u8 0,.int .i64 0,.slice none 0 0,.slice none 0 0,.int .i64 0,.int .i64 0,.slice none 0 0,.int .u8 0,.int .u8 0,.int .i64 0,.slice none 0 0,.int .i64 0,.slice none 0 0,.slice none 0 0],.int .i64 1,.agg #[.int .u8 1,.int .i64 1,.slice none 0 0]] w fun e w'=>e=.returned (.tuple #[.agg #[.bool false,.slice none 0 0,.slice none 0 0],.int .i64 10])∧Below w.heap.size w w':=by
 have e:Zqq (kT 11) 1=10:=by unfold Zqq;rw [if_neg om];exact ZxF
 have:=Zxg (kT 11) 1 ⟨1,1,[]⟩ ⟨none,0⟩ w (fun _=>True) VZ (Zw6 11 (by unfold Yg;omega)) (ZwU 11) (Zxj 11) (by rw [e];omega)
 rw [e] at this
 exact this
theorem er9:Calls prog 20 #[.agg #[.int .u8 11,.int .u8 0,.int .i64 0,.slice none 0 0,.slice none 0 0,.int .i64 0,.int .i64 0,.slice none 0 0,.int .u8 0,.int .u8 0,.int .i64 0,.slice none 0 0,.int .i64 0,.slice none 0 0,.slice none 0 0],.int .i64 13] w fun e w'=>e=.returned (.tuple #[.agg #[.bool false,.slice none 0 0,.slice none 0 0],.int .i64 1])∧Below w.heap.size w w':=by
 have e:Zqq (kT 11) 13=1:=by unfold Zqq;rw [if_pos om]
 have:=Zxd (kT 11) 13 w (fun _=>True) VZ (Zw6 11 (by unfold Yg;omega)) (ZwU 11) (Zxj 11) (by rw [e];omega)
 rw [e] at this
 exact this
end
set_option maxRecDepth 100000
set_option maxHeartbeats 1000000
theorem ZuK (k:Int) (t:GT) (m:TA) (w:World):Calls prog 25 #[.int .u8 k,TV t m] w fun e w'=>e=.returned (.agg #[.int .u8 9,.int .u8 0,.int .i64 0,.slice none 0 0,.slice none 0 0,.int .i64 0,.int .i64 0,.slice none 0 0,.int .u8 k,.int .u8 0,.int .i64 0,.slice none 0 0,.int .i64 0,.slice none 0 0,.slice (some ⟨w.heap.size+2,0,none⟩) 1 1])∧w.heap.size+2 < w'.heap.size∧At w' (w.heap.size+2) 0 (Zva t m)∧Below w.heap.size w w':=by
 obtain ⟨ma,mb,mc,md,me,mf,mg,mh,mi,mj,mk,ml⟩:=m
 go_enter func25,ntmps25
 go_wp2_with fail
 refine bodyPost_ret (v:=.agg #[.int .u8 9,.int .u8 0,.int .i64 0,.slice none 0 0,.slice none 0 0,.int .i64 0,.int .i64 0,.slice none 0 0,.int .u8 k,.int .u8 0,.int .i64 0,.slice none 0 0,.int .i64 0,.slice none 0 0,.slice (some ⟨w.heap.size+2,0,none⟩) 1 1]) (by first|(simp [results,Tryz.f25,go_sem];done)|(simp [results,Tryz.f25,go_sem, *];done)) rfl ?_
 exact ⟨rfl,sm,ZO.2 ⟨gs,gs,gs,gs,gs,gs,gs,gs,gs,gs,gs,gs,gs,gs,gs⟩,ZtZ⟩
end
end Go.Proofs.YtkdffbdnjfgpeaaGreat
